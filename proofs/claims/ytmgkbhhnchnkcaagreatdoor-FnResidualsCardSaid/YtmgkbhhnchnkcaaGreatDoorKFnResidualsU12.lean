/- The reference's ExactLegs, in plain. -/
import Derived.Test.YtmgkbhhnchnkcaaGreatDoorKFnResidualsU5
import Derived.Test.YtmgkbhhnchnkcaaGreatDoorKFnResidualsU6
import Derived.Test.YtmgkbhhnchnkcaaGreatDoorKFnResidualsU10
set_option linter.unusedSimpArgs false
set_option linter.unusedVariables false
namespace Go.Proofs.YtmgkbhhnchnkcaaGreatDoor
namespace Draw
open Go Go.RowKit YtmgkbhhnchnkcaaGreatDoorW.PrintWords Plain A
def Oks{α:Type}(g:Nat→Option α)(P:α→Prop):Prop:=∃r,Ev g r∧P r
theorem Oks.bind{α β:Type}{g:Nat→Option α}{f:Nat→α→Option β}{P:α→Prop}{Q:β→Prop}(h:Oks g P)(k:∀r,P r→Oks (fun n=>f n r) Q):Oks (fun n=>(g n).bind (f n)) Q:=by
 obtain⟨r,h1,h2⟩:=h;obtain⟨q,k1,k2⟩:=k r h2;exact⟨q,Ev.bind h1 k1,k2⟩
theorem Oks.now{α:Type}{P:α→Prop}{r:α}(h:P r):Oks (fun _=>some r) P:=⟨r,Ev.now _,h⟩
theorem Oks.pos{α:Type}{c:Prop}[Decidable c]{g f:Nat→Option α}{P:α→Prop}(hc:c)(h:Oks g P):Oks (fun n=>if c then g n else f n) P:=by
 obtain⟨r,h1,h2⟩:=h;exact⟨r,Ev.pos hc h1,h2⟩
theorem Oks.neg{α:Type}{c:Prop}[Decidable c]{g f:Nat→Option α}{P:α→Prop}(hc:¬c)(h:Oks f P):Oks (fun n=>if c then g n else f n) P:=by
 obtain⟨r,h1,h2⟩:=h;exact⟨r,Ev.neg hc h1,h2⟩
theorem Oks.ite{α:Type}{c:Prop}[Decidable c]{g f:Nat→Option α}{P:α→Prop}(h:c→Oks g P)(k:¬c→Oks f P):Oks (fun n=>if c then g n else f n) P:=by
 by_cases hc:c
 · exact Oks.pos hc (h hc)
 · exact Oks.neg hc (k hc)
theorem Oks.step{α:Type}{g f:Nat→Option α}{P:α→Prop}(e:∀k,g (k+1)=f k)(h:Oks f P):Oks g P:=by
 obtain⟨r,h1,h2⟩:=h;exact⟨r,Ev.step e h1,h2⟩
theorem Oks.imp{α:Type}{g:Nat→Option α}{P Q:α→Prop}(h:Oks g P)(k:∀r,P r→Q r):Oks g Q:=by
 obtain⟨r,h1,h2⟩:=h;exact⟨r,h1,k r h2⟩
theorem Oks.of{α:Type}{g:Nat→Option α}{P:α→Prop}{r:α}(h:Ev g r)(k:P r):Oks g P:=⟨r,h,k⟩
def Bytes(code:List Int):Prop:=∀x∈code,0≤x∧x≤255
theorem Bytes.of_wf{code:List Int}(h:∀x∈code,(Lit.int .u8 x).wf=true):Bytes code:=fun x hx=>by
 have:=h x hx;simp only[Lit.wf,IntKind.min,IntKind.max,IntKind.signed,IntKind.bits,Bool.and_eq_true,decide_eq_true_eq,Bool.false_eq_true,if_false]at this;omega
theorem Bytes.at_{code:List Int}(h:Bytes code)(i:Int):0≤rd code i∧rd code i≤255:=by
 have e:rd code i=code.getD i.toNat 0:=rfl;rw[e];by_cases hi:i.toNat<code.length
 ·have e2:code.getD i.toNat 0=code[i.toNat]:=by simp[List.getD,hi]
  rw[e2];exact h _ (List.getElem_mem hi)
 ·have e2:code.getD i.toNat 0=0:=by simp[List.getD,hi]
  rw[e2];omega
theorem and255(x:Int)(h0:0≤x)(h1:x≤18446744073709551615):0≤Go.bits .and .u64 x 255∧Go.bits .and .u64 x 255≤255:=by
 have h:=bits_and_u64_nat x.toNat 255 (by omega) (by omega);rw[Int.toNat_of_nonneg h0]at h;have h2:x.toNat &&& 255≤255:=Nat.and_le_right;have e:Go.bits .and .u64 x 255=((x.toNat &&& 255:Nat):Int):=h;rw[e];omega
theorem seed_low(x:Int):0≤wrap64 (Go.bits .and .u64 (IntKind.u64.wrap x/1099511627776) 255)∧wrap64 (Go.bits .and .u64 (IntKind.u64.wrap x/1099511627776) 255)≤255:=by
 have h:=IntKind.wrap_u64 x;have h2:=and255 (IntKind.u64.wrap x/1099511627776) (by omega) (by omega);rw[w64 (by omega) (by omega)];exact h2
theorem next_ok{code:List Int}(hc:Bytes code)(hl:code.length≤65536)(a s:Int)(h0:0≤a)(h1:a≤1000000000):∃v s',spec_l1Cur_next.f code a s=some (v,a+1,s')∧0≤v∧v≤255:=by
 have hr:=hc.at_ a;have e1:wrap64 (rd code a)=rd code a:=w64 (by omega) (by omega);have e2:wrap64 (a+1)=a+1:=w64 (by omega) (by omega);unfold spec_l1Cur_next.f;rw[e2];by_cases c1:a<(code.length:Int)
 ·rw[if_pos c1,if_pos h0,if_pos (by omega),e1];exact⟨_,_,rfl,hr⟩
 ·rw[if_neg c1,if_neg (by omega)];exact⟨_,_,rfl,seed_low _⟩
theorem pick_ok{code:List Int}(hc:Bytes code)(hl:code.length≤65536)(a s n:Int)(h0:0≤a)(h1:a≤100000000):∃v a' s',spec_l1Cur_pick.f code a s n=some (v,a',s')∧0≤v∧(0<n→v<n)∧a≤a'∧a'≤a+2:=by
 unfold spec_l1Cur_pick.f;by_cases c1:n≤1
 ·rw[if_pos c1];exact⟨0,a,s,rfl,by omega,by omega,by omega,by omega⟩
 rw[if_neg c1];obtain⟨v,s1,e,hv⟩:=next_ok hc hl a s h0 (by omega);rw[e,Option.bind_some];by_cases c2:n>200
 ·obtain⟨v2,s2,e2,hv2⟩:=next_ok hc hl (a+1) s1 (by omega) (by omega);have e3:wrap64 (wrap64 (v*256)+v2)=v*256+v2:=by rw[w64 (x:=v*256) (by omega) (by omega),w64 (by omega) (by omega)]
  rw[if_pos c2,e2,Option.bind_some,if_neg (by omega),e3];have hm:=Int.tmod_lt_of_pos (v*256+v2) (show(0:Int)<n by omega);have hm0:=Int.tmod_nonneg n (show(0:Int)≤v*256+v2 by omega);exact⟨_,_,_,rfl,hm0,fun _=>hm,qz42,qz42⟩
 ·rw[if_neg c2,if_neg (by omega)];have hm:=Int.tmod_lt_of_pos v (show(0:Int)<n by omega);have hm0:=Int.tmod_nonneg n (show(0:Int)≤v by omega);exact⟨_,_,_,rfl,hm0,fun _=>hm,qz42,qz42⟩
theorem among_ok{code:List Int}(hc:Bytes code)(hl:code.length≤65536)(a s:Int)(l:List Int)(hn:0<l.length)(h0:0≤a)(h1:a≤100000000):∃v a' s',spec_l1Cur_among.f code a s l=some (v,a',s')∧v∈l∧a≤a'∧a'≤a+2:=by
 unfold spec_l1Cur_among.f;obtain⟨v,a',s',e,hv0,hv1,ha⟩:=pick_ok hc hl a s (l.length:Int) h0 h1;have hv:=hv1 (by omega);rw[e,Option.bind_some,if_pos hv0,if_pos hv];refine⟨_,_,_,rfl,?_,ha⟩;have e2:rd l v=l.getD v.toNat 0:=rfl;have hi:v.toNat<l.length:=by omega
 have e3:l.getD v.toNat 0=l[v.toNat]:=by simp[List.getD,hi]
 rw[e2,e3];exact List.getElem_mem _
theorem pickK{code:List Int}(hc:Bytes code)(hl:code.length≤65536)(a s n:Int)(h0:0≤a)(h1:a≤100000000):Oks (fun _=>spec_l1Cur_pick.f code a s n) (fun r=>0≤r.1∧(0<n→r.1<n)∧a≤r.2.1∧r.2.1≤a+2):=by
 obtain⟨v,a',s',e,h⟩:=pick_ok hc hl a s n h0 h1;exact⟨_,Ev.some (fun _=>e),h⟩
theorem amongK{code:List Int}(hc:Bytes code)(hl:code.length≤65536)(a s:Int)(l:List Int)(hn:0<l.length)(h0:0≤a)(h1:a≤100000000):Oks (fun _=>spec_l1Cur_among.f code a s l) (fun r=>r.1∈l∧a≤r.2.1∧r.2.1≤a+2):=by
 obtain⟨v,a',s',e,h⟩:=among_ok hc hl a s l hn h0 h1;exact⟨_,Ev.some (fun _=>e),h⟩
theorem oneK{code:List Int}(hc:Bytes code)(hl:code.length≤65536)(a s n:Int)(h0:0≤a)(h1:a≤100000000):Oks (fun _=>spec_l1Cur_one.f code a s n) (fun r=>a≤r.2.1∧r.2.1≤a+2):=by
 obtain⟨v,a',s',e,h⟩:=pick_ok hc hl a s n h0 h1;exact⟨(v==0,a',s'),Ev.some (fun _=>by unfold spec_l1Cur_one.f;rw[e];rfl),h.2.2⟩
variable {code:List Int} (hc:Bytes code) (hl:code.length≤65536)
include hc hl
theorem leg_j0(a s b0 b1 b2 b3 b4:Int)(h0:0≤a)(h1:a≤90000000):Oks (fun k=>spec_l1Cur_leg.j0 k code a s b0 b1 b2 b3 b4) (fun r=>a≤r.2.2.2.2.2.1∧r.2.2.2.2.2.1≤a+4):=by
 refine Oks.step (fun k=>by simp only[spec_l1Cur_leg.j0];rfl) ?_;refine Oks.bind (pickK hc hl a s 40 h0 (by omega)) ?_;rintro⟨v,a1,s1⟩ ⟨e1,e2,e3,e4⟩
 dsimp only at e1 e2 e3 e4 ⊢
 refine Oks.ite (fun _=>?_) (fun _=>Oks.ite (fun _=>?_) (fun _=>Oks.ite (fun _=>?_) (fun _=>Oks.ite (fun _=>?_) (fun _=>Oks.now ⟨qz42,qz42⟩))))
 all_goals
  refine Oks.bind (amongK hc hl a1 s1 _ (by simp) (by omega) (by omega)) ?_;rintro⟨u,a2,s2⟩ ⟨_,g3,g4⟩
  dsimp only at g3 g4 ⊢
  exact Oks.now ⟨qz42,qz42⟩
theorem legK(a s:Int)(h0:0≤a)(h1:a≤80000000):Oks (fun k=>spec_l1Cur_leg.f k code a s) (fun r=>a≤r.2.2.2.2.2.1∧r.2.2.2.2.2.1≤a+20):=by
 unfold spec_l1Cur_leg.f;refine Oks.bind (pickK hc hl a s 6 h0 (by omega)) ?_;rintro⟨v1,a1,s1⟩ ⟨_,_,e3,e4⟩
 dsimp only at e3 e4 ⊢
 refine Oks.bind (pickK hc hl a1 s1 6 (by omega) (by omega)) ?_;rintro⟨v2,a2,s2⟩ ⟨_,_,f3,f4⟩
 dsimp only at f3 f4 ⊢
 refine Oks.bind (amongK hc hl a2 s2 _ (by simp) (by omega) (by omega)) ?_;rintro⟨v3,a3,s3⟩ ⟨_,g3,g4⟩
 dsimp only at g3 g4 ⊢
 refine Oks.bind (amongK hc hl a3 s3 _ (by simp) (by omega) (by omega)) ?_;rintro⟨v4,a4,s4⟩ ⟨_,h3,h4⟩
 dsimp only at h3 h4 ⊢
 refine Oks.bind (amongK hc hl a4 s4 _ (by simp) (by omega) (by omega)) ?_;rintro⟨v5,a5,s5⟩ ⟨_,i3,i4⟩
 dsimp only at i3 i4 ⊢
 exact Oks.ite (fun _=>(leg_j0 hc hl a5 s5 _ _ _ _ _ (by omega) (by omega)).imp fun r ⟨k1,k2⟩=>⟨by omega,by omega⟩) (fun _=>(leg_j0 hc hl a5 s5 _ _ _ _ _ (by omega) (by omega)).imp fun r ⟨k1,k2⟩=>⟨by omega,by omega⟩)
end Draw
namespace Draw
open Go Go.RowKit YtmgkbhhnchnkcaaGreatDoorW.PrintWords Plain A Net
theorem Oks.bindc{α β:Type}{o:Option α}{f:Nat→α→Option β}{a:α}{Q:β→Prop}(h:o=some a)(k:Oks (fun n=>f n a) Q):Oks (fun n=>o.bind (f n)) Q:=by
 subst h;exact k
theorem l1In_eq(x a b:Int):∃r,spec_l1In.f x a b=some r:=by
 unfold spec_l1In.f;split<;>exact⟨_,rfl⟩
theorem l2Long_eq(x:Int):∃r,spec_l2Long.f x=some r:=by
 unfold spec_l2Long.f;obtain⟨r,e⟩:=l1In_eq x (-100000) 100000;rw[e];exact⟨r,rfl⟩
theorem dlen_loop(n:Int):∀(d:Nat) (lo hi:Int),hi-lo≤d→0≤lo→hi≤200000→Oks (fun k=>spec_LengthOf.l0 k n lo hi) (fun _=>True):=by
 intro d
 induction d with
 |zero=>
  intro lo hi h h0 h1;refine Oks.step (fun k=>by simp only[spec_LengthOf.l0];rfl) ?_;exact Oks.neg (by omega) (Oks.now trivial)
 |succ d ih=>
  intro lo hi h h0 h1;refine Oks.step (fun k=>by simp only[spec_LengthOf.l0];rfl) ?_;refine Oks.ite (fun hlt=>?_) (fun _=>Oks.now trivial);have e1:wrap64 (lo+hi)=lo+hi:=w64 (by omega) (by omega);have e2:wrap64 (lo+hi+1)=lo+hi+1:=w64 (by omega) (by omega);have hd:Int.tdiv (lo+hi+1) 2=(lo+hi+1)/2:=Int.tdiv_eq_ediv_of_nonneg (by omega);have e3:wrap64 (Int.tdiv (lo+hi+1) 2)=(lo+hi+1)/2:=by rw[hd];exact w64 (by omega) (by omega)
  have e4:wrap64 ((lo+hi+1)/2-1)=(lo+hi+1)/2-1:=w64 (by omega) (by omega);rw[e1,e2,e3,e4];exact Oks.ite (fun _=>ih _ _ (by omega) (by omega) (by omega)) (fun _=>ih _ _ (by omega) (by omega) (by omega))
theorem dlen_j0(a b c:Int)(t:Bool):Oks (fun k=>spec_LengthOf.j0 k a b c t) (fun _=>True):=by
 refine Oks.step (fun k=>by simp only[spec_LengthOf.j0];rfl) ?_;exact Oks.ite (fun _=>Oks.now trivial) (fun _=>dlen_loop _ 200000 0 200000 (by omega) (by omega) (by omega))
theorem lengthK(a b c:Int):Oks (fun k=>spec_LengthOf.f k a b c) (fun _=>True):=by
 unfold spec_LengthOf.f;obtain⟨r,e⟩:=l2Long_eq a;obtain⟨r2,e2⟩:=l2Long_eq b;obtain⟨r3,e3⟩:=l2Long_eq c;exact Oks.bindc e (Oks.ite (fun _=>Oks.bindc e2 (Oks.ite (fun _=>Oks.bindc e3 (dlen_j0 _ _ _ _)) (fun _=>dlen_j0 _ _ _ _))) (fun _=>dlen_j0 _ _ _ _))
theorem bear_loop(x y:Int):∀(d:Nat) (b i:Int),i+d=360→1≤i→0≤b→b≤359→Oks (fun k=>spec_BearingTo.l0 k x y b i) (fun _=>True):=by
 intro d
 induction d with
 |zero=>
  intro b i h h0 hb0 hb1;refine Oks.step (fun k=>by simp only[spec_BearingTo.l0];rfl) ?_;exact Oks.neg (by omega) (Oks.now trivial)
 |succ d ih=>
  intro b i h h0 hb0 hb1;refine Oks.step (fun k=>by simp only[spec_BearingTo.l0];rfl) ?_;refine Oks.pos (by omega) ?_;refine Oks.bindc (sine_eq i (by omega) (by omega)) (Oks.bindc (cosine_eq i (by omega) (by omega)) (Oks.bindc (sine_eq b (by omega) (by omega)) (Oks.bindc (cosine_eq b (by omega) (by omega)) ?_)));rw[w64 (x:=i+1) (by omega) (by omega)];exact Oks.ite (fun _=>ih i (i+1) (by omega) (by omega) (by omega) (by omega)) (fun _=>ih b (i+1) (by omega) (by omega) (by omega) (by omega))
theorem bear_j0(x y:Int)(t:Bool):Oks (fun k=>spec_BearingTo.j0 k x y t) (fun _=>True):=by
 refine Oks.step (fun k=>by simp only[spec_BearingTo.j0];rfl) ?_;exact Oks.ite (fun _=>Oks.now trivial) (fun _=>bear_loop x y 359 0 1 (by omega) (by omega) (by omega) (by omega))
theorem bearK(a b:Int):Oks (fun k=>spec_BearingTo.f k a b) (fun _=>True):=by
 unfold spec_BearingTo.f;obtain⟨r,e⟩:=l2Long_eq a;obtain⟨r2,e2⟩:=l2Long_eq b;exact Oks.bindc e (Oks.ite (fun _=>Oks.bindc e2 (Oks.ite (fun _=>Oks.ite (fun _=>bear_j0 _ _ _) (fun _=>bear_j0 _ _ _)) (fun _=>bear_j0 _ _ _))) (fun _=>bear_j0 _ _ _))
theorem slope_loop(x y:Int):∀(d:Nat) (b i:Int),i+d=91→1≤i→ -90≤b→b≤90→Oks (fun k=>spec_SlopeTo.l0 k x y b i) (fun _=>True):=by
 intro d
 induction d with
 |zero=>
  intro b i h h0 hb0 hb1;refine Oks.step (fun k=>by simp only[spec_SlopeTo.l0];rfl) ?_;exact Oks.neg (by omega) (Oks.now trivial)
 | succ d ih=>
  intro b i h h0 hb0 hb1;refine Oks.step (fun k=>by simp only[spec_SlopeTo.l0];rfl) ?_;refine Oks.pos (by omega) ?_
  have stop:∀b2:Int,-90≤b2→b2≤90→Oks (fun k=>spec_SlopeTo.l1 k x y b2 i (-3)) (fun _=>True):=fun b2 g0 g1=>by
   refine Oks.step (fun k=>by simp only[spec_SlopeTo.l1];rfl) (Oks.neg (by omega) ?_);rw[w64 (x:=i+1) (by omega) (by omega)];exact ih b2 (i+1) (by omega) (by omega) g0 g1
  have one:∀(b2 s s2:Int),-90≤b2→b2≤90→s=1∨s= -1→s2=s-2→(∀b3:Int,-90≤b3→b3≤90→Oks (fun k=>spec_SlopeTo.l1 k x y b3 i s2) (fun _=>True))→Oks (fun k=>spec_SlopeTo.l1 k x y b2 i s) (fun _=>True):=fun b2 s s2 g0 g1 hs h2 hk=>by
   have hm:wrap64 (s*i)=s*i:=by rcases hs with rfl|rfl<;>exact w64 (by omega) (by omega)
   have hb: -90≤s*i∧s*i≤90:=by rcases hs with rfl|rfl<;>omega
   refine Oks.step (fun k=>by simp only[spec_SlopeTo.l1];rfl) (Oks.pos (by rcases hs with rfl|rfl<;>omega) ?_);rw[hm,w64 (x:=s-2) (by omega) (by omega),←h2];refine Oks.bindc (cosine_eq i (by omega) (by omega)) (Oks.bindc (sine_eq (s*i) (by omega) (by omega)) (Oks.bindc (cosine_eq b2 (by omega) (by omega)) (Oks.bindc (sine_eq b2 (by omega) (by omega)) ?_)));exact Oks.ite (fun _=>hk _ hb.1 hb.2) (fun _=>hk _ g0 g1)
  exact one b 1 (-1) hb0 hb1 (Or.inl rfl) rfl (fun b3 g0 g1=>one b3 (-1) (-3) g0 g1 (Or.inr rfl) rfl stop)
theorem slope_j0(x y:Int)(t:Bool):Oks (fun k=>spec_SlopeTo.j0 k x y t) (fun _=>True):=by
 refine Oks.step (fun k=>by simp only[spec_SlopeTo.j0];rfl) ?_;exact Oks.ite (fun _=>Oks.now trivial) (fun _=>slope_loop x y 90 0 1 (by omega) (by omega) (by omega) (by omega))
theorem slopeK(a b:Int):Oks (fun k=>spec_SlopeTo.f k a b) (fun _=>True):=by
 unfold spec_SlopeTo.f;obtain⟨r,e⟩:=l1In_eq a 0 100000;obtain⟨r2,e2⟩:=l2Long_eq b;exact Oks.bindc e (Oks.ite (fun _=>Oks.bindc e2 (Oks.ite (fun _=>Oks.ite (fun _=>slope_j0 _ _ _) (fun _=>slope_j0 _ _ _)) (fun _=>slope_j0 _ _ _))) (fun _=>slope_j0 _ _ _))
variable {code:List Int} (hc:Bytes code) (hl:code.length≤65536)
include hc hl
def CaveP(M:Int)(r:List S82×Int×Int):Prop:=r.1.length≤9∧0≤r.2.1∧r.2.1≤M
theorem cave_l1(M:Int)(hM:M≤70000000)(x4:Int)(x5:List S72)(h5:(x5.length:Int)=x4)(h4:2≤x4):∀(d:Nat) (x3:List S82) (a s:Int),1≤x3.length→x3.length+d≤8→0≤a→a+30*(d:Int)+100≤M→Oks (fun k=>spec_l1Cur_cave.l1 k x3 x4 x5 (d:Int) code a s) (CaveP M):=by
 intro d
 induction d with
 | zero=>
  intro x3 a s h1 h2 h0 ha;refine Oks.step (fun k=>by simp only[spec_l1Cur_cave.l1];rfl) (Oks.neg (by omega) ?_);refine Oks.bind (pickK hc hl a s 24 h0 (by omega)) ?_;rintro⟨v,a1,s1⟩ ⟨_,_,e3,e4⟩
  dsimp only at e3 e4 ⊢
  refine Oks.ite (fun _=>?_) (fun _=>Oks.ite (fun _=>?_) (fun _=>Oks.ite (fun _=>?_) (fun _=>?_)))
  ·refine Oks.bind (legK hc hl a1 s1 (by omega) (by omega)) ?_;rintro⟨b0,b1,b2,b3,b4,a2,s2⟩ ⟨f3,f4⟩
   dsimp only at f3 f4 ⊢
   exact Oks.pos (by omega) (Oks.now ⟨(by simp only[List.length_set];omega),qz42,qz42⟩)
  ·refine Oks.bind (legK hc hl a1 s1 (by omega) (by omega)) ?_;rintro⟨b0,b1,b2,b3,b4,a2,s2⟩ ⟨f3,f4⟩
   dsimp only at f3 f4 ⊢
   exact Oks.pos (by omega) (Oks.now ⟨qz69,qz42,qz42⟩)
  ·refine Oks.bind (P:=fun r=>r=[]) (Oks.now rfl) ?_;rintro r rfl;refine Oks.pos (by omega) (Oks.bind (P:=fun r=>r.length≤8) (Oks.now (by rw[List.length_drop];omega)) ?_);intro r hr;exact Oks.pos (by simp only[List.length_nil];omega) (Oks.now ⟨(by simp only[List.nil_append];omega),qz42,qz42⟩)
  · exact Oks.now ⟨qz42,qz42,qz42⟩
 | succ d ih=>
  intro x3 a s h1 h2 h0 ha;have ed:wrap64 (((d+1:Nat):Int)-1)=(d:Int):=by rw[w64 (by omega) (by omega)];omega
  refine Oks.step (fun k=>by simp only[spec_l1Cur_cave.l1];rfl) (Oks.pos (by omega) ?_);refine Oks.bind (pickK hc hl a s x4 h0 (by omega)) ?_;rintro⟨v,a1,s1⟩ ⟨e1,e2,e3,e4⟩
  dsimp only at e1 e2 e3 e4 ⊢
  have e5:=e2 (by omega);refine Oks.bind (pickK hc hl a1 s1 x4 (by omega) (by omega)) ?_;rintro⟨v2,a2,s2⟩ ⟨f1,f2,f3,f4⟩
  dsimp only at f1 f2 f3 f4 ⊢
  have f5:=f2 (by omega);refine Oks.pos (by omega) (Oks.pos (by omega) (Oks.pos (by omega) (Oks.pos (by omega) ?_)));refine Oks.bind (P:=fun _=>True) ⟨_,Ev.some (fun k=>rfl),trivial⟩ ?_;rintro⟨p0,p1,p2⟩ _
  dsimp only
  refine Oks.bind (lengthK p0 p1 0) ?_;rintro⟨q0,q1⟩ _
  dsimp only
  refine Oks.bind (lengthK p0 p1 p2) ?_;rintro⟨r0,r1⟩ _
  dsimp only
  have j2:∀t:Bool,Oks (fun k=>spec_l1Cur_cave.j2 k x3 x4 x5 ((d+1:Nat):Int) v v2 q0 r0 t code a2 s2 p0 p1 p2) (CaveP M):=fun t=>by
   refine Oks.step (fun k=>by simp only[spec_l1Cur_cave.j2,ed];rfl) ?_;refine Oks.ite (fun _=>ih x3 a2 s2 h1 (by omega) (by omega) (by omega)) (fun _=>?_);refine Oks.bind (bearK p0 p1) ?_;rintro⟨t0,t1⟩ _
   dsimp only
   refine Oks.bind (slopeK q0 p2) ?_;rintro⟨u0,u1⟩ _
   dsimp only
   refine Oks.bind (pickK hc hl a2 s2 4 (by omega) (by omega)) ?_;rintro⟨v3,a3,s3⟩ ⟨_,_,g3,g4⟩
   dsimp only at g3 g4 ⊢
   refine Oks.bind (pickK hc hl a3 s3 3 (by omega) (by omega)) ?_;rintro⟨v4,a4,s4⟩ ⟨_,_,i3,i4⟩
   dsimp only at i3 i4 ⊢
   exact Oks.pos (by omega) (ih _ a4 s4 qz69 qz69 (by omega) (by omega))
  refine Oks.ite (fun _=>j2 true) (fun _=>?_);obtain⟨r,e⟩:=l1In_eq (wrap64 (r0+3)) 4 500;exact Oks.bindc e (j2 _)
theorem cave_l0(M:Int)(hM:M≤70000000)(x4:Int)(h4:2≤x4)(h4':x4≤6):∀(d:Nat) (x3:List S82) (x5:List S72) (x6 a s:Int),x6+d=x4→1≤x6→(x5.length:Int)=x6→(x3.length:Int)+1=x6→0≤a→a+30*(d:Int)+300≤M→Oks (fun k=>spec_l1Cur_cave.l0 k x3 x4 x5 x6 code a s) (CaveP M):=by
 intro d
 induction d with
 |zero=>
  intro x3 x5 x6 a s h6 h1 h5 h3 h0 ha;refine Oks.step (fun k=>by simp only[spec_l1Cur_cave.l0];rfl) (Oks.neg (by omega) ?_);refine Oks.bind (pickK hc hl a s 4 h0 (by omega)) ?_;rintro⟨v,a1,s1⟩ ⟨e1,e2,e3,e4⟩
  dsimp only at e1 e2 e3 e4 ⊢
  have e5:=e2 (by omega);rw[show v=((v.toNat:Nat):Int) by omega];exact cave_l1 hc hl M hM x4 x5 (by omega) h4 v.toNat x3 a1 s1 (by omega) (by omega) (by omega) (by omega)
 | succ d ih=>
  intro x3 x5 x6 a s h6 h1 h5 h3 h0 ha;refine Oks.step (fun k=>by simp only[spec_l1Cur_cave.l0];rfl) (Oks.pos (by omega) ?_);refine Oks.bind (pickK hc hl a s x6 h0 (by omega)) ?_;rintro⟨v1,a1,s1⟩ ⟨e1,e2,e3,e4⟩
  dsimp only at e1 e2 e3 e4 ⊢
  have e5:=e2 (by omega);refine Oks.bind (amongK hc hl a1 s1 _ (by simp) (by omega) (by omega)) ?_;rintro⟨v2,a2,s2⟩ ⟨m2,f3,f4⟩
  dsimp only at m2 f3 f4 ⊢
  refine Oks.bind (amongK hc hl a2 s2 _ (by simp) (by omega) (by omega)) ?_;rintro⟨v3,a3,s3⟩ ⟨m3,g3,g4⟩
  dsimp only at m3 g3 g4 ⊢
  refine Oks.bind (amongK hc hl a3 s3 _ (by simp) (by omega) (by omega)) ?_;rintro⟨v4,a4,s4⟩ ⟨m4,i3,i4⟩
  dsimp only at m4 i3 i4 ⊢
  refine Oks.pos (by omega) (Oks.pos (by omega) ?_)
  have hgood:Net.Good (⟨v1,x6,v2,v3,v4⟩:S82):=by
   simp only[List.mem_cons,List.not_mem_nil,or_false]at m2 m3 m4;unfold Net.Good;simp only;omega
  refine Oks.bindc (shift_eq ⟨v1,x6,v2,v3,v4⟩ hgood) ?_;refine Oks.bind (P:=fun _=>True) ⟨_,Ev.some (fun k=>rfl),trivial⟩ ?_;rintro⟨p0,p1,p2⟩ _
  dsimp only
  refine Oks.pos (by omega) (Oks.bind (P:=fun r=>(r.length:Int)=x6+1) (Oks.now qz69) ?_);intro y hy;refine Oks.bind (oneK hc hl a4 s4 4 (by omega) (by omega)) ?_;rintro⟨o,a5,s5⟩ ⟨j3,j4⟩
  dsimp only at j3 j4 ⊢
  rw[w64 (x:=x6+1) (by omega) (by omega)];refine Oks.ite (fun _=>?_) (fun _=>?_)
  ·refine Oks.bind (P:=fun _=>True) ⟨_,Ev.some (fun k=>rfl),trivial⟩ ?_;rintro⟨q0,q1,q2,q3,q4⟩ _
   dsimp only
   exact Oks.pos (by omega) (ih _ y (x6+1) a5 s5 (by omega) (by omega) hy qz69 (by omega) (by omega))
  · exact Oks.pos (by omega) (ih _ y (x6+1) a5 s5 (by omega) (by omega) hy qz69 (by omega) (by omega))
theorem caveK(a s:Int)(h0:0≤a)(h1:a≤60000000):Oks (fun k=>spec_l1Cur_cave.f k code a s) (CaveP (a+1000)):=by
 unfold spec_l1Cur_cave.f;refine Oks.bind (pickK hc hl a s 5 h0 (by omega)) ?_;rintro⟨v,a1,s1⟩ ⟨e1,e2,e3,e4⟩
 dsimp only at e1 e2 e3 e4 ⊢
 have e5:=e2 (by omega);rw[w64 (x:=2+v) (by omega) (by omega)];exact cave_l0 hc hl (a+1000) (by omega) (2+v) (by omega) (by omega) (1+v).toNat [] [⟨0,0,0⟩] 1 a1 s1 (by omega) (by omega) (by simp) (by simp) (by omega) (by omega)
end Draw
namespace Draw
open Go Go.RowKit YtmgkbhhnchnkcaaGreatDoorW.PrintWords Plain A
variable {code:List Int} (hc:Bytes code) (hl:code.length≤65536)
include hc hl
end Draw
namespace Draw
open Go Go.RowKit YtmgkbhhnchnkcaaGreatDoorW.PrintWords Plain A Net
variable {code:List Int} (hc:Bytes code) (hl:code.length≤65536)
include hc hl
end Draw
namespace Draw
open Go Go.RowKit YtmgkbhhnchnkcaaGreatDoorW.PrintWords Plain A Net
variable {code:List Int} (hc:Bytes code) (hl:code.length≤65536)
include hc hl
def KP(b:Int)(r:List S82×Int×Int×Int):Prop:=r.1.length≤9∧0≤r.2.2.1∧r.2.2.1≤b
theorem closing_j2(l:List S82)(h9:l.length≤9)(t:Bool)(ht:t=true→legsB l=true)(a s:Int)(h0:0≤a)(h1:a≤70000000)(b:Int)(hb:a+4≤b):Oks (fun k=>spec_l1Cur_closing.j2 k l t code a s) (KP b):=by
 have any:Oks (fun k=>(spec_l1Cur_pick.f code a s (wrap64 ((l.length:Int)+1))).bind fun bt=>(spec_l1Cur_pick.f code bt.2.1 bt.2.2 9).bind fun bt2=>some (l,wrap64 (bt.1-wrap64 (Int.tdiv bt2.1 8)),bt2.2.1,bt2.2.2)) (KP b):=by
  refine Oks.bind (pickK hc hl a s _ h0 (by omega)) ?_;rintro⟨v,a2,s2⟩ ⟨_,_,e3,e4⟩
  dsimp only at e3 e4 ⊢
  refine Oks.bind (pickK hc hl a2 s2 9 (by omega) (by omega)) ?_;rintro⟨v2,a3,s3⟩ ⟨_,_,e5,e6⟩
  dsimp only at e5 e6 ⊢
  exact Oks.now ⟨h9,qz42,qz42⟩
 refine Oks.step (fun k=>by simp only[spec_l1Cur_closing.j2];rfl) ?_;refine Oks.ite (fun c=>?_) (fun _=>any);have hv:=legsB_iff.mp (ht c);refine Oks.bind (P:=fun r=>r=closeL l) ⟨_,closing_ev l hv.2 hv.1,rfl⟩ ?_;rintro r rfl;refine Oks.ite (fun hp=>?_) (fun _=>any);refine Oks.bind (pickK hc hl a s _ h0 (by omega)) ?_;rintro⟨v,a2,s2⟩ ⟨e1,e2,e3,e4⟩
 dsimp only at e1 e2 e3 e4 ⊢
 exact Oks.pos e1 (Oks.pos (e2 (by omega)) (Oks.now ⟨h9,qz42,qz42⟩))
theorem closing_j1(l:List S82)(h9:l.length≤9)(a s:Int)(h0:0≤a)(h1:a≤60000000)(b:Int)(hb:a+6≤b):Oks (fun k=>spec_l1Cur_closing.j1 k l code a s) (KP b):=by
 refine Oks.step (fun k=>by simp only[spec_l1Cur_closing.j1];rfl) ?_;refine Oks.bind (P:=fun r=>r=legsB l) ⟨_,l4Legs_ev l (by omega),rfl⟩ ?_;rintro r rfl;refine Oks.ite (fun h=>?_) (fun _=>closing_j2 hc hl l h9 false (by simp) a s h0 (by omega) b (by omega));refine Oks.bind (oneK hc hl a s 12 h0 (by omega)) ?_;rintro⟨o,a2,s2⟩ ⟨e3,e4⟩
 dsimp only at e3 e4 ⊢
 exact closing_j2 hc hl l h9 _ (fun _=>h) a2 s2 (by omega) (by omega) b (by omega)
theorem closing_l0:∀(d:Nat) (l:List S82) (x5 a s b:Int),l.length≤9→x5+d=3→0≤x5→0≤a→a+2000*(d:Int)≤50000000→a+1000*(d:Int)+6≤b→Oks (fun k=>spec_l1Cur_closing.l0 k l x5 code a s) (KP b):=by
 intro d
 induction d with
 |zero=>
  intro l x5 a s b h9 hx h5 h0 h1 hb;refine Oks.step (fun k=>by simp only[spec_l1Cur_closing.l0];rfl) (Oks.neg (by omega) ?_);exact closing_j1 hc hl l h9 a s h0 (by omega) b (by omega)
 | succ d ih=>
  intro l x5 a s b h9 hx h5 h0 h1 hb;refine Oks.step (fun k=>by simp only[spec_l1Cur_closing.l0];rfl) (Oks.pos (by omega) ?_);rw[w64 (x:=x5+1) (by omega) (by omega)]
  have again:Oks (fun k=>(spec_l1Cur_cave.f k code a s).bind fun bt=>spec_l1Cur_closing.l0 k bt.1 (x5+1) code bt.2.1 bt.2.2) (KP b):=by
   refine Oks.bind (caveK hc hl a s h0 (by omega)) ?_;rintro⟨m,a2,s2⟩ ⟨g1,g2,g3⟩
   dsimp only at g1 g2 g3 ⊢
   exact ih m (x5+1) a2 s2 b g1 (by omega) (by omega) g2 (by omega) (by omega)
  refine Oks.bind (P:=fun r=>r=legsB l) ⟨_,l4Legs_ev l (by omega),rfl⟩ ?_;rintro r rfl;refine Oks.ite (fun h=>?_) (fun _=>again);have hv:=legsB_iff.mp h;refine Oks.bind (P:=fun r=>r=closeL l) ⟨_,closing_ev l hv.2 hv.1,rfl⟩ ?_;rintro r rfl;exact Oks.ite (fun _=>again) (fun _=>closing_j1 hc hl l h9 a s h0 (by omega) b (by omega))
theorem closingK(a s:Int)(h0:0≤a)(h1:a≤40000000):Oks (fun k=>spec_l1Cur_closing.f k code a s) (KP (a+4006)):=by
 unfold spec_l1Cur_closing.f;refine Oks.bind (caveK hc hl a s h0 (by omega)) ?_;rintro⟨m,a2,s2⟩ ⟨g1,g2,g3⟩
 dsimp only at g1 g2 g3 ⊢
 exact closing_l0 hc hl 3 m 0 a2 s2 _ g1 (by omega) (by omega) g2 (by omega) (by omega)
theorem drawLoopOf:Oks (fun k=>spec_DrawLoopOf.f k code) (fun r=>r.1.length≤9):=by
 unfold spec_DrawLoopOf.f;exact Oks.bind (closingK hc hl 0 0 (by omega) (by omega)) fun r h=>Oks.now h.1
theorem drawWorst:Oks (fun k=>spec_DrawWorstLoop.f k code) (fun r=>r.length≤9):=Oks.bind (drawLoopOf hc hl) fun r h=>Oks.now h
end Draw
namespace Net
open Go.RowKit YtmgkbhhnchnkcaaGreatDoorW.PrintWords YtmgkbhhnchnkcaaGreatDoorW.PrintLast YtmgkbhhnchnkcaaGreatDoorW.PrintMore A Plain
end Net
namespace Draw
open Go Go.RowKit YtmgkbhhnchnkcaaGreatDoorW.PrintWords Plain A Net
variable {code:List Int} (hc:Bytes code) (hl:code.length≤65536)
include hc hl
theorem axisK(a s:Int)(h0:0≤a)(h1:a≤80000000):Oks (fun _=>spec_l1Cur_axis.f code a s) (fun r=>a≤r.2.1∧r.2.1≤a+2):=by
 unfold spec_l1Cur_axis.f;refine Oks.bind (amongK hc hl a s _ (by simp) h0 (by omega)) ?_;rintro⟨v,a1,s1⟩ ⟨m,e3,e4⟩
 dsimp only at m e3 e4 ⊢
 exact Oks.now ⟨qz42,qz42⟩
theorem drawAxis:Oks (fun k=>spec_DrawAdjustAxis.f k code) (fun r=>r.1.length≤9):=by
 unfold spec_DrawAdjustAxis.f;refine Oks.bind (closingK hc hl 0 0 (by omega) (by omega)) ?_;rintro⟨l,i,a1,s1⟩ ⟨h1,h2,h3⟩
 dsimp only at h1 h2 h3 ⊢
 refine Oks.bind (axisK hc hl a1 s1 h2 (by omega)) ?_;rintro⟨v,a2,s2⟩ _;exact Oks.now h1
theorem drawSquare:Oks (fun k=>spec_DrawSquareSum.f k code) (fun r=>r.1.length≤9):=Oks.bind (drawAxis hc hl) fun r h=>Oks.now h
theorem drawExact:Oks (fun k=>spec_DrawExactLegs.f k code) (fun r=>r.length≤9):=Oks.bind (drawWorst hc hl) fun r h=>Oks.now h
theorem drawAdjDepth:Oks (fun k=>spec_DrawAdjustedDepth.f k code) (fun r=>r.length≤9):=Oks.bind (drawWorst hc hl) fun r h=>Oks.now h
theorem drawTrees:Oks (fun k=>spec_DrawTreeCount.f k code) (fun r=>r.length≤9):=Oks.bind (drawWorst hc hl) fun r h=>Oks.now h
end Draw
namespace Det
def setr(A:Nat→Nat→Int)(r:Nat)(u:Nat→Int):Nat→Nat→Int:=fun i j=>if i=r then u j else A i j
theorem setr_at(A:Nat→Nat→Int)(r:Nat)(u:Nat→Int)(j:Nat):setr A r u r j=u j:=by unfold setr;rw[if_pos rfl]
theorem setr_ne(A:Nat→Nat→Int)(r:Nat)(u:Nat→Int)(i j:Nat)(h:i≠r):setr A r u i j=A i j:=by unfold setr;rw[if_neg h]
theorem F_rlin(n:Nat)(c:Int)(u v:Nat→Int):∀(k:Nat) (A:Nat→Nat→Int) (S:Nat→Bool) (r:Nat),r<k→F n (setr A r (fun j=>u j+c*v j)) k S=F n (setr A r u) k S+c*F n (setr A r v) k S
 |0,A,S,r,h=>by omega
 | k+1,A,S,r,h=>by
  rw[F,F,F,←sumTo_mul,←sumTo_add];refine sumTo_congr fun j hj=>?_
  by_cases hS:S j=true
  ·rw[if_pos hS,if_pos hS,if_pos hS];by_cases e:r=k
   ·subst e;have e1:∀w,F n (setr A r w) r (del S j)=F n A r (del S j):=fun w=>F_congr (fun i l hi _ _=>setr_ne A r w i l (by omega)) (fun _ _=>rfl)
    rw[setr_at,setr_at,setr_at,e1,e1,e1];generalize sg S j n=x;generalize F n A r (del S j)=y
    grind
   ·have hk:k≠r:=fun h=>e h.symm
    rw[setr_ne _ _ _ _ _ hk,setr_ne _ _ _ _ _ hk,setr_ne _ _ _ _ _ hk,F_rlin n c u v k A (del S j) r (by omega)]
    grind
  ·rw[if_neg hS,if_neg hS,if_neg hS];omega
theorem F_rows(n:Nat):∀(k i j:Nat) (A:Nat→Nat→Int) (S:Nat→Bool),i<j→j<k→A i=A j→F n A k S=0
 |0,i,j,_,_,_,h,_=>by omega
 | k+1,i,j,A,S,hi,hj,he=>by
  by_cases e:j=k
  ·subst e;exact F_eq_rows n j i A S hi he
  ·rw[F];refine sumTo_zero fun l _=>?_
   split
   · rw[F_rows n k i j A (del S l) hi (by omega) he,Int.mul_zero]
   · rfl
theorem F_addrow(n:Nat)(A:Nat→Nat→Int)(k:Nat)(S:Nat→Bool)(r t:Nat)(c:Int)(hr:r<k)(ht:t<k)(hne:r≠t):F n (setr A r (fun j=>A r j+c*A t j)) k S=F n A k S:=by
 rw[F_rlin n c (A r) (A t) k A S r hr]
 have e1:F n (setr A r (A r)) k S=F n A k S:=F_congr (fun i j _ _ _=>by
  by_cases e:i=r
  · rw[e,setr_at]
  · rw[setr_ne _ _ _ _ _ e]) (fun _ _=>rfl)
 have e2:F n (setr A r (A t)) k S=0:=by
  have hrow:setr A r (A t) r=setr A r (A t) t:=by
   funext j
   rw[setr_at,setr_ne _ _ _ _ _ (fun h=>hne h.symm)]
  rcases Nat.lt_or_gt_of_ne hne with h|h
  · exact F_rows n k r t _ S h ht hrow
  · exact F_rows n k t r _ S h hr hrow.symm
 rw[e1,e2];omega
theorem F_addcol(n:Nat)(A:Nat→Nat→Int)(k:Nat)(S:Nat→Bool)(a b:Nat)(c:Int)(ha:a<n)(hb:b<n)(hne:a≠b)(h1:S a=true)(h2:S b=true):F n (setc A a (fun i=>A i a+c*A i b)) k S=F n A k S:=by
 have e0:setc A a (fun i=>A i a+c*A i b)=setc A a (fun i=>sumTo 2 fun s=>(if s=0 then 1 else c)*(if s=0 then A i a else A i b)):=by
  congr 1
  funext i
  show _=0+(if(0:Nat)=0 then 1 else c)*(if(0:Nat)=0 then A i a else A i b)+(if(1:Nat)=0 then 1 else c)*(if(1:Nat)=0 then A i a else A i b);rw[if_pos rfl,if_pos rfl,if_neg (by omega),if_neg (by omega)];omega
 rw[e0,F_lin n 2 (fun s=>if s=0 then 1 else c) (fun s i=>if s=0 then A i a else A i b) k A S a ha h1];show 0+(if(0:Nat)=0 then(1:Int) else c)*F n (setc A a fun i=>if(0:Nat)=0 then A i a else A i b) k S+(if(1:Nat)=0 then(1:Int) else c)*F n (setc A a fun i=>if(1:Nat)=0 then A i a else A i b) k S=_;rw[if_pos rfl,if_neg (by omega)]
 have e1:F n (setc A a fun i=>if(0:Nat)=0 then A i a else A i b) k S=F n A k S:=F_congr (fun i j _ _ _=>by
  by_cases e:j=a
  · rw[e,setc_at,if_pos rfl]
  · rw[setc_ne _ _ _ _ _ e]) (fun _ _=>rfl)
 have e2:F n (setc A a fun i=>if(1:Nat)=0 then A i a else A i b) k S=0:=F_eq_cols n k _ S a b ha hb hne h1 h2 (fun i=>by
  rw[setc_at,setc_ne _ _ _ _ _ (fun h=>hne h.symm),if_neg (by omega)])
 rw[e1,e2];omega
theorem det_one(n:Nat)(A:Nat→Nat→Int)(h:∀i j,i<n→j<n→A i j=if i=j then 1 else 0):F n A n (low n)=1:=by
 have:∀k,k≤n→P n A k=1:=by
  intro k
  induction k with
  |zero=>intro _;unfold P;rw[F,if_pos (fun l _=>by unfold low;simp)]
  |succ k ih=>
   intro hk;rw[P_succ];obtain⟨c,hc⟩:=R_comb n A k k (Nat.le_refl k) (by omega);rw[hc k,ih (by omega),h k k (by omega) (by omega),if_pos rfl,sumTo_zero (fun s hs=>by rw[h k s (by omega) (by omega),if_neg (by omega),Int.mul_zero])];omega
 exact this n (Nat.le_refl n)
abbrev Q3:=List (Int×Int×Int)
def lp(a b:Int)(i j:Nat):Int:=(if(i:Int)=a∧(j:Int)=a then 1 else 0)+(if(i:Int)=b∧(j:Int)=b then 1 else 0)-(if(i:Int)=a∧(j:Int)=b then 1 else 0)-(if(i:Int)=b∧(j:Int)=a then 1 else 0)
def tsum(f:Int→Int):Q3→Nat→Nat→Int
 |[],_,_=>0
 |x::q,i,j=>lp (f x.2.1) (f x.2.2) i j+tsum f q i j
def used3(f:Int→Int)(q:Q3)(i:Nat):Bool:=q.any (fun x=>f x.2.2==(i:Int))
def TM(f:Int→Int)(q:Q3)(i j:Nat):Int:=tsum f q i j+if i=j∧used3 f q i=false then 1 else 0
theorem tsum_off(f:Int→Int){i j:Nat}:∀{q:Q3},(∀x∈q,(f x.2.1≠(i:Int)∧f x.2.2≠(i:Int))∨(f x.2.1≠(j:Int)∧f x.2.2≠(j:Int)))→tsum f q i j=0
 |[],_=>rfl
 |x::q,h=>by
  have h0:=h x List.mem_cons_self;unfold tsum;rw[tsum_off f (fun y hy=>h y (List.mem_cons_of_mem _ hy))];unfold lp;rcases h0 with⟨a,b⟩|⟨a,b⟩
  · rw[if_neg (fun e=>a e.1.symm),if_neg (fun e=>b e.1.symm),if_neg (fun e=>a e.1.symm),if_neg (fun e=>b e.1.symm)];rfl
  · rw[if_neg (fun e=>a e.2.symm),if_neg (fun e=>b e.2.symm),if_neg (fun e=>b e.2.symm),if_neg (fun e=>a e.2.symm)];rfl
theorem tree_det(n:Nat)(f:Int→Int):∀{q:Q3},Tree.Tr (0:Int) q→f 0= -1→(∀v∈Tree.verts 0 q,v≠0→0≤f v∧f v<(n:Int))→(∀v∈Tree.verts 0 q,∀u∈Tree.verts 0 q,f v=f u→v=u)→F n (TM f q) n (low n)=1
 | [],_,_,_,_=>det_one n _ (fun i j _ _=>by
   unfold TM tsum used3;by_cases h:i=j
   · rw[if_pos ⟨h,rfl⟩,if_pos h];rfl
   · rw[if_neg (fun e=>h e.1),if_neg h];rfl)
 | (k, u,t)::q,ht,h0,hr,hi=>by
  cases ht with
  | cons h1 h2 h3 h4=>
   have sub:∀{v},v∈Tree.verts 0 q→v∈Tree.verts 0 ((k,u,t)::q):=fun hv=>by
    simp only[Tree.verts,List.map_cons,List.mem_cons]at hv ⊢;rcases hv with h|h
    · exact Or.inl h
    · exact Or.inr (Or.inr h)
   have ih:=tree_det n f h1 h0 (fun v hv=>hr v (sub hv)) (fun v hv u hu=>hi v (sub hv) u (sub hu));have htm:t∈Tree.verts 0 ((k,u,t)::q):=by simp[Tree.verts]
   have ht0:t≠0:=fun e=>h3 (by rw[e];simp[Tree.verts])
   obtain⟨hb0,hbn⟩:=hr t htm ht0;obtain⟨b,hb⟩:=Int.eq_ofNat_of_zero_le hb0;have hbn':b<n:=by omega
   have hout:∀v∈Tree.verts 0 q,f v≠(b:Int):=fun v hv e=>h3 (by rw[←hi v (sub hv) t htm (by rw[e,hb])];exact hv)
   have hends:∀x∈q,f x.2.1≠(b:Int)∧f x.2.2≠(b:Int):=fun x hx=>by
    have hj:Tree.Joins q x.1 x.2.1 x.2.2:=Or.inl hx;have hv:=Tree.joins_verts h1 hj;exact⟨hout _ hv.1,hout _ hv.2.1⟩
   have hub:used3 f q b=false:=by
    unfold used3;rw[List.any_eq_false];intro x hx;rw[beq_iff_eq];exact(hends x hx).2
   have rowb:∀j,TM f q b j=if j=b then 1 else 0:=fun j=>by
    unfold TM;rw[tsum_off f (fun x hx=>Or.inl (hends x hx))];by_cases e:j=b
    · rw[if_pos ⟨e.symm,hub⟩,if_pos e];rfl
    · rw[if_neg (fun h=>e h.1.symm),if_neg e];rfl
   have colb:∀i,TM f q i b=if i=b then 1 else 0:=fun i=>by
    unfold TM;rw[tsum_off f (fun x hx=>Or.inr (hends x hx))];by_cases e:i=b
    · rw[if_pos ⟨e,(by rw[e];exact hub)⟩,if_pos e];rfl
    · rw[if_neg (fun h=>e h.1),if_neg e];rfl
   have step:∀i j,TM f ((k,u,t)::q) i j=TM f q i j+lp (f u) (b:Int) i j-if i=b∧j=b then 1 else 0:=fun i j=>by
    unfold TM;have e1:tsum f ((k,u,t)::q) i j=lp (f u) (f t) i j+tsum f q i j:=rfl;have e2:used3 f ((k,u,t)::q) i=(f t==(i:Int) || used3 f q i):=rfl;rw[e1,e2,hb];by_cases c1:i=b
    ·rw[c1,hub];have:((b:Int)==(b:Int))=true:=by simp
     simp only[this,Bool.true_or,Bool.true_eq_false,and_false,if_false,and_true,true_and];by_cases c2:b=j
     · rw[if_pos c2,if_pos c2.symm];omega
     · rw[if_neg c2,if_neg (fun e=>c2 e.symm)];omega
    ·have:((b:Int)==(i:Int))=false:=by rw[beq_eq_false_iff_ne];omega
     rw[if_neg (fun e:i=b∧j=b=>c1 e.1)];simp only[this,Bool.false_or];omega
   by_cases hu0:u=0
   ·rw[←ih];refine F_congr (fun i j _ _ _=>?_) (fun _ _=>rfl);rw[step,hu0,h0];unfold lp;split<;>split<;>split<;>split<;>split<;>omega
   ·obtain⟨ha0,han⟩:=hr u (sub h2) hu0;obtain⟨a,ha⟩:=Int.eq_ofNat_of_zero_le ha0;have hab:a≠b:=fun e=>hout u h2 (by rw[ha,e])
    have han':a<n:=by omega
    have lowt:∀{m},m<n→low n m=true:=fun h=>by unfold low;simpa using h
    rw[←ih,←F_addcol n (TM f q) n (low n) a b (-1) han' hbn' hab (lowt han') (lowt hbn'),←F_addrow n (setc (TM f q) a (fun i=>TM f q i a+ -1*TM f q i b)) n (low n) a b (-1) han' hbn' hab];refine F_congr (fun i j _ _ _=>?_) (fun _ _=>rfl);rw[step,ha]
    have lpe:lp ((a:Nat):Int) (b:Int) i j=(if i=a∧j=a then 1 else 0)+(if i=b∧j=b then 1 else 0)-(if i=a∧j=b then 1 else 0)-(if i=b∧j=a then 1 else 0):=by
     unfold lp;simp only[Int.ofNat_inj,Int.natCast_inj]
    have lpe':lp (Int.ofNat a) (b:Int) i j=(if i=a∧j=a then 1 else 0)+(if i=b∧j=b then 1 else 0)-(if i=a∧j=b then 1 else 0)-(if i=b∧j=a then 1 else 0):=lpe
    first|rw[lpe]|rw[lpe']
    have C:∀i j,setc (TM f q) a (fun i=>TM f q i a+ -1*TM f q i b) i j=TM f q i j-if j=a∧i=b then 1 else 0:=fun i j=>by
     by_cases c:j=a
     ·rw[c,setc_at,colb];by_cases d:i=b
      · rw[if_pos d,if_pos ⟨rfl,d⟩];omega
      · rw[if_neg d,if_neg (fun h=>d h.2)];omega
     · rw[setc_ne _ _ _ _ _ c,if_neg (fun h=>c h.1)];omega
    by_cases c:i=a
    ·rw[c,setr_at,C,C,rowb j];simp only[hab,false_and,and_false,true_and,if_false,eq_self_iff_true];have ba:¬b=a:=fun h=>hab h.symm
     by_cases d:j=a
     ·simp only[d,hab,ba,if_true,if_false,and_true,and_false,true_and,false_and];omega
     ·by_cases e:j=b
      ·simp only[e,ba,if_true,if_false,and_true,and_false,true_and,false_and];omega
      ·simp only[d,e,if_false,false_and,and_false];omega
    ·rw[setr_ne _ _ _ _ _ c,C];simp only[c,false_and,if_false];by_cases d:i=b
     ·by_cases e:j=a
      ·have:¬j=b:=fun h=>hab (by rw[←e,h])
       simp only[d,e,hab,and_self,and_true,and_false,if_true,if_false];omega
      ·simp only[d,e,and_false,false_and,true_and,if_false];by_cases g:j=b
       · simp only[g,if_true];omega
       · simp only[g,if_false];omega
     ·simp only[d,false_and,and_false,if_false];omega
end Det
namespace Net
open Go.RowKit YtmgkbhhnchnkcaaGreatDoorW.PrintWords Plain A Det
open Conn (Conn)
open Tree (verts)
section
variable {ls:L}
def pd(ls:L)(y:Int→Int)(k:Int):Int:=y (leg ls k).f1-y (leg ls k).f0
theorem used_ends(hg:∀x∈ls,Good x){k:Int}(hk:k∈usedL ls):(leg ls k).f0∈verts 0 (RR ls)∧(leg ls k).f1∈verts 0 (RR ls):=by
 obtain⟨m,rfl,hm,hp⟩:=(mem_selTo _ _ _).mp hk;have hgood:=leg_good hg m hm;rw[Pq_eq,Int.toNat_of_nonneg hgood.1.1]at hp;have h0:=(mem_plL _ _).mp (of_decide_eq_true hp);exact⟨h0,((RR_ok hg).2 (m:Int) (by omega) (by omega)).mp h0⟩
theorem unk_at{s:Int}(h:s∈unkL ls):(unkL ls).getD ((unkL ls).idxOf s) 0=s:=by
 have hl:=List.idxOf_lt_length_iff.mpr h;rw[List.getD_eq_getElem?_getD,List.getElem?_eq_getElem hl];exact List.getElem_idxOf hl
theorem vAt_unk(hg:∀x∈ls,Good x)(y:Int→Int){s:Int}(hs:s∈verts 0 (RR ls)):vAt (fun r=>y ((unkL ls).getD r 0)-y 0) (fnd (unkL ls) s)=y s-y 0:=by
 by_cases c:s=0
 ·subst c;rw[fnd_neg (fun e=>((unk_iff hg 0).mp e).2 rfl)];unfold vAt;rw[if_neg (by omega)];omega
 ·have hu:s∈unkL ls:=(unk_iff hg s).mpr ⟨hs,c⟩;rw[(fnd_pos hu).1];unfold vAt;rw[if_pos (by omega),Int.toNat_natCast];show y ((unkL ls).getD ((unkL ls).idxOf s) 0)-y 0=_;rw[unk_at hu]
theorem pot(hn:ls.length≤12)(hg:∀x∈ls,Good x)(ax:Int)(y:Int→Int):tot (fun k=>nT ls ax k*pd ls y k) (usedL ls)=0:=by
 have e:tot (fun k=>nT ls ax k*pd ls y k) (usedL ls)=sumTo (unkL ls).length (fun r=>tot (fun k=>(y ((unkL ls).getD r 0)-y 0)*rgtD (fa ls k) (fb ls k) (nT ls ax k) r) (usedL ls)):=by
  rw[sumTo_tot];refine tot_congr (fun k hk=>?_);have hv:=used_ends hg hk;have h:=rgtD_mul (unkL ls).length (fun r=>y ((unkL ls).getD r 0)-y 0) (fa ls k) (fb ls k) (nT ls ax k) (fa_lt ls k) (fb_lt ls k);rw[h];have h1:vAt (fun r=>y ((unkL ls).getD r 0)-y 0) (fb ls k)=y (leg ls k).f1-y 0:=vAt_unk hg y hv.2;have h2:vAt (fun r=>y ((unkL ls).getD r 0)-y 0) (fa ls k)=y (leg ls k).f0-y 0:=vAt_unk hg y hv.1;rw[h1,h2];unfold pd
  congr 1
  omega
 rw[e];refine sumTo_zero (fun r hr=>?_);rw[tot_mul,balance hn hg ax r hr,Int.mul_zero]
def cosT(ls:L)(ax:Int)(s:Int):Int:=vAt (coM ls ax) (fnd (unkL ls) s)
theorem selTo_nodup(p:Nat→Bool):∀n,(selTo p n).Nodup
 |0=>List.nodup_nil
 |n+1=>by
  unfold selTo;split
  ·rw[List.nodup_append];refine⟨selTo_nodup p n,by simp,fun a ha b hb=>?_⟩;obtain⟨k,rfl,hk,_⟩:=(mem_selTo _ _ _).mp ha;rw[List.mem_singleton]at hb;omega
  · exact selTo_nodup p n
theorem tot_single{f:Int→Int}:∀{l:List Int} {i:Int},l.Nodup→i∈l→(∀k∈l,k≠i→f k=0)→tot f l=f i
 | x::l,i,hd,hi,h=>by
  rw[tot_cons];have hd':=List.nodup_cons.mp hd;by_cases c:x=i
  ·subst c
   have:tot f l=0:=by
    rw[tot_congr (g:=fun _=>0) (fun k hk=>h k (List.mem_cons_of_mem _ hk) (fun e=>hd'.1 (e▸hk))),tot_const,Int.zero_mul]
   omega
  ·rw[h x List.mem_cons_self c,tot_single hd'.2 (by rcases List.mem_cons.mp hi with e|e;exact absurd e.symm c;exact e) (fun k hk=>h k (List.mem_cons_of_mem _ hk))];omega
theorem bridge_conn(hg:∀x∈ls,Good x)(i:Nat)(hi:i<ls.length):bridgeB ls i=false↔Conn (Bfs.RelU (ends ls) (useB i) ls.length) (ends ls i).1 (ends ls i).2:=by
 have hr:=ends_range hg i (by omega) (by omega);have hf:=Bfs.found_iff (ends ls) (useB i) (ends ls i).1 ⟨hr.1,hr.2.1⟩ (Good.range hg) (ends ls i).2;unfold bridgeB;rw[←hf];simp
theorem used_nodup(ls:L):(usedL ls).Nodup:=selTo_nodup _ _
theorem bridge_nT(hn:ls.length≤12)(hg:∀x∈ls,Good x)(ax:Int){i:Int}(hi:i∈usedL ls)(hb:bridgeB ls i=true):nT ls ax i=0:=by
 obtain⟨m,rfl⟩:=Int.eq_ofNat_of_zero_le (usedL_range ls i hi).1;have hm:m<ls.length:=by have:=(usedL_range ls _ hi).2;omega
 have hr:=ends_range hg m (by omega) (by omega);have hf:=Bfs.found_iff (ends ls) (useB m) (ends ls m).1 ⟨hr.1,hr.2.1⟩ (Good.range hg)
 let y:Int→Int:=fun s=>if s∈verts (ends ls m).1 (Bfs.run (ends ls) (useB m) (ends ls m).1 ls.length 9 0 [])then 1 else 0
 have hp:=pot hn hg ax y;rw[tot_single (l:=usedL ls) (i:=(m:Int)) (used_nodup ls) hi (fun k hk hne=>?_)]at hp
 ·have y0:y (leg ls (m:Int)).f0=1:=if_pos ((hf _).mpr .refl)
  have y1:y (leg ls (m:Int)).f1=0:=if_neg (fun h=>by
   have hb':bridgeB ls (m:Int)=false:=(bridge_conn hg m hm).mpr ((hf _).mp h);have hb2:bridgeB ls (m:Int)=true:=hb;rw[hb']at hb2
   cases hb2)
  unfold pd at hp;rw[y0,y1]at hp;have:nT ls ax (m:Int)=0:=by omega
  exact this
 ·have hkr:=usedL_range ls k hk
  have hs:(leg ls k).f0∈verts (ends ls m).1 (Bfs.run (ends ls) (useB m) (ends ls m).1 ls.length 9 0 [])↔(leg ls k).f1∈verts (ends ls m).1 (Bfs.run (ends ls) (useB m) (ends ls m).1 ls.length 9 0 []):=by
   rw[hf,hf];have hu:useB (m:Int) k=true:=decide_eq_true hne;exact⟨fun h=>h.step ⟨k,hkr.1,hkr.2,hu,Or.inl rfl⟩,fun h=>h.step ⟨k,hkr.1,hkr.2,hu,Or.inr rfl⟩⟩
  have:pd ls y k=0:=by
   show(if _ then(1:Int) else 0)-(if _ then 1 else 0)=0;by_cases c:(leg ls k).f0∈verts (ends ls m).1 (Bfs.run (ends ls) (useB m) (ends ls m).1 ls.length 9 0 [])
   · rw[if_pos c,if_pos (hs.mp c)];rfl
   · rw[if_neg c,if_neg (fun h=>c (hs.mpr h))];rfl
  show nT ls ax k*pd ls y k=0;rw[this,Int.mul_zero]
end
end Net
namespace Net
open Go.RowKit YtmgkbhhnchnkcaaGreatDoorW.PrintWords Plain
open Tree (verts legs W)
theorem legs_nodup{q:List (Int×Int×Int)}(t:Tree.Tr (0:Int) q):(legs q).Nodup:=by
 induction t with
 |nil=>simp[legs]
 |cons t hu hs hi ih=>exact List.nodup_cons.mpr ⟨hi,ih⟩
theorem pl_zero(ls:L)(sh:Int→Int){q:List (Int×Int×Int)}(t:Tree.Tr (0:Int) q):Sum.pl (ends ls) sh q 0=0:=by
 induction t with
 |nil=>rfl
 | @cons q i u s t hu hs hi ih=>
  have:(0:Int)≠s:=fun e=>hs (by rw[←e];simp[verts])
  unfold Sum.pl;rw[if_neg this];exact ih
theorem closeL_iff{ls:L}(hg:∀x∈ls,Good x)(i:Int):i∈closeL ls↔0≤i∧i<(ls.length:Int)∧(ends ls i).1∈verts 0 (RR ls)∧i∉legs (RR ls):=by
 constructor
 ·intro h;have:=mem_closeL hg h;exact⟨this.1,this.2.1,this.2.2.1,this.2.2.2.2⟩
 ·rintro⟨h0,h1,h2,h3⟩;obtain⟨k,rfl⟩:=Int.eq_ofNat_of_zero_le h0;refine(mem_closeTo ls (RR ls) ls.length _).mpr ⟨k,rfl,Int.ofNat_lt.mp h1,?_,?_⟩
  ·have hx:=leg_good hg k (Int.ofNat_lt.mp h1);rw[Pq_eq,Int.toNat_of_nonneg hx.1.1];exact decide_eq_true ((mem_plL _ _).mpr h2)
  ·rw[Bq_eq];exact decide_eq_false (fun h=>h3 ((mem_trL _ _).mp h))
end Net
namespace Net
open Go.RowKit YtmgkbhhnchnkcaaGreatDoorW.PrintWords Plain Det
open Conn (Conn)
open Tree (verts legs)
section
variable {ls:L}
theorem tot_perm{f:Int→Int}{l m:List Int}(h:l.Perm m):tot f l=tot f m:=by
 induction h with
 |nil=>rfl
 |cons x _ ih=>rw[tot_cons,tot_cons,ih]
 |swap x y l=>rw[tot_cons,tot_cons,tot_cons,tot_cons];omega
 |trans _ _ h1 h2=>rw[h1,h2]
theorem used_tree(hg:∀x∈ls,Good x)(h:closeL ls=[])(k:Int):k∈usedL ls↔k∈legs (RR ls):=by
 constructor
 ·intro hk;have hr:=usedL_range ls k hk;have he:=used_ends hg hk;rcases Classical.em (k∈legs (RR ls))with c|c
  · exact c
  ·have:k∈closeL ls:=(closeL_iff hg k).mpr ⟨hr.1,hr.2,he.1,c⟩;rw[h]at this;cases this
 ·intro hk;obtain⟨x,hx,e⟩:=List.mem_map.mp hk;rw[←e];exact(used_of hg hx).1
theorem used_perm(hg:∀x∈ls,Good x)(h:closeL ls=[]):(usedL ls).Perm (legs (RR ls)):=
 (List.perm_ext_iff_of_nodup (selTo_nodup _ _) (legs_nodup (RR_ok hg).1.tr)).mpr (fun k=>used_tree hg h k)
theorem lapD_lp(a b:Int)(i j:Nat):lapD a b i j=lp a b i j:=lapD_eq a b i j
theorem lp_swap(a b:Int)(i j:Nat):lp a b i j=lp b a i j:=by unfold lp;omega
theorem tsum_legs(hg:∀x∈ls,Good x)(i j:Nat):∀q:Q3,(∀x∈q,x∈RR ls)→tot (fun k=>lapD (fa ls k) (fb ls k) i j) (legs q)=tsum (fnd (unkL ls)) q i j
 |[],_=>rfl
 |x::q,h=>by
  have ih:=tsum_legs hg i j q (fun y hy=>h y (List.mem_cons_of_mem _ hy));have hx:=(used_of hg (h x List.mem_cons_self)).2;show tot _ (x.1::legs q)=lp _ _ i j+tsum _ q i j;rw[tot_cons,ih]
  congr 1
  unfold fa fb;rw[lapD_lp];rcases hx with hx|hx
  · rw[show(leg ls x.1).f0=x.2.1 from congrArg Prod.fst hx,show(leg ls x.1).f1=x.2.2 from congrArg Prod.snd hx]
  · rw[show(leg ls x.1).f0=x.2.2 from congrArg Prod.fst hx,show(leg ls x.1).f1=x.2.1 from congrArg Prod.snd hx,lp_swap]
theorem trees_one(hn:ls.length≤12)(hg:∀x∈ls,Good x)(h:closeL ls=[]):treesM ls=1:=by
 rw[trees_F hn hg];have f0:fnd (unkL ls) 0= -1:=fnd_neg (fun e=>((unk_iff hg 0).mp e).2 rfl);have hv:∀v∈verts 0 (RR ls),v≠0→fnd (unkL ls) v=((unkL ls).idxOf v:Int)∧(unkL ls).idxOf v<(unkL ls).length:=fun v hv h0=>fnd_pos ((unk_iff hg v).mpr ⟨hv,h0⟩)
 have ht:=tree_det (unkL ls).length (fnd (unkL ls)) (RR_ok hg).1.tr f0 (fun v hv' h0=>by have:=hv v hv' h0;omega) (fun v hv' u hu e=>by
  by_cases c1:v=0
  ·by_cases c2:u=0
   · rw[c1,c2]
   ·have:=hv u hu c2;rw[c1,f0]at e;omega
  ·have h1:=hv v hv' c1;by_cases c2:u=0
   ·rw[c2,f0]at e;omega
   ·have h2:=hv u hu c2
    exact idx_inj ((unk_iff hg v).mpr ⟨hv',c1⟩) ((unk_iff hg u).mpr ⟨hu,c2⟩) (by omega))
 rw[←ht];refine F_congr (fun i j hi hj _=>?_) (fun _ _=>rfl);rw[LT_eq,tot_perm (used_perm hg h),tsum_legs hg i j (RR ls) (fun _ h=>h)];unfold TM
 have hu:used3 (fnd (unkL ls)) (RR ls) i=true:=by
  unfold used3;have hm:(unkL ls)[i]∈unkL ls:=List.getElem_mem hi;have hs:=(unk_iff hg _).mp hm;have hx:(unkL ls).idxOf (unkL ls)[i]=i:=(unk_nodup hg).idxOf_getElem i hi;rw[List.any_eq_true]
  have hc:(unkL ls)[i]∈(RR ls).map (fun x=>x.2.2):=by
   rcases List.mem_cons.mp hs.1 with e|e
   · exact absurd e hs.2
   · exact e
  obtain⟨x,hx1,hx2⟩:=List.mem_map.mp hc;refine⟨x,hx1,?_⟩;rw[hx2,beq_iff_eq,(fnd_pos hm).1,hx]
 rw[if_neg (fun e=>by rw[hu]at e;exact absurd e.2 (by decide))];omega
theorem grow_pot(hg:∀x∈ls,Good x):∀q:Q3,(∀x∈q,x∈RR ls)→Tree.Tr (0:Int) q→∀c:Int→Int,∃y:Int→Int,∀x∈q,pd ls y x.1=c x.1
 |[],_,_,c=>⟨fun _=>0,fun x hx=>by cases hx⟩
 | (k,u,t)::q,hs,ht,c=>by
  cases ht with
  | cons h1 h2 h3 h4=>
   obtain⟨y,hy⟩:=grow_pot hg q (fun x hx=>hs x (List.mem_cons_of_mem _ hx)) h1 c;have he:=(used_of hg (hs _ List.mem_cons_self)).2;simp only at he;have hut:u≠t:=fun e=>h3 (e▸h2)
   have hold:∀z:Int,∀x∈q,pd ls (fun s=>if s=t then z else y s) x.1=c x.1:=fun z x hx=>by
    have hj:Tree.Joins q x.1 x.2.1 x.2.2:=Or.inl hx;have hv:=Tree.joins_verts h1 hj;have n1:x.2.1≠t:=fun e=>h3 (e▸hv.1)
    have n2:x.2.2≠t:=fun e=>h3 (e▸hv.2.1)
    have hx2:=(used_of hg (hs x (List.mem_cons_of_mem _ hx))).2;rw[←hy x hx];unfold pd
    dsimp only
    rcases hx2 with e|e
    · rw[show(leg ls x.1).f0=x.2.1 from congrArg Prod.fst e,show(leg ls x.1).f1=x.2.2 from congrArg Prod.snd e,if_neg n1,if_neg n2]
    · rw[show(leg ls x.1).f0=x.2.2 from congrArg Prod.fst e,show(leg ls x.1).f1=x.2.1 from congrArg Prod.snd e,if_neg n1,if_neg n2]
   rcases he with e|e
   ·have e1:(leg ls k).f0=u:=congrArg Prod.fst e;have e2:(leg ls k).f1=t:=congrArg Prod.snd e;refine⟨fun s=>if s=t then y u+c k else y s,fun x hx=>?_⟩;rcases List.mem_cons.mp hx with rfl|hx
    ·unfold pd;simp only;rw[e1,e2,if_pos rfl,if_neg hut];omega
    · exact hold _ x hx
   ·have e1:(leg ls k).f0=t:=congrArg Prod.fst e;have e2:(leg ls k).f1=u:=congrArg Prod.snd e;refine⟨fun s=>if s=t then y u-c k else y s,fun x hx=>?_⟩;rcases List.mem_cons.mp hx with rfl|hx
    ·unfold pd;simp only;rw[e1,e2,if_pos rfl,if_neg hut];omega
    · exact hold _ x hx
theorem none_nT(hn:ls.length≤12)(hg:∀x∈ls,Good x)(h:closeL ls=[])(ax:Int):∀k∈usedL ls,nT ls ax k=0:=by
 obtain⟨y,hy⟩:=grow_pot hg (RR ls) (fun _ h=>h) (RR_ok hg).1.tr (fun k=>nT ls ax k);have hp:=pot hn hg ax y
 have hsq:tot (fun k=>nT ls ax k*nT ls ax k) (usedL ls)=0:=by
  rw[←hp];refine tot_congr (fun k hk=>?_);obtain⟨x,hx,e⟩:=List.mem_map.mp ((used_tree hg h k).mp hk);rw[←e,hy x hx]
 intro k hk;have h1:=tot_one (f:=fun k=>nT ls ax k*nT ls ax k) (l:=usedL ls) (fun k _=>sq_nonneg _) hk;have h2:=sq_nonneg (nT ls ax k);have h3:nT ls ax k*nT ls ax k=0:=by omega
 rcases Int.mul_eq_zero.mp h3 with e|e<;>exact e
theorem cos_pl(hn:ls.length≤12)(hg:∀x∈ls,Good x)(h:closeL ls=[])(ax:Int)(sh:Int→Int)(hsh:∀k∈usedL ls,meas ls ax k=sh k):∀q:Q3,(∀x∈q,x∈RR ls)→Tree.Tr (0:Int) q→∀s∈verts 0 q,cosT ls ax s=Sum.pl (ends ls) sh (RR ls) s
 |[],_,_,s,hs=>by
  have:s=0:=by simpa[verts]using hs
  rw[this,pl_zero ls sh (RR_ok hg).1.tr];unfold cosT;rw[fnd_neg (fun e=>((unk_iff hg 0).mp e).2 rfl)];rfl
 | (k,u,t)::q,hsub,ht,s,hs=>by
  cases ht with
  | cons h1 h2 h3 h4=>
   have ih:=cos_pl hn hg h ax sh hsh q (fun x hx=>hsub x (List.mem_cons_of_mem _ hx)) h1;have hx:=hsub _ List.mem_cons_self;obtain⟨hk,he⟩:=used_of hg hx;simp only at hk he;by_cases c:s=t
   ·have hz:=none_nT hn hg h ax k hk;have hT:=trees_one hn hg h;have hm:=hsh k hk;have e0:nT ls ax k=treesM ls*meas ls ax k-(cosT ls ax (leg ls k).f1-cosT ls ax (leg ls k).f0):=rfl;rw[hz,hT,hm]at e0;have hu:=ih u h2;rw[c];rcases he with e|e
    ·have e1:(leg ls k).f0=u:=congrArg Prod.fst e;have e2:(leg ls k).f1=t:=congrArg Prod.snd e;have hp:=Sum.pl_leg (ends ls) sh (RR_ok hg).1 (i:=k) (a:=u) (b:=t) (Or.inl hx) e;rw[e1,e2]at e0;omega
    ·have e1:(leg ls k).f0=t:=congrArg Prod.fst e;have e2:(leg ls k).f1=u:=congrArg Prod.snd e;have hp:=Sum.pl_leg (ends ls) sh (RR_ok hg).1 (i:=k) (a:=t) (b:=u) (Or.inr hx) e;rw[e1,e2]at e0;omega
   ·refine ih s ?_;simp only[verts,List.map_cons,List.mem_cons]at hs ⊢;rcases hs with hs|hs|hs
    · exact Or.inl hs
    · exact absurd hs c
    · exact Or.inr hs
end
end Net
namespace Net
open Go.RowKit YtmgkbhhnchnkcaaGreatDoorW.PrintWords Plain A
open Tree (verts)
theorem lo2_is(a b:Int):lo2 a b=a∨lo2 a b=b:=by unfold lo2;split<;>simp
theorem hi2_is(a b:Int):hi2 a b=a∨hi2 a b=b:=by unfold hi2;split<;>simp
theorem ext_att(X:Nat→S72):∀(l:List Int) (e:S2),((extL X l e).1.f2=e.1.f2∨∃i∈l,(extL X l e).1.f2=(X i.toNat).f2)∧((extL X l e).2.f2=e.2.f2∨∃i∈l,(extL X l e).2.f2=(X i.toNat).f2)
 |[],e=>⟨Or.inl rfl,Or.inl rfl⟩
 | i::l,e=>by
  obtain⟨h1,h2⟩:=ext_att X l (extS e (X i.toNat));have hd:extL X (i::l) e=extL X l (extS e (X i.toNat)):=rfl;have a1:(extS e (X i.toNat)).1.f2=lo2 e.1.f2 (X i.toNat).f2:=rfl;have a2:(extS e (X i.toNat)).2.f2=hi2 e.2.f2 (X i.toNat).f2:=rfl;rw[hd]
  constructor
  ·rcases h1 with h|⟨j,hj,h⟩
   ·rw[h,a1];rcases lo2_is e.1.f2 (X i.toNat).f2 with q|q
    · exact Or.inl q
    · exact Or.inr ⟨i,List.mem_cons_self,q⟩
   · exact Or.inr ⟨j,List.mem_cons_of_mem _ hj,h⟩
  ·rcases h2 with h|⟨j,hj,h⟩
   ·rw[h,a2];rcases hi2_is e.2.f2 (X i.toNat).f2 with q|q
    · exact Or.inl q
    · exact Or.inr ⟨i,List.mem_cons_self,q⟩
   · exact Or.inr ⟨j,List.mem_cons_of_mem _ hj,h⟩
section
variable {ls:L}
theorem co_place(hn:ls.length≤12)(hg:∀x∈ls,Good x)(h:closeL ls=[]){s:Int}(hs:s∈verts 0 (RR ls)):rd (coL ls 2) s=(Xq ls (RR ls) s.toNat).f2:=by
 have h8:=Grow.in_range (ends ls) (RR_ok hg).1 (Good.range hg) s hs;have hl:=RR_len hg;have hc:cosT ls 2 s=Sum.pl (ends ls) (sh2 ls) (RR ls) s:=cos_pl hn hg h 2 (sh2 ls) (fun k _=>rfl) (RR ls) (fun _ h=>h) (RR_ok hg).1.tr s hs;rw[coL_at hg 2 s h8.1 h8.2];unfold Xq;rw[plq_pl hg (q:=RR ls) (by omega) (fun x hx=>((RR_ok hg).1.ends x hx).2),Int.toNat_of_nonneg h8.1];exact hc
theorem co_off(hg:∀x∈ls,Good x){s:Int}(h0:0≤s)(h8:s<8)(hs:s∉verts 0 (RR ls)):rd (coL ls 2) s=0:=by
 rw[coL_at hg 2 s h0 h8,fnd_neg (fun e=>hs ((unk_iff hg s).mp e).1)];rfl
theorem co_mem_at(hg:∀x∈ls,Good x){x:Int}(hx:x∈coL ls 2):∃s:Int,(0≤s∧s<8)∧rd (coL ls 2) s=x:=by
 obtain⟨i,hi,e⟩:=List.mem_iff_getElem.mp hx;have h8:i<8:=by rw[coL_len]at hi;exact hi
 exact⟨(i:Int),⟨by omega,by omega⟩,(by rw[rd_get _ i hi,e])⟩
theorem co_in{s:Int}(h0:0≤s)(h8:s<8):rd (coL ls 2) s∈coL ls 2:=by
 obtain⟨i,rfl⟩:=Int.eq_ofNat_of_zero_le h0;have hi:i<(coL ls 2).length:=by rw[coL_len];omega
 rw[rd_get _ i hi];exact List.getElem_mem hi
theorem low_ext(hn:ls.length≤12)(hg:∀x∈ls,Good x)(h:closeL ls=[]):lowM ls 2=(extM ls).1.f2∧highM ls 2=(extM ls).2.f2:=by
 obtain⟨a1,a2,a3⟩:=foldl_min (coL ls 2) 0;obtain⟨b1,b2,b3⟩:=foldl_max (coL ls 2) 0;obtain⟨t1,t2⟩:=ext_att (Xq ls (RR ls)) (plL (RR ls)) z2;have hm:=ext_mono (Xq ls (RR ls)) (plL (RR ls)) z2;have hin:=ext_in (Xq ls (RR ls)) (plL (RR ls)) z2
 have hmem:∀i∈plL (RR ls),(Xq ls (RR ls) i.toNat).f2∈coL ls 2:=fun i hi=>by
  have hv:=(mem_plL _ _).mp hi;have h8:=Grow.in_range (ends ls) (RR_ok hg).1 (Good.range hg) i hv;rw[←co_place hn hg h hv];exact co_in h8.1 h8.2
 have hco:∀x∈coL ls 2,x=0∨∃i∈plL (RR ls),(Xq ls (RR ls) i.toNat).f2=x:=fun x hx=>by
  obtain⟨s,h8,e⟩:=co_mem_at hg hx;by_cases c:s∈verts 0 (RR ls)
  · exact Or.inr ⟨s,(mem_plL _ _).mpr c,(by rw[←co_place hn hg h c,e])⟩
  ·rw[co_off hg h8.1 h8.2 c]at e;exact Or.inl e.symm
 have z1:z2.1.f2=0:=rfl;have z3:z2.2.f2=0:=rfl;have em:extM ls=extL (Xq ls (RR ls)) (plL (RR ls)) z2:=rfl;rw[em];unfold lowM highM;generalize (coL ls 2).foldl min 0=lo at *;generalize (coL ls 2).foldl max 0=hi at *
 constructor
 ·refine Int.le_antisymm ?_ ?_
  ·rcases t1 with q|⟨i,hi',q⟩
   · rw[q,z1];exact a1
   · rw[q];exact a2 _ (hmem i hi')
  ·rcases a3 with q|q
   · rw[q];have:=hm.1.2.2;rw[z1]at this;exact this
   ·rcases hco _ q with q2|⟨i,hi',q2⟩
    · rw[q2];have:=hm.1.2.2;rw[z1]at this;exact this
    · rw[←q2];exact(hin i hi').2.2.1
 ·refine Int.le_antisymm ?_ ?_
  ·rcases b3 with q|q
   · rw[q];have:=hm.2.2.2;rw[z3]at this;exact this
   ·rcases hco _ q with q2|⟨i,hi',q2⟩
    · rw[q2];have:=hm.2.2.2;rw[z3]at this;exact this
    · rw[←q2];exact(hin i hi').2.2.2
  ·rcases t2 with q|⟨i,hi',q⟩
   · rw[q,z3];exact b1
   · rw[q];exact b2 _ (hmem i hi')
theorem red_one(n:Int):redN n 1=n∧redD n 1=1:=by
 unfold redN redD;have e:Int.gcd n 1=1:=by simp
 rw[e];exact⟨Int.tdiv_one n,rfl⟩
theorem depth_one(hn:ls.length≤12)(hg:∀x∈ls,Good x)(h:closeL ls=[]):redN (highM ls 2-lowM ls 2) (treesM ls)=wrap64 ((extM ls).2.f2-(extM ls).1.f2)∧redD (highM ls 2-lowM ls 2) (treesM ls)=1:=by
 obtain⟨e1,e2⟩:=low_ext hn hg h;have hb:=depth_bound hn hg 2;rw[trees_one hn hg h,(red_one _).1,(red_one _).2,←e1,←e2];refine⟨?_,rfl⟩;unfold TB at hb;rw[w64 (by omega) (by omega)]
end
end Net
namespace A
open Go.RowKit YtmgkbhhnchnkcaaGreatDoorW.PrintWords Plain
open Net (L usedL nT rd_get)
structure BigInv(ls:L)(ax:Int)(j:Nat):Prop where
 least:∀i,i<j→absI (nT ls ax (rd (usedL ls) (i:Int)))≤(bigTo ls ax j).2
 what:0≤(bigTo ls ax j).2→(bigTo ls ax j).1∈usedL ls∧(bigTo ls ax j).2=absI (nT ls ax (bigTo ls ax j).1)
theorem big_inv(ls:L)(ax:Int):∀j,j≤(usedL ls).length→BigInv ls ax j
 |0,_=>⟨fun i hi=>by omega,fun h=>absurd h (show¬(0:Int)≤ -1 by decide)⟩
 | j+1,hj=>by
  have ih:=big_inv ls ax j (by omega);have hm:rd (usedL ls) (j:Int)∈usedL ls:=by rw[rd_get _ j (by omega)];exact List.getElem_mem (by omega)
  have e:bigTo ls ax (j+1)=if(bigTo ls ax j).2<absI (nT ls ax (rd (usedL ls) (j:Int)))then(rd (usedL ls) (j:Int),absI (nT ls ax (rd (usedL ls) (j:Int)))) else bigTo ls ax j:=rfl
  by_cases c:(bigTo ls ax j).2<absI (nT ls ax (rd (usedL ls) (j:Int)))
  ·rw[if_pos c]at e;refine⟨fun i hi=>?_,fun _=>?_⟩
   ·rw[e];by_cases q:i=j
    · subst q;exact Int.le_refl _
    ·have:=ih.least i (by omega);simp only;omega
   · rw[e];exact⟨hm,rfl⟩
  ·rw[if_neg c]at e;refine⟨fun i hi=>?_,fun h=>?_⟩
   ·rw[e];by_cases q:i=j
    · subst q;omega
    · exact ih.least i (by omega)
   ·rw[e]at h ⊢;exact ih.what h
theorem big_least(ls:L)(ax:Int)(h:0≤(bigTo ls ax (usedL ls).length).2):(bigTo ls ax (usedL ls).length).1∈usedL ls∧∀k∈usedL ls,absI (nT ls ax k)≤absI (nT ls ax (bigTo ls ax (usedL ls).length).1):=by
 have hv:=big_inv ls ax (usedL ls).length (Nat.le_refl _);have hw:=hv.what h;refine⟨hw.1,fun k hk=>?_⟩;obtain⟨i,hi,e⟩:=List.mem_iff_getElem.mp hk;have h1:=hv.least i hi;rw[rd_get _ i hi,e,hw.2]at h1;exact h1
end A
namespace Net
open Go.RowKit YtmgkbhhnchnkcaaGreatDoorW.PrintWords Plain
theorem mem_bridges(ls:L){i:Int}(h:i∈bridgesL ls):i∈plcL ls (RR ls) ls.length∧bridgeB ls i=true:=by
 unfold bridgesL brL at h;exact List.mem_filter.mp h
theorem bridges_len(ls:L):(bridgesL ls).length≤ls.length:=Nat.le_trans (List.length_filter_le _ _) (selTo_len _ _)
end Net
namespace Net
open Go.RowKit YtmgkbhhnchnkcaaGreatDoorW.PrintWords Plain A
theorem vInts_ev(l:List Int)(hb:l.length≤140737488351232):Ev (fun k=>laws_vInts.f k l l) true:=by
 unfold laws_vInts.f;refine Ev.pos rfl ?_
 exact eq_all laws_vInts.l0 (fun k x0 x4 h0=>by
  simp only[laws_vInts.l0,if_true];by_cases h:x4<(x0.length:Int)
  · rw[if_pos h,if_pos h0,if_pos h,if_pos h]
  · rw[if_neg h,if_neg h]) l hb
theorem vHas_loop(l:List Int)(x:Int)(hb:l.length≤1000000):∀(d i:Nat),i+d=l.length→Ev (fun k=>laws_vHas.l0 k l x (i:Int)) (decide (x∈l.drop i)):=by
 intro d
 induction d with
 |zero=>
  intro i hi;rw[List.drop_eq_nil_of_le (by omega)];refine Ev.step (f:=fun _=>some false) (fun k=>?_) (by simpa using Ev.now false);simp only[laws_vHas.l0];rw[if_neg (by omega)]
 | succ d ih=>
  intro i hi;have hlt:i<l.length:=by omega
  have er:=rd_at l i hlt;have ew:wrap64 ((i:Int)+1)=((i+1:Nat):Int):=by rw[w64 (by omega) (by omega)];omega
  rw[List.drop_eq_getElem_cons hlt];refine Ev.step (f:=fun k=>if l[i]=x then some true else laws_vHas.l0 k l x ((i+1:Nat):Int)) (fun k=>?_) ?_
  ·simp only[laws_vHas.l0];rw[if_pos (by omega),if_pos (by omega),er,ew]
  ·by_cases h:l[i]=x
   ·refine Ev.pos h ?_;rw[decide_eq_true (by rw[h];exact List.mem_cons_self)];exact Ev.now _
   ·refine Ev.neg h ?_;rw[show decide (x∈l[i]::l.drop (i+1))=decide (x∈l.drop (i+1))from decide_eq_decide.mpr (by rw[List.mem_cons];exact⟨fun e=>e.resolve_left (fun q=>h q.symm),Or.inr⟩)];exact ih (i+1) (by omega)
theorem vHas_ev(l:List Int)(x:Int)(hb:l.length≤1000000):Ev (fun k=>laws_vHas.f k l x) (decide (x∈l)):=vHas_loop l x hb l.length 0 (Nat.zero_add _)
theorem vWithin_loop(l m:List Int)(hb:l.length≤1000000)(hm:m.length≤1000000)(h:∀x∈l,x∈m):∀(d i:Nat),i+d=l.length→Ev (fun k=>laws_vWithin.l0 k l m (i:Int)) true:=by
 intro d
 induction d with
 |zero=>
  intro i hi;refine Ev.step (f:=fun _=>some true) (fun k=>?_) (Ev.now _);simp only[laws_vWithin.l0];rw[if_neg (by omega)]
 |succ d ih=>
  intro i hi;have hlt:i<l.length:=by omega
  have er:=rd_at l i hlt;have ew:wrap64 ((i:Int)+1)=((i+1:Nat):Int):=by rw[w64 (by omega) (by omega)];omega
  refine Ev.step (f:=fun k=>(laws_vHas.f k m l[i]).bind fun t=>if t=true then laws_vWithin.l0 k l m ((i+1:Nat):Int) else some false) (fun k=>?_) ?_
  ·simp only[laws_vWithin.l0];rw[if_pos (by omega),if_pos (by omega),er,ew]
  ·have hh:=vHas_ev m l[i] hm;rw[decide_eq_true (h _ (List.getElem_mem hlt))]at hh;exact Ev.bind hh (Ev.pos rfl (ih (i+1) (by omega)))
theorem vWithin_ev(l m:List Int)(hb:l.length≤1000000)(hm:m.length≤1000000)(h:∀x∈l,x∈m):Ev (fun k=>laws_vWithin.f k l m) true:=vWithin_loop l m hb hm h l.length 0 (Nat.zero_add _)
theorem specRest_eq(x:S82)(h:Good x)(axis:Int)(h0:0≤axis)(h2:axis≤2)(cs:List Int)(h8:cs.length=8)(den:Int):spec_l9Rest.f x.f0 x.f1 x.f2 x.f3 x.f4 axis cs den=some (resM x axis cs den):=by
 unfold spec_l9Rest.f;rw[measure_eq x h axis h0 h2,Option.bind_some];obtain⟨⟨a0,a8⟩,⟨d0,d8⟩,_⟩:=h;rw[if_pos (by omega),if_pos (by omega),if_pos (by omega),if_pos (by omega)];rfl
theorem specRest{ls:L}(hn:ls.length≤12)(hg:∀x∈ls,Good x)(ax:Int)(h0:0≤ax)(h2:ax≤2){i:Int}(hi:i∈usedL ls):spec_l9Rest.f (rd_T82 ls i).f0 (rd_T82 ls i).f1 (rd_T82 ls i).f2 (rd_T82 ls i).f3 (rd_T82 ls i).f4 ax (coL ls ax) (treesM ls)=some (nT ls ax i):=by
 have hr:=usedL_range ls i hi;obtain⟨m,rfl⟩:=Int.eq_ofNat_of_zero_le hr.1;have hx:Good (leg ls (m:Int)):=hg _ (leg_mem (by omega));have h:=specRest_eq (leg ls (m:Int)) hx ax h0 h2 (coL ls ax) (coL_len ls ax) (treesM ls);rw[res_all hn hg ax hi]at h;exact h
theorem squares_loop{ls:L}(hn:ls.length≤12)(hg:∀x∈ls,Good x)(ax:Int)(h0:0≤ax)(h2:ax≤2):∀(d j:Nat),j+d=(usedL ls).length →
  Ev (fun k=>spec_l9Squares.l0 k ls ax (coL ls ax) (treesM ls) (sqTo (resL ls ax) j) (usedL ls) (j:Int)) (redN (SA ls ax) (treesM ls*treesM ls),redD (SA ls ax) (treesM ls*treesM ls)):=by
 have hul:=usedL_len ls;have hrl:(resL ls ax).length=(usedL ls).length:=by unfold resL;rw[List.length_map]
 intro d
 induction d with
 |zero=>
  intro j hj;have ht1:=trees_pos hn hg;have ht2:=trees_le hn hg;have hs:=SA_bound hn hg ax;have hsq:treesM ls*treesM ls≤6561*6561:=Int.mul_le_mul ht2 ht2 (by omega) (by omega);have hsp:0<treesM ls*treesM ls:=Int.mul_pos (by omega) (by omega);have e:sqTo (resL ls ax) j=SA ls ax:=by rw[←sqTo_all hn hg ax,hrl,show j=(usedL ls).length by omega]
  rw[e];refine Ev.step (f:=fun k=>(spec_l9Reduce.f k (SA ls ax) (wrap64 (treesM ls*treesM ls))).bind fun bt=>some (bt.1,bt.2)) (fun k=>?_) ?_
  ·simp only[spec_l9Squares.l0];rw[if_neg (by omega)]
  ·rw[w64 (by omega) (by omega)];exact Ev.bind (l9Reduce_ev (SA ls ax) (treesM ls*treesM ls) hsp (by omega) (by omega) (by omega)) (Ev.now _)
 | succ d ih=>
  intro j hj;have hlt:j<(usedL ls).length:=by omega
  have h:=ih (j+1) (by omega);have hm:rd (usedL ls) (j:Int)∈usedL ls:=by rw[rd_get _ j hlt];exact List.getElem_mem hlt
  have hr:=usedL_range ls _ hm;have hs:=specRest hn hg ax h0 h2 hm
  have e:sqTo (resL ls ax) (j+1)=wrap64 (sqTo (resL ls ax) j+wrap64 (nT ls ax (rd (usedL ls) (j:Int))*nT ls ax (rd (usedL ls) (j:Int)))):=by
   rw[sqTo_step _ j (by omega)]
   have e2:rd (resL ls ax) (j:Int)=nT ls ax (rd (usedL ls) (j:Int)):=by
    rw[rd_get _ j (by omega),rd_get _ j hlt];unfold resL;rw[List.getElem_map]
   rw[e2]
  refine Ev.step (fun k=>?_) h;simp only[spec_l9Squares.l0];rw[if_pos (by omega),if_pos (by omega),if_pos hr.1,if_pos hr.2,hs,Option.bind_some,e,w64 (x:=(j:Int)+1) (by omega) (by omega)];rfl
theorem l9Squares_ev{ls:L}(hv:legsB ls=true)(ax:Int)(h0:0≤ax)(h2:ax≤2):Ev (fun k=>spec_l9Squares.f k ls ax) (redN (SA ls ax) (treesM ls*treesM ls),redD (SA ls ax) (treesM ls*treesM ls)):=by
 have h':=legsB_iff.mp hv;have ht:spec_l9Trees.f ls=some (treesM ls):=by unfold spec_l9Trees.f;rw[if_pos hv]
 have ha:spec_l9Adjust.f ls ax=some (coL ls ax):=by unfold spec_l9Adjust.f;rw[if_pos ⟨hv,h0,h2⟩]
 exact Ev.bindc ha (Ev.bindc ht (Ev.bind (l9Legs_ev h'.2 h'.1) (squares_loop h'.2 h'.1 ax h0 h2 (usedL ls).length 0 (by omega))))
theorem l9Axis_ev(ls:L)(ax:Int)(hb:ls.length≤140737488351232):Ev (fun k=>spec_l9Axis.f k ls ax) (decide (legsB ls=true∧(0≤ax∧ax≤2))):=by
 refine Ev.bind (l4Legs_ev ls hb) ?_;by_cases hv:legsB ls=true
 ·refine Ev.pos hv ?_;rw[show spec_l1In.f ax 0 2=some (decide (0≤ax∧ax≤2))from within_eq ax 0 2,Option.bind_some,show decide (legsB ls=true∧(0≤ax∧ax≤2))=decide (0≤ax∧ax≤2)from by simp[hv]];exact Ev.now _
 ·rw[decide_eq_false (fun e=>hv e.1)];exact Ev.neg hv (Ev.now _)
end Net
namespace SpSquareSum
open Go.RowKit YtmgkbhhnchnkcaaGreatDoorW.PrintWords Plain A
theorem squareSum_ev(ls:Net.L)(ax:Int)(hb:ls.length≤140737488351232):Ev (fun k=>spec_SquareSum.f k ls ax) (squM ls ax):=by
 refine Ev.bind (Net.l9Axis_ev ls ax hb) ?_;unfold squM;by_cases hv:Net.legsB ls=true∧(0≤ax∧ax≤2)
 ·rw[if_pos hv];exact Ev.pos (decide_eq_true hv) (Ev.bind (Net.l9Squares_ev hv.1 ax hv.2.1 hv.2.2) (Ev.now _))
 ·rw[if_neg hv];exact Ev.neg (by rw[decide_eq_false hv];decide) (Ev.now _)
end SpSquareSum
namespace SpLargestResidual
open Go.RowKit YtmgkbhhnchnkcaaGreatDoorW.PrintWords Plain A
theorem large_loop{ls:Net.L}(hn:ls.length≤12)(hg:∀x∈ls,Net.Good x)(ax:Int)(h0:0≤ax)(h2:ax≤2):∀(d j:Nat),j+d=(Net.usedL ls).length →
  Ev (fun k=>spec_LargestResidual.l0 k ls ax (Net.usedL ls) (Net.treesM ls) (Net.coL ls ax) (bigTo ls ax j).1 (bigTo ls ax j).2 (j:Int)) ((bigTo ls ax (Net.usedL ls).length).1,true):=by
 have hul:=Net.usedL_len ls;intro d
 induction d with
 |zero=>
  intro j hj;obtain rfl:j=(Net.usedL ls).length:=by omega
  refine Ev.step (f:=fun _=>some ((bigTo ls ax (Net.usedL ls).length).1,true)) (fun k=>?_) (Ev.now _);simp only[spec_LargestResidual.l0];rw[if_neg (by omega)]
 |succ d ih=>
  intro j hj;have hlt:j<(Net.usedL ls).length:=by omega
  have h:=ih (j+1) (by omega);have hm:rd (Net.usedL ls) (j:Int)∈Net.usedL ls:=by rw[Net.rd_get _ j hlt];exact List.getElem_mem hlt
  have hr:=Net.usedL_range ls _ hm;have hs:=Net.specRest hn hg ax h0 h2 hm;have ha:=absI_spec (Net.nT_bound hn hg ax hm);refine Ev.step (fun k=>?_) h;simp only[spec_LargestResidual.l0];rw[if_pos (by omega),if_pos (by omega),if_pos hr.1,if_pos hr.2,hs,Option.bind_some,ha,Option.bind_some,w64 (x:=(j:Int)+1) (by omega) (by omega)];by_cases hgt:absI (Net.nT ls ax (rd (Net.usedL ls) (j:Int)))>(bigTo ls ax j).2
  ·rw[if_pos hgt,show bigTo ls ax (j+1)=(rd (Net.usedL ls) (j:Int),absI (Net.nT ls ax (rd (Net.usedL ls) (j:Int))))from by conv=>lhs;unfold bigTo;rw[if_pos hgt]];rfl
  ·rw[if_neg hgt,show bigTo ls ax (j+1)=bigTo ls ax j from by conv=>lhs;unfold bigTo;rw[if_neg hgt]];rfl
theorem largest_ev(ls:Net.L)(ax:Int)(hb:ls.length≤140737488351232):Ev (fun k=>spec_LargestResidual.f k ls ax) (bigM ls ax):=by
 have hstop:Ev (fun k=>spec_LargestResidual.j0 k ls ax true) (0,false):=
  Ev.step (f:=fun _=>some (0,false)) (fun k=>by simp only[spec_LargestResidual.j0,if_true]) (Ev.now _)
 refine Ev.bind (Net.l9Axis_ev ls ax hb) ?_;unfold bigM;by_cases hv:Net.legsB ls=true∧(0≤ax∧ax≤2)
 case neg=>
  rw[if_neg hv];exact Ev.neg (by rw[decide_eq_false hv];decide) hstop
 rw[if_pos hv];have h':=Net.legsB_iff.mp hv.1;have hlegs:Ev (fun k=>spec_l9Legs.f k ls) (Net.usedL ls):=Net.l9Legs_ev h'.2 h'.1;refine Ev.pos (decide_eq_true hv) (Ev.bind hlegs ?_);have ht:spec_l9Trees.f ls=some (Net.treesM ls):=by unfold spec_l9Trees.f;rw[if_pos hv.1]
 have ha:spec_l9Adjust.f ls ax=some (Net.coL ls ax):=by unfold spec_l9Adjust.f;rw[if_pos hv]
 by_cases he:(Net.usedL ls).length=0
 ·rw[he,show((((0:Nat):Int))==0)=true from rfl];exact hstop
 ·obtain⟨m,hm⟩:∃m,(Net.usedL ls).length=m+1:=⟨(Net.usedL ls).length-1,by omega⟩
  have hl:=large_loop h'.2 h'.1 ax hv.2.1 hv.2.2 (Net.usedL ls).length 0 (by omega);have hsz:=bigTo_size ls ax m;rw[←hm]at hsz;rw[decide_eq_true hsz,show(((Net.usedL ls).length:Int)==0)=false from by rw[beq_eq_false_iff_ne];omega];refine Ev.step (f:=fun k=>(spec_l9Legs.f k ls).bind fun t=>(spec_l9Trees.f ls).bind fun t'=>(spec_l9Adjust.f ls ax).bind fun t''=>spec_LargestResidual.l0 k ls ax t t' t'' 0 (-1) 0) (fun k=>?_) (Ev.bind hlegs (Ev.bindc ht (Ev.bindc ha hl)));simp only[spec_LargestResidual.j0,Bool.false_eq_true,if_false]
end SpLargestResidual
namespace SpAdjustedDepth
open Go.RowKit YtmgkbhhnchnkcaaGreatDoorW.PrintWords Plain A
theorem fold_step(f:Int→Int→Int)(l:List Int)(j:Nat)(h:j<l.length):(l.take (j+1)).foldl f 0=f ((l.take j).foldl f 0) (rd l (j:Int)):=by
 rw[List.take_add_one,List.getElem?_eq_getElem h,Net.rd_get _ j h,List.foldl_append];rfl
theorem least_eq(a b:Int):spec_l1Least.f a b=some (min a b):=by
 unfold spec_l1Least.f;split<;>(congr 1;omega)
theorem most_eq(a b:Int):spec_l1Most.f a b=some (max a b):=by
 unfold spec_l1Most.f;split<;>(congr 1;omega)
theorem depth_loop{ls:Net.L}(hv:Net.legsB ls=true):∀(d j:Nat),j+d=(Net.coL ls 2).length →
  Ev (fun k=>spec_AdjustedDepth.l0 k ls (Net.coL ls 2) (((Net.coL ls 2).take j).foldl min 0) (((Net.coL ls 2).take j).foldl max 0) (j:Int)) (Net.redN (Net.highM ls 2-Net.lowM ls 2) (Net.treesM ls),Net.redD (Net.highM ls 2-Net.lowM ls 2) (Net.treesM ls),true):=by
 have h':=Net.legsB_iff.mp hv;have h8:=Net.coL_len ls 2;intro d
 induction d with
 |zero=>
  intro j hj;have ht1:=Net.trees_pos h'.2 h'.1;have ht2:=Net.trees_le h'.2 h'.1;have hs:=Net.depth_bound h'.2 h'.1 2;have hTB:(Net.TB:Int)≤1000000000000:=by decide
  have ht:spec_l9Trees.f ls=some (Net.treesM ls):=by unfold spec_l9Trees.f;rw[if_pos hv]
  obtain rfl:j=(Net.coL ls 2).length:=by omega
  rw[List.take_length];refine Ev.step (f:=fun k=>(spec_l9Trees.f ls).bind fun t=>(spec_l9Reduce.f k (wrap64 (Net.highM ls 2-Net.lowM ls 2)) t).bind fun bt=>some (bt.1,bt.2,true)) (fun k=>?_) ?_
  ·simp only[spec_AdjustedDepth.l0];rw[if_neg (by omega)];rfl
  ·rw[w64 (by omega) (by omega)];exact Ev.bindc ht (Ev.bind (Net.l9Reduce_ev (Net.highM ls 2-Net.lowM ls 2) (Net.treesM ls) (by omega) (by omega) (by omega) (by omega)) (Ev.now _))
 |succ d ih=>
  intro j hj;have hlt:j<(Net.coL ls 2).length:=by omega
  have h:=ih (j+1) (by omega);rw[fold_step min _ j hlt,fold_step max _ j hlt]at h;refine Ev.step (fun k=>?_) h;simp only[spec_AdjustedDepth.l0];rw[if_pos (by omega),if_pos (by omega),least_eq,Option.bind_some,most_eq,Option.bind_some,w64 (x:=(j:Int)+1) (by omega) (by omega)];rfl
theorem depth_ev(ls:Net.L)(hb:ls.length≤140737488351232):Ev (fun k=>spec_AdjustedDepth.f k ls) (depM ls):=by
 refine Ev.bind (Net.l4Legs_ev ls hb) ?_;unfold depM;by_cases hv:Net.legsB ls=true
 ·rw[if_pos hv];have ha:spec_l9Adjust.f ls 2=some (Net.coL ls 2):=by unfold spec_l9Adjust.f;rw[if_pos ⟨hv,by decide,by decide⟩]
  exact Ev.pos hv (Ev.bindc ha (depth_loop hv (Net.coL ls 2).length 0 (by omega)))
 ·rw[if_neg hv];exact Ev.neg hv (Ev.now _)
end SpAdjustedDepth
namespace SpTreeCount
open Go.RowKit YtmgkbhhnchnkcaaGreatDoorW.PrintWords Plain A
theorem treeCount_ev(ls:Net.L)(hb:ls.length≤140737488351232):Ev (fun k=>spec_TreeCount.f k ls) (treeCountM ls):=by
 refine Ev.bind (Net.l4Legs_ev ls hb) ?_;unfold treeCountM;by_cases hv:Net.legsB ls=true
 ·have he:spec_l9Trees.f ls=some (Net.treesM ls):=by unfold spec_l9Trees.f;rw[if_pos hv]
  simp only[if_pos hv];exact Ev.bindc he (Ev.now _)
 ·simp only[if_neg hv];exact Ev.now _
end SpTreeCount
namespace Net
open Go.RowKit YtmgkbhhnchnkcaaGreatDoorW.PrintWords Plain A
def exTo(ls:L)(j:Nat):List Int:=((usedL ls).take j).filter (fun k=>decide (nT ls 0 k=0∧nT ls 1 k=0∧nT ls 2 k=0))
theorem exTo_len(ls:L)(j:Nat):(exTo ls j).length≤12∨ls.length>12:=by
 by_cases h:ls.length≤12
 ·refine Or.inl ?_;have h1:=usedL_len ls;have h2:=List.length_filter_le (fun k=>decide (nT ls 0 k=0∧nT ls 1 k=0∧nT ls 2 k=0)) ((usedL ls).take j);have h3:((usedL ls).take j).length≤(usedL ls).length:=by rw[List.length_take];omega
  unfold exTo;omega
 · exact Or.inr (by omega)
theorem exTo_step(ls:L)(j:Nat)(h:j<(usedL ls).length):exTo ls (j+1)=if nT ls 0 (rd (usedL ls) (j:Int))=0∧nT ls 1 (rd (usedL ls) (j:Int))=0∧nT ls 2 (rd (usedL ls) (j:Int))=0 then exTo ls j++[rd (usedL ls) (j:Int)] else exTo ls j:=by
 have hx:rd (usedL ls) (j:Int)=(usedL ls)[j]:=rd_get _ j h;unfold exTo;rw[List.take_succ_eq_append_getElem h,List.filter_append,←hx];generalize rd (usedL ls) (j:Int)=u;by_cases c:nT ls 0 u=0∧nT ls 1 u=0∧nT ls 2 u=0
 · rw[if_pos c,List.filter_cons,if_pos (decide_eq_true c),List.filter_nil]
 · rw[if_neg c,List.filter_cons,if_neg qz88,List.filter_nil,List.append_nil]
theorem exact_loop{ls:L}(hn:ls.length≤12)(hg:∀x∈ls,Good x):∀(d j:Nat),j+d=(usedL ls).length →
  Ev (fun k=>spec_ExactLegs.l0 k ls (exTo ls j) (usedL ls) (treesM ls) (coL ls 0) (coL ls 1) (coL ls 2) (j:Int)) (exTo ls (usedL ls).length,true):=by
 have hul:=usedL_len ls;intro d
 induction d with
 |zero=>
  intro j hj;obtain rfl:j=(usedL ls).length:=by omega
  refine Ev.step (f:=fun _=>some (exTo ls (usedL ls).length,true)) (fun k=>?_) (Ev.now _);simp only[spec_ExactLegs.l0];rw[if_neg (by omega)]
 | succ d ih=>
  intro j hj;have hlt:j<(usedL ls).length:=by omega
  have h:=ih (j+1) (by omega);have hm:rd (usedL ls) (j:Int)∈usedL ls:=by rw[rd_get _ j hlt];exact List.getElem_mem hlt
  have hr:=usedL_range ls _ hm;have s0:=specRest hn hg 0 (by decide) (by decide) hm;have s1:=specRest hn hg 1 (by decide) (by decide) hm;have s2:=specRest hn hg 2 (by decide) (by decide) hm;have hl:(exTo ls j).length≤12:=(exTo_len ls j).elim id (fun e=>absurd hn (by omega));have hst:=exTo_step ls j hlt;refine Ev.step (fun k=>?_) h;simp only[spec_ExactLegs.l0];rw[if_pos (by omega),if_pos (by omega),if_pos hr.1,if_pos hr.2,s0,Option.bind_some,s1,Option.bind_some,s2,Option.bind_some,w64 (x:=(j:Int)+1) (by omega) (by omega),hst];generalize rd (usedL ls) (j:Int)=u at *;by_cases c0:nT ls 0 u=0
  ·rw[if_pos c0];by_cases c1:nT ls 1 u=0
   ·rw[if_pos c1];by_cases c2:nT ls 2 u=0
    · rw[if_pos c2,if_pos (by omega),if_pos ⟨c0,c1,c2⟩];rfl
    · rw[if_neg c2,if_neg (fun e=>c2 e.2.2)];rfl
   · rw[if_neg c1,if_neg (fun e=>c1 e.2.1)];rfl
  · rw[if_neg c0,if_neg (fun e=>c0 e.1)];rfl
theorem specExact_ev(ls:L)(hb:ls.length≤140737488351232):Ev (fun k=>spec_ExactLegs.f k ls) (if legsB ls=true then(exA ls 3,true) else([],false)):=by
 refine Ev.bindc rfl (Ev.bind (l4Legs_ev ls hb) ?_);by_cases hv:legsB ls=true
 ·rw[if_pos hv];have h':=legsB_iff.mp hv;have ht:spec_l9Trees.f ls=some (treesM ls):=by unfold spec_l9Trees.f;rw[if_pos hv]
  have ha:∀ax:Int,0≤ax→ax≤2→spec_l9Adjust.f ls ax=some (coL ls ax):=fun ax h0 h2=>by unfold spec_l9Adjust.f;rw[if_pos ⟨hv,h0,h2⟩]
  have e:exTo ls (usedL ls).length=exA ls 3:=by unfold exTo;rw[List.take_length,exA_three]
  have h:=exact_loop h'.2 h'.1 (usedL ls).length 0 (by omega);rw[e]at h;exact Ev.pos hv (Ev.bind (l9Legs_ev h'.2 h'.1) (Ev.bindc ht (Ev.bindc (ha 0 (by decide) (by decide)) (Ev.bindc (ha 1 (by decide) (by decide)) (Ev.bindc (ha 2 (by decide) (by decide)) h)))))
 ·rw[if_neg hv];exact Ev.neg hv (Ev.now _)
end Net
end Go.Proofs.YtmgkbhhnchnkcaaGreatDoor
