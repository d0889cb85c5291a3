/- The row of the law FnFixes: whatever the input, it returns true; its arguments read as they did. No conditions. -/
import Derived.Deep.Slices
import Derived.Deep.Fields
import Derived.ChangeSame
import Derived.SizedLaws
import Derived.Test.YtmgkbhhnchnkcaaGreatDoorCards
import Derived.Test.YtmgkbhhnchnkcaaGreatDoorTie
import Derived.OpenVars
import Derived.ChangeVars
import Derived.SevenTiedAt
import Derived.ShutString
import Derived.ChangeOld
import Derived.Test.YtmgkbhhnchnkcaaGreatDoorKFnFixesU9
set_option linter.unusedSimpArgs false
set_option linter.unusedVariables false
namespace Go.Proofs.YtmgkbhhnchnkcaaGreatDoor
namespace Draw
open Go Go.RowKit YtmgkbhhnchnkcaaGreatDoorW.PrintWords Plain A
def Oks{α:Type}(g:Nat→Option α)(P:α→Prop):Prop:=∃r,Ev g r∧P r
theorem Oks.bind{α β:Type}{g:Nat→Option α}{f:Nat→α→Option β}{P:α→Prop}{Q:β→Prop}(h:Oks g P)(k:∀r,P r→Oks (fun n=>f n r) Q):Oks (fun n=>(g n).bind (f n)) Q:=by
 obtain⟨r,h1,h2⟩:=h;obtain⟨q,k1,k2⟩:=k r h2;exact⟨q,Ev.bind h1 k1,k2⟩
theorem Oks.now{α:Type}{P:α→Prop}{r:α}(h:P r):Oks (fun _=>some r) P:=⟨r,Ev.now _,h⟩
theorem Oks.pos{α:Type}{c:Prop}[Decidable c]{g f:Nat→Option α}{P:α→Prop}(hc:c)(h:Oks g P):Oks (fun n=>if c then g n else f n) P:=by
 obtain⟨r,h1,h2⟩:=h;exact⟨r,Ev.pos hc h1,h2⟩
theorem Oks.neg{α:Type}{c:Prop}[Decidable c]{g f:Nat→Option α}{P:α→Prop}(hc:¬c)(h:Oks f P):Oks (fun n=>if c then g n else f n) P:=by
 obtain⟨r,h1,h2⟩:=h;exact⟨r,Ev.neg hc h1,h2⟩
theorem Oks.ite{α:Type}{c:Prop}[Decidable c]{g f:Nat→Option α}{P:α→Prop}(h:c→Oks g P)(k:¬c→Oks f P):Oks (fun n=>if c then g n else f n) P:=by
 by_cases hc:c
 · exact Oks.pos hc (h hc)
 · exact Oks.neg hc (k hc)
theorem Oks.step{α:Type}{g f:Nat→Option α}{P:α→Prop}(e:∀k,g (k+1)=f k)(h:Oks f P):Oks g P:=by
 obtain⟨r,h1,h2⟩:=h;exact⟨r,Ev.step e h1,h2⟩
theorem Oks.imp{α:Type}{g:Nat→Option α}{P Q:α→Prop}(h:Oks g P)(k:∀r,P r→Q r):Oks g Q:=by
 obtain⟨r,h1,h2⟩:=h;exact⟨r,h1,k r h2⟩
theorem Oks.of{α:Type}{g:Nat→Option α}{P:α→Prop}{r:α}(h:Ev g r)(k:P r):Oks g P:=⟨r,h,k⟩
def Bytes(code:List Int):Prop:=∀x∈code,0≤x∧x≤255
theorem Bytes.of_wf{code:List Int}(h:∀x∈code,(Lit.int .u8 x).wf=true):Bytes code:=fun x hx=>by
 have:=h x hx;simp only[Lit.wf,IntKind.min,IntKind.max,IntKind.signed,IntKind.bits,Bool.and_eq_true,decide_eq_true_eq,Bool.false_eq_true,if_false]at this;omega
theorem Bytes.at_{code:List Int}(h:Bytes code)(i:Int):0≤rd code i∧rd code i≤255:=by
 have e:rd code i=code.getD i.toNat 0:=rfl;rw[e];by_cases hi:i.toNat<code.length
 ·have e2:code.getD i.toNat 0=code[i.toNat]:=by simp[List.getD,hi]
  rw[e2];exact h _ (List.getElem_mem hi)
 ·have e2:code.getD i.toNat 0=0:=by simp[List.getD,hi]
  rw[e2];omega
theorem and255(x:Int)(h0:0≤x)(h1:x≤18446744073709551615):0≤Go.bits .and .u64 x 255∧Go.bits .and .u64 x 255≤255:=by
 have h:=bits_and_u64_nat x.toNat 255 (by omega) (by omega);rw[Int.toNat_of_nonneg h0]at h;have h2:x.toNat &&& 255≤255:=Nat.and_le_right;have e:Go.bits .and .u64 x 255=((x.toNat &&& 255:Nat):Int):=h;rw[e];omega
theorem seed_low(x:Int):0≤wrap64 (Go.bits .and .u64 (IntKind.u64.wrap x/1099511627776) 255)∧wrap64 (Go.bits .and .u64 (IntKind.u64.wrap x/1099511627776) 255)≤255:=by
 have h:=IntKind.wrap_u64 x;have h2:=and255 (IntKind.u64.wrap x/1099511627776) (by omega) (by omega);rw[w64 (by omega) (by omega)];exact h2
theorem next_ok{code:List Int}(hc:Bytes code)(hl:code.length≤65536)(a s:Int)(h0:0≤a)(h1:a≤1000000000):∃v s',spec_l1Cur_next.f code a s=some (v,a+1,s')∧0≤v∧v≤255:=by
 have hr:=hc.at_ a;have e1:wrap64 (rd code a)=rd code a:=w64 (by omega) (by omega);have e2:wrap64 (a+1)=a+1:=w64 (by omega) (by omega);unfold spec_l1Cur_next.f;rw[e2];by_cases c1:a<(code.length:Int)
 ·rw[if_pos c1,if_pos h0,if_pos (by omega),e1];exact⟨_,_,rfl,hr⟩
 ·rw[if_neg c1,if_neg (by omega)];exact⟨_,_,rfl,seed_low _⟩
theorem pick_ok{code:List Int}(hc:Bytes code)(hl:code.length≤65536)(a s n:Int)(h0:0≤a)(h1:a≤100000000):∃v a' s',spec_l1Cur_pick.f code a s n=some (v,a',s')∧0≤v∧(0<n→v<n)∧a≤a'∧a'≤a+2:=by
 unfold spec_l1Cur_pick.f;by_cases c1:n≤1
 ·rw[if_pos c1];exact⟨0,a,s,rfl,by omega,by omega,by omega,by omega⟩
 rw[if_neg c1];obtain⟨v,s1,e,hv⟩:=next_ok hc hl a s h0 (by omega);rw[e,Option.bind_some];by_cases c2:n>200
 ·obtain⟨v2,s2,e2,hv2⟩:=next_ok hc hl (a+1) s1 (by omega) (by omega);have e3:wrap64 (wrap64 (v*256)+v2)=v*256+v2:=by rw[w64 (x:=v*256) (by omega) (by omega),w64 (by omega) (by omega)]
  rw[if_pos c2,e2,Option.bind_some,if_neg (by omega),e3];have hm:=Int.tmod_lt_of_pos (v*256+v2) (show(0:Int)<n by omega);have hm0:=Int.tmod_nonneg n (show(0:Int)≤v*256+v2 by omega);exact⟨_,_,_,rfl,hm0,fun _=>hm,qz50,qz50⟩
 ·rw[if_neg c2,if_neg (by omega)];have hm:=Int.tmod_lt_of_pos v (show(0:Int)<n by omega);have hm0:=Int.tmod_nonneg n (show(0:Int)≤v by omega);exact⟨_,_,_,rfl,hm0,fun _=>hm,qz50,qz50⟩
theorem among_ok{code:List Int}(hc:Bytes code)(hl:code.length≤65536)(a s:Int)(l:List Int)(hn:0<l.length)(h0:0≤a)(h1:a≤100000000):∃v a' s',spec_l1Cur_among.f code a s l=some (v,a',s')∧v∈l∧a≤a'∧a'≤a+2:=by
 unfold spec_l1Cur_among.f;obtain⟨v,a',s',e,hv0,hv1,ha⟩:=pick_ok hc hl a s (l.length:Int) h0 h1;have hv:=hv1 (by omega);rw[e,Option.bind_some,if_pos hv0,if_pos hv];refine⟨_,_,_,rfl,?_,ha⟩;have e2:rd l v=l.getD v.toNat 0:=rfl;have hi:v.toNat<l.length:=by omega
 have e3:l.getD v.toNat 0=l[v.toNat]:=by simp[List.getD,hi]
 rw[e2,e3];exact List.getElem_mem _
theorem pickK{code:List Int}(hc:Bytes code)(hl:code.length≤65536)(a s n:Int)(h0:0≤a)(h1:a≤100000000):Oks (fun _=>spec_l1Cur_pick.f code a s n) (fun r=>0≤r.1∧(0<n→r.1<n)∧a≤r.2.1∧r.2.1≤a+2):=by
 obtain⟨v,a',s',e,h⟩:=pick_ok hc hl a s n h0 h1;exact⟨_,Ev.some (fun _=>e),h⟩
theorem amongK{code:List Int}(hc:Bytes code)(hl:code.length≤65536)(a s:Int)(l:List Int)(hn:0<l.length)(h0:0≤a)(h1:a≤100000000):Oks (fun _=>spec_l1Cur_among.f code a s l) (fun r=>r.1∈l∧a≤r.2.1∧r.2.1≤a+2):=by
 obtain⟨v,a',s',e,h⟩:=among_ok hc hl a s l hn h0 h1;exact⟨_,Ev.some (fun _=>e),h⟩
theorem oneK{code:List Int}(hc:Bytes code)(hl:code.length≤65536)(a s n:Int)(h0:0≤a)(h1:a≤100000000):Oks (fun _=>spec_l1Cur_one.f code a s n) (fun r=>a≤r.2.1∧r.2.1≤a+2):=by
 obtain⟨v,a',s',e,h⟩:=pick_ok hc hl a s n h0 h1;exact⟨(v==0,a',s'),Ev.some (fun _=>by unfold spec_l1Cur_one.f;rw[e];rfl),h.2.2⟩
variable {code:List Int} (hc:Bytes code) (hl:code.length≤65536)
include hc hl
theorem leg_j0(a s b0 b1 b2 b3 b4:Int)(h0:0≤a)(h1:a≤90000000):Oks (fun k=>spec_l1Cur_leg.j0 k code a s b0 b1 b2 b3 b4) (fun r=>a≤r.2.2.2.2.2.1∧r.2.2.2.2.2.1≤a+4):=by
 refine Oks.step (fun k=>by simp only[spec_l1Cur_leg.j0];rfl) ?_;refine Oks.bind (pickK hc hl a s 40 h0 (by omega)) ?_;rintro⟨v,a1,s1⟩ ⟨e1,e2,e3,e4⟩
 dsimp only at e1 e2 e3 e4 ⊢
 refine Oks.ite (fun _=>?_) (fun _=>Oks.ite (fun _=>?_) (fun _=>Oks.ite (fun _=>?_) (fun _=>Oks.ite (fun _=>?_) (fun _=>Oks.now ⟨qz50,qz50⟩))))
 all_goals
  refine Oks.bind (amongK hc hl a1 s1 _ (by simp) (by omega) (by omega)) ?_;rintro⟨u,a2,s2⟩ ⟨_,g3,g4⟩
  dsimp only at g3 g4 ⊢
  exact Oks.now ⟨qz50,qz50⟩
theorem legK(a s:Int)(h0:0≤a)(h1:a≤80000000):Oks (fun k=>spec_l1Cur_leg.f k code a s) (fun r=>a≤r.2.2.2.2.2.1∧r.2.2.2.2.2.1≤a+20):=by
 unfold spec_l1Cur_leg.f;refine Oks.bind (pickK hc hl a s 6 h0 (by omega)) ?_;rintro⟨v1,a1,s1⟩ ⟨_,_,e3,e4⟩
 dsimp only at e3 e4 ⊢
 refine Oks.bind (pickK hc hl a1 s1 6 (by omega) (by omega)) ?_;rintro⟨v2,a2,s2⟩ ⟨_,_,f3,f4⟩
 dsimp only at f3 f4 ⊢
 refine Oks.bind (amongK hc hl a2 s2 _ (by simp) (by omega) (by omega)) ?_;rintro⟨v3,a3,s3⟩ ⟨_,g3,g4⟩
 dsimp only at g3 g4 ⊢
 refine Oks.bind (amongK hc hl a3 s3 _ (by simp) (by omega) (by omega)) ?_;rintro⟨v4,a4,s4⟩ ⟨_,h3,h4⟩
 dsimp only at h3 h4 ⊢
 refine Oks.bind (amongK hc hl a4 s4 _ (by simp) (by omega) (by omega)) ?_;rintro⟨v5,a5,s5⟩ ⟨_,i3,i4⟩
 dsimp only at i3 i4 ⊢
 exact Oks.ite (fun _=>(leg_j0 hc hl a5 s5 _ _ _ _ _ (by omega) (by omega)).imp fun r ⟨k1,k2⟩=>⟨by omega,by omega⟩) (fun _=>(leg_j0 hc hl a5 s5 _ _ _ _ _ (by omega) (by omega)).imp fun r ⟨k1,k2⟩=>⟨by omega,by omega⟩)
end Draw
namespace Draw
open Go Go.RowKit YtmgkbhhnchnkcaaGreatDoorW.PrintWords Plain A Net
theorem Oks.bindc{α β:Type}{o:Option α}{f:Nat→α→Option β}{a:α}{Q:β→Prop}(h:o=some a)(k:Oks (fun n=>f n a) Q):Oks (fun n=>o.bind (f n)) Q:=by
 subst h;exact k
theorem l1In_eq(x a b:Int):∃r,spec_l1In.f x a b=some r:=by
 unfold spec_l1In.f;split<;>exact⟨_,rfl⟩
theorem l2Long_eq(x:Int):∃r,spec_l2Long.f x=some r:=by
 unfold spec_l2Long.f;obtain⟨r,e⟩:=l1In_eq x (-100000) 100000;rw[e];exact⟨r,rfl⟩
theorem dlen_loop(n:Int):∀(d:Nat) (lo hi:Int),hi-lo≤d→0≤lo→hi≤200000→Oks (fun k=>spec_LengthOf.l0 k n lo hi) (fun _=>True):=by
 intro d
 induction d with
 |zero=>
  intro lo hi h h0 h1;refine Oks.step (fun k=>by simp only[spec_LengthOf.l0];rfl) ?_;exact Oks.neg (by omega) (Oks.now trivial)
 |succ d ih=>
  intro lo hi h h0 h1;refine Oks.step (fun k=>by simp only[spec_LengthOf.l0];rfl) ?_;refine Oks.ite (fun hlt=>?_) (fun _=>Oks.now trivial);have e1:wrap64 (lo+hi)=lo+hi:=w64 (by omega) (by omega);have e2:wrap64 (lo+hi+1)=lo+hi+1:=w64 (by omega) (by omega);have hd:Int.tdiv (lo+hi+1) 2=(lo+hi+1)/2:=Int.tdiv_eq_ediv_of_nonneg (by omega);have e3:wrap64 (Int.tdiv (lo+hi+1) 2)=(lo+hi+1)/2:=by rw[hd];exact w64 (by omega) (by omega)
  have e4:wrap64 ((lo+hi+1)/2-1)=(lo+hi+1)/2-1:=w64 (by omega) (by omega);rw[e1,e2,e3,e4];exact Oks.ite (fun _=>ih _ _ (by omega) (by omega) (by omega)) (fun _=>ih _ _ (by omega) (by omega) (by omega))
theorem dlen_j0(a b c:Int)(t:Bool):Oks (fun k=>spec_LengthOf.j0 k a b c t) (fun _=>True):=by
 refine Oks.step (fun k=>by simp only[spec_LengthOf.j0];rfl) ?_;exact Oks.ite (fun _=>Oks.now trivial) (fun _=>dlen_loop _ 200000 0 200000 (by omega) (by omega) (by omega))
theorem lengthK(a b c:Int):Oks (fun k=>spec_LengthOf.f k a b c) (fun _=>True):=by
 unfold spec_LengthOf.f;obtain⟨r,e⟩:=l2Long_eq a;obtain⟨r2,e2⟩:=l2Long_eq b;obtain⟨r3,e3⟩:=l2Long_eq c;exact Oks.bindc e (Oks.ite (fun _=>Oks.bindc e2 (Oks.ite (fun _=>Oks.bindc e3 (dlen_j0 _ _ _ _)) (fun _=>dlen_j0 _ _ _ _))) (fun _=>dlen_j0 _ _ _ _))
theorem bear_loop(x y:Int):∀(d:Nat) (b i:Int),i+d=360→1≤i→0≤b→b≤359→Oks (fun k=>spec_BearingTo.l0 k x y b i) (fun _=>True):=by
 intro d
 induction d with
 |zero=>
  intro b i h h0 hb0 hb1;refine Oks.step (fun k=>by simp only[spec_BearingTo.l0];rfl) ?_;exact Oks.neg (by omega) (Oks.now trivial)
 |succ d ih=>
  intro b i h h0 hb0 hb1;refine Oks.step (fun k=>by simp only[spec_BearingTo.l0];rfl) ?_;refine Oks.pos (by omega) ?_;refine Oks.bindc (sine_eq i (by omega) (by omega)) (Oks.bindc (cosine_eq i (by omega) (by omega)) (Oks.bindc (sine_eq b (by omega) (by omega)) (Oks.bindc (cosine_eq b (by omega) (by omega)) ?_)));rw[w64 (x:=i+1) (by omega) (by omega)];exact Oks.ite (fun _=>ih i (i+1) (by omega) (by omega) (by omega) (by omega)) (fun _=>ih b (i+1) (by omega) (by omega) (by omega) (by omega))
theorem bear_j0(x y:Int)(t:Bool):Oks (fun k=>spec_BearingTo.j0 k x y t) (fun _=>True):=by
 refine Oks.step (fun k=>by simp only[spec_BearingTo.j0];rfl) ?_;exact Oks.ite (fun _=>Oks.now trivial) (fun _=>bear_loop x y 359 0 1 (by omega) (by omega) (by omega) (by omega))
theorem bearK(a b:Int):Oks (fun k=>spec_BearingTo.f k a b) (fun _=>True):=by
 unfold spec_BearingTo.f;obtain⟨r,e⟩:=l2Long_eq a;obtain⟨r2,e2⟩:=l2Long_eq b;exact Oks.bindc e (Oks.ite (fun _=>Oks.bindc e2 (Oks.ite (fun _=>Oks.ite (fun _=>bear_j0 _ _ _) (fun _=>bear_j0 _ _ _)) (fun _=>bear_j0 _ _ _))) (fun _=>bear_j0 _ _ _))
theorem slope_loop(x y:Int):∀(d:Nat) (b i:Int),i+d=91→1≤i→ -90≤b→b≤90→Oks (fun k=>spec_SlopeTo.l0 k x y b i) (fun _=>True):=by
 intro d
 induction d with
 |zero=>
  intro b i h h0 hb0 hb1;refine Oks.step (fun k=>by simp only[spec_SlopeTo.l0];rfl) ?_;exact Oks.neg (by omega) (Oks.now trivial)
 | succ d ih=>
  intro b i h h0 hb0 hb1;refine Oks.step (fun k=>by simp only[spec_SlopeTo.l0];rfl) ?_;refine Oks.pos (by omega) ?_
  have stop:∀b2:Int,-90≤b2→b2≤90→Oks (fun k=>spec_SlopeTo.l1 k x y b2 i (-3)) (fun _=>True):=fun b2 g0 g1=>by
   refine Oks.step (fun k=>by simp only[spec_SlopeTo.l1];rfl) (Oks.neg (by omega) ?_);rw[w64 (x:=i+1) (by omega) (by omega)];exact ih b2 (i+1) (by omega) (by omega) g0 g1
  have one:∀(b2 s s2:Int),-90≤b2→b2≤90→s=1∨s= -1→s2=s-2→(∀b3:Int,-90≤b3→b3≤90→Oks (fun k=>spec_SlopeTo.l1 k x y b3 i s2) (fun _=>True))→Oks (fun k=>spec_SlopeTo.l1 k x y b2 i s) (fun _=>True):=fun b2 s s2 g0 g1 hs h2 hk=>by
   have hm:wrap64 (s*i)=s*i:=by rcases hs with rfl|rfl<;>exact w64 (by omega) (by omega)
   have hb: -90≤s*i∧s*i≤90:=by rcases hs with rfl|rfl<;>omega
   refine Oks.step (fun k=>by simp only[spec_SlopeTo.l1];rfl) (Oks.pos (by rcases hs with rfl|rfl<;>omega) ?_);rw[hm,w64 (x:=s-2) (by omega) (by omega),←h2];refine Oks.bindc (cosine_eq i (by omega) (by omega)) (Oks.bindc (sine_eq (s*i) (by omega) (by omega)) (Oks.bindc (cosine_eq b2 (by omega) (by omega)) (Oks.bindc (sine_eq b2 (by omega) (by omega)) ?_)));exact Oks.ite (fun _=>hk _ hb.1 hb.2) (fun _=>hk _ g0 g1)
  exact one b 1 (-1) hb0 hb1 (Or.inl rfl) rfl (fun b3 g0 g1=>one b3 (-1) (-3) g0 g1 (Or.inr rfl) rfl stop)
theorem slope_j0(x y:Int)(t:Bool):Oks (fun k=>spec_SlopeTo.j0 k x y t) (fun _=>True):=by
 refine Oks.step (fun k=>by simp only[spec_SlopeTo.j0];rfl) ?_;exact Oks.ite (fun _=>Oks.now trivial) (fun _=>slope_loop x y 90 0 1 (by omega) (by omega) (by omega) (by omega))
theorem slopeK(a b:Int):Oks (fun k=>spec_SlopeTo.f k a b) (fun _=>True):=by
 unfold spec_SlopeTo.f;obtain⟨r,e⟩:=l1In_eq a 0 100000;obtain⟨r2,e2⟩:=l2Long_eq b;exact Oks.bindc e (Oks.ite (fun _=>Oks.bindc e2 (Oks.ite (fun _=>Oks.ite (fun _=>slope_j0 _ _ _) (fun _=>slope_j0 _ _ _)) (fun _=>slope_j0 _ _ _))) (fun _=>slope_j0 _ _ _))
variable {code:List Int} (hc:Bytes code) (hl:code.length≤65536)
include hc hl
def CaveP(M:Int)(r:List S82×Int×Int):Prop:=r.1.length≤9∧0≤r.2.1∧r.2.1≤M
theorem cave_l1(M:Int)(hM:M≤70000000)(x4:Int)(x5:List S72)(h5:(x5.length:Int)=x4)(h4:2≤x4):∀(d:Nat) (x3:List S82) (a s:Int),1≤x3.length→x3.length+d≤8→0≤a→a+30*(d:Int)+100≤M→Oks (fun k=>spec_l1Cur_cave.l1 k x3 x4 x5 (d:Int) code a s) (CaveP M):=by
 intro d
 induction d with
 | zero=>
  intro x3 a s h1 h2 h0 ha;refine Oks.step (fun k=>by simp only[spec_l1Cur_cave.l1];rfl) (Oks.neg (by omega) ?_);refine Oks.bind (pickK hc hl a s 24 h0 (by omega)) ?_;rintro⟨v,a1,s1⟩ ⟨_,_,e3,e4⟩
  dsimp only at e3 e4 ⊢
  refine Oks.ite (fun _=>?_) (fun _=>Oks.ite (fun _=>?_) (fun _=>Oks.ite (fun _=>?_) (fun _=>?_)))
  ·refine Oks.bind (legK hc hl a1 s1 (by omega) (by omega)) ?_;rintro⟨b0,b1,b2,b3,b4,a2,s2⟩ ⟨f3,f4⟩
   dsimp only at f3 f4 ⊢
   exact Oks.pos (by omega) (Oks.now ⟨(by simp only[List.length_set];omega),qz50,qz50⟩)
  ·refine Oks.bind (legK hc hl a1 s1 (by omega) (by omega)) ?_;rintro⟨b0,b1,b2,b3,b4,a2,s2⟩ ⟨f3,f4⟩
   dsimp only at f3 f4 ⊢
   exact Oks.pos (by omega) (Oks.now ⟨qz67,qz50,qz50⟩)
  ·refine Oks.bind (P:=fun r=>r=[]) (Oks.now rfl) ?_;rintro r rfl;refine Oks.pos (by omega) (Oks.bind (P:=fun r=>r.length≤8) (Oks.now (by rw[List.length_drop];omega)) ?_);intro r hr;exact Oks.pos (by simp only[List.length_nil];omega) (Oks.now ⟨(by simp only[List.nil_append];omega),qz50,qz50⟩)
  · exact Oks.now ⟨qz50,qz50,qz50⟩
 | succ d ih=>
  intro x3 a s h1 h2 h0 ha;have ed:wrap64 (((d+1:Nat):Int)-1)=(d:Int):=by rw[w64 (by omega) (by omega)];omega
  refine Oks.step (fun k=>by simp only[spec_l1Cur_cave.l1];rfl) (Oks.pos (by omega) ?_);refine Oks.bind (pickK hc hl a s x4 h0 (by omega)) ?_;rintro⟨v,a1,s1⟩ ⟨e1,e2,e3,e4⟩
  dsimp only at e1 e2 e3 e4 ⊢
  have e5:=e2 (by omega);refine Oks.bind (pickK hc hl a1 s1 x4 (by omega) (by omega)) ?_;rintro⟨v2,a2,s2⟩ ⟨f1,f2,f3,f4⟩
  dsimp only at f1 f2 f3 f4 ⊢
  have f5:=f2 (by omega);refine Oks.pos (by omega) (Oks.pos (by omega) (Oks.pos (by omega) (Oks.pos (by omega) ?_)));refine Oks.bind (P:=fun _=>True) ⟨_,Ev.some (fun k=>rfl),trivial⟩ ?_;rintro⟨p0,p1,p2⟩ _
  dsimp only
  refine Oks.bind (lengthK p0 p1 0) ?_;rintro⟨q0,q1⟩ _
  dsimp only
  refine Oks.bind (lengthK p0 p1 p2) ?_;rintro⟨r0,r1⟩ _
  dsimp only
  have j2:∀t:Bool,Oks (fun k=>spec_l1Cur_cave.j2 k x3 x4 x5 ((d+1:Nat):Int) v v2 q0 r0 t code a2 s2 p0 p1 p2) (CaveP M):=fun t=>by
   refine Oks.step (fun k=>by simp only[spec_l1Cur_cave.j2,ed];rfl) ?_;refine Oks.ite (fun _=>ih x3 a2 s2 h1 (by omega) (by omega) (by omega)) (fun _=>?_);refine Oks.bind (bearK p0 p1) ?_;rintro⟨t0,t1⟩ _
   dsimp only
   refine Oks.bind (slopeK q0 p2) ?_;rintro⟨u0,u1⟩ _
   dsimp only
   refine Oks.bind (pickK hc hl a2 s2 4 (by omega) (by omega)) ?_;rintro⟨v3,a3,s3⟩ ⟨_,_,g3,g4⟩
   dsimp only at g3 g4 ⊢
   refine Oks.bind (pickK hc hl a3 s3 3 (by omega) (by omega)) ?_;rintro⟨v4,a4,s4⟩ ⟨_,_,i3,i4⟩
   dsimp only at i3 i4 ⊢
   exact Oks.pos (by omega) (ih _ a4 s4 qz67 qz67 (by omega) (by omega))
  refine Oks.ite (fun _=>j2 true) (fun _=>?_);obtain⟨r,e⟩:=l1In_eq (wrap64 (r0+3)) 4 500;exact Oks.bindc e (j2 _)
theorem cave_l0(M:Int)(hM:M≤70000000)(x4:Int)(h4:2≤x4)(h4':x4≤6):∀(d:Nat) (x3:List S82) (x5:List S72) (x6 a s:Int),x6+d=x4→1≤x6→(x5.length:Int)=x6→(x3.length:Int)+1=x6→0≤a→a+30*(d:Int)+300≤M→Oks (fun k=>spec_l1Cur_cave.l0 k x3 x4 x5 x6 code a s) (CaveP M):=by
 intro d
 induction d with
 |zero=>
  intro x3 x5 x6 a s h6 h1 h5 h3 h0 ha;refine Oks.step (fun k=>by simp only[spec_l1Cur_cave.l0];rfl) (Oks.neg (by omega) ?_);refine Oks.bind (pickK hc hl a s 4 h0 (by omega)) ?_;rintro⟨v,a1,s1⟩ ⟨e1,e2,e3,e4⟩
  dsimp only at e1 e2 e3 e4 ⊢
  have e5:=e2 (by omega);rw[show v=((v.toNat:Nat):Int) by omega];exact cave_l1 hc hl M hM x4 x5 (by omega) h4 v.toNat x3 a1 s1 (by omega) (by omega) (by omega) (by omega)
 | succ d ih=>
  intro x3 x5 x6 a s h6 h1 h5 h3 h0 ha;refine Oks.step (fun k=>by simp only[spec_l1Cur_cave.l0];rfl) (Oks.pos (by omega) ?_);refine Oks.bind (pickK hc hl a s x6 h0 (by omega)) ?_;rintro⟨v1,a1,s1⟩ ⟨e1,e2,e3,e4⟩
  dsimp only at e1 e2 e3 e4 ⊢
  have e5:=e2 (by omega);refine Oks.bind (amongK hc hl a1 s1 _ (by simp) (by omega) (by omega)) ?_;rintro⟨v2,a2,s2⟩ ⟨m2,f3,f4⟩
  dsimp only at m2 f3 f4 ⊢
  refine Oks.bind (amongK hc hl a2 s2 _ (by simp) (by omega) (by omega)) ?_;rintro⟨v3,a3,s3⟩ ⟨m3,g3,g4⟩
  dsimp only at m3 g3 g4 ⊢
  refine Oks.bind (amongK hc hl a3 s3 _ (by simp) (by omega) (by omega)) ?_;rintro⟨v4,a4,s4⟩ ⟨m4,i3,i4⟩
  dsimp only at m4 i3 i4 ⊢
  refine Oks.pos (by omega) (Oks.pos (by omega) ?_)
  have hgood:Net.Good (⟨v1,x6,v2,v3,v4⟩:S82):=by
   simp only[List.mem_cons,List.not_mem_nil,or_false]at m2 m3 m4;unfold Net.Good;simp only;omega
  refine Oks.bindc (shift_eq ⟨v1,x6,v2,v3,v4⟩ hgood) ?_;refine Oks.bind (P:=fun _=>True) ⟨_,Ev.some (fun k=>rfl),trivial⟩ ?_;rintro⟨p0,p1,p2⟩ _
  dsimp only
  refine Oks.pos (by omega) (Oks.bind (P:=fun r=>(r.length:Int)=x6+1) (Oks.now qz67) ?_);intro y hy;refine Oks.bind (oneK hc hl a4 s4 4 (by omega) (by omega)) ?_;rintro⟨o,a5,s5⟩ ⟨j3,j4⟩
  dsimp only at j3 j4 ⊢
  rw[w64 (x:=x6+1) (by omega) (by omega)];refine Oks.ite (fun _=>?_) (fun _=>?_)
  ·refine Oks.bind (P:=fun _=>True) ⟨_,Ev.some (fun k=>rfl),trivial⟩ ?_;rintro⟨q0,q1,q2,q3,q4⟩ _
   dsimp only
   exact Oks.pos (by omega) (ih _ y (x6+1) a5 s5 (by omega) (by omega) hy qz67 (by omega) (by omega))
  · exact Oks.pos (by omega) (ih _ y (x6+1) a5 s5 (by omega) (by omega) hy qz67 (by omega) (by omega))
theorem caveK(a s:Int)(h0:0≤a)(h1:a≤60000000):Oks (fun k=>spec_l1Cur_cave.f k code a s) (CaveP (a+1000)):=by
 unfold spec_l1Cur_cave.f;refine Oks.bind (pickK hc hl a s 5 h0 (by omega)) ?_;rintro⟨v,a1,s1⟩ ⟨e1,e2,e3,e4⟩
 dsimp only at e1 e2 e3 e4 ⊢
 have e5:=e2 (by omega);rw[w64 (x:=2+v) (by omega) (by omega)];exact cave_l0 hc hl (a+1000) (by omega) (2+v) (by omega) (by omega) (1+v).toNat [] [⟨0,0,0⟩] 1 a1 s1 (by omega) (by omega) (by simp) (by simp) (by omega) (by omega)
end Draw
namespace Draw
open Go Go.RowKit YtmgkbhhnchnkcaaGreatDoorW.PrintWords Plain A
variable {code:List Int} (hc:Bytes code) (hl:code.length≤65536)
include hc hl
end Draw
namespace Draw
open Go Go.RowKit YtmgkbhhnchnkcaaGreatDoorW.PrintWords Plain A Net
variable {code:List Int} (hc:Bytes code) (hl:code.length≤65536)
include hc hl
end Draw
namespace Draw
open Go Go.RowKit YtmgkbhhnchnkcaaGreatDoorW.PrintWords Plain A Net
variable {code:List Int} (hc:Bytes code) (hl:code.length≤65536)
include hc hl
def KP(b:Int)(r:List S82×Int×Int×Int):Prop:=r.1.length≤9∧0≤r.2.2.1∧r.2.2.1≤b
theorem closing_j2(l:List S82)(h9:l.length≤9)(t:Bool)(ht:t=true→legsB l=true)(a s:Int)(h0:0≤a)(h1:a≤70000000)(b:Int)(hb:a+4≤b):Oks (fun k=>spec_l1Cur_closing.j2 k l t code a s) (KP b):=by
 have any:Oks (fun k=>(spec_l1Cur_pick.f code a s (wrap64 ((l.length:Int)+1))).bind fun bt=>(spec_l1Cur_pick.f code bt.2.1 bt.2.2 9).bind fun bt2=>some (l,wrap64 (bt.1-wrap64 (Int.tdiv bt2.1 8)),bt2.2.1,bt2.2.2)) (KP b):=by
  refine Oks.bind (pickK hc hl a s _ h0 (by omega)) ?_;rintro⟨v,a2,s2⟩ ⟨_,_,e3,e4⟩
  dsimp only at e3 e4 ⊢
  refine Oks.bind (pickK hc hl a2 s2 9 (by omega) (by omega)) ?_;rintro⟨v2,a3,s3⟩ ⟨_,_,e5,e6⟩
  dsimp only at e5 e6 ⊢
  exact Oks.now ⟨h9,qz50,qz50⟩
 refine Oks.step (fun k=>by simp only[spec_l1Cur_closing.j2];rfl) ?_;refine Oks.ite (fun c=>?_) (fun _=>any);have hv:=legsB_iff.mp (ht c);refine Oks.bind (P:=fun r=>r=closeL l) ⟨_,closing_ev l hv.2 hv.1,rfl⟩ ?_;rintro r rfl;refine Oks.ite (fun hp=>?_) (fun _=>any);refine Oks.bind (pickK hc hl a s _ h0 (by omega)) ?_;rintro⟨v,a2,s2⟩ ⟨e1,e2,e3,e4⟩
 dsimp only at e1 e2 e3 e4 ⊢
 exact Oks.pos e1 (Oks.pos (e2 (by omega)) (Oks.now ⟨h9,qz50,qz50⟩))
theorem closing_j1(l:List S82)(h9:l.length≤9)(a s:Int)(h0:0≤a)(h1:a≤60000000)(b:Int)(hb:a+6≤b):Oks (fun k=>spec_l1Cur_closing.j1 k l code a s) (KP b):=by
 refine Oks.step (fun k=>by simp only[spec_l1Cur_closing.j1];rfl) ?_;refine Oks.bind (P:=fun r=>r=legsB l) ⟨_,l4Legs_ev l (by omega),rfl⟩ ?_;rintro r rfl;refine Oks.ite (fun h=>?_) (fun _=>closing_j2 hc hl l h9 false (by simp) a s h0 (by omega) b (by omega));refine Oks.bind (oneK hc hl a s 12 h0 (by omega)) ?_;rintro⟨o,a2,s2⟩ ⟨e3,e4⟩
 dsimp only at e3 e4 ⊢
 exact closing_j2 hc hl l h9 _ (fun _=>h) a2 s2 (by omega) (by omega) b (by omega)
theorem closing_l0:∀(d:Nat) (l:List S82) (x5 a s b:Int),l.length≤9→x5+d=3→0≤x5→0≤a→a+2000*(d:Int)≤50000000→a+1000*(d:Int)+6≤b→Oks (fun k=>spec_l1Cur_closing.l0 k l x5 code a s) (KP b):=by
 intro d
 induction d with
 |zero=>
  intro l x5 a s b h9 hx h5 h0 h1 hb;refine Oks.step (fun k=>by simp only[spec_l1Cur_closing.l0];rfl) (Oks.neg (by omega) ?_);exact closing_j1 hc hl l h9 a s h0 (by omega) b (by omega)
 | succ d ih=>
  intro l x5 a s b h9 hx h5 h0 h1 hb;refine Oks.step (fun k=>by simp only[spec_l1Cur_closing.l0];rfl) (Oks.pos (by omega) ?_);rw[w64 (x:=x5+1) (by omega) (by omega)]
  have again:Oks (fun k=>(spec_l1Cur_cave.f k code a s).bind fun bt=>spec_l1Cur_closing.l0 k bt.1 (x5+1) code bt.2.1 bt.2.2) (KP b):=by
   refine Oks.bind (caveK hc hl a s h0 (by omega)) ?_;rintro⟨m,a2,s2⟩ ⟨g1,g2,g3⟩
   dsimp only at g1 g2 g3 ⊢
   exact ih m (x5+1) a2 s2 b g1 (by omega) (by omega) g2 (by omega) (by omega)
  refine Oks.bind (P:=fun r=>r=legsB l) ⟨_,l4Legs_ev l (by omega),rfl⟩ ?_;rintro r rfl;refine Oks.ite (fun h=>?_) (fun _=>again);have hv:=legsB_iff.mp h;refine Oks.bind (P:=fun r=>r=closeL l) ⟨_,closing_ev l hv.2 hv.1,rfl⟩ ?_;rintro r rfl;exact Oks.ite (fun _=>again) (fun _=>closing_j1 hc hl l h9 a s h0 (by omega) b (by omega))
theorem closingK(a s:Int)(h0:0≤a)(h1:a≤40000000):Oks (fun k=>spec_l1Cur_closing.f k code a s) (KP (a+4006)):=by
 unfold spec_l1Cur_closing.f;refine Oks.bind (caveK hc hl a s h0 (by omega)) ?_;rintro⟨m,a2,s2⟩ ⟨g1,g2,g3⟩
 dsimp only at g1 g2 g3 ⊢
 exact closing_l0 hc hl 3 m 0 a2 s2 _ g1 (by omega) (by omega) g2 (by omega) (by omega)
end Draw
namespace Draw
open Go Go.RowKit YtmgkbhhnchnkcaaGreatDoorW.PrintWords Plain A Net
variable {code:List Int} (hc:Bytes code) (hl:code.length≤65536)
include hc hl
theorem blund_j0(l:List S82)(h9:l.length≤9)(t:Bool)(ht:t=true→0<l.length)(a s:Int)(h0:0≤a)(h1:a≤50000000):Oks (fun k=>spec_l1Cur_blundered.j0 k l t code a s) (fun r=>r.1.length≤9∧0≤r.2.1∧r.2.1≤a+4):=by
 refine Oks.step (fun k=>by simp only[spec_l1Cur_blundered.j0];rfl) ?_;refine Oks.ite (fun c=>?_) (fun _=>Oks.now ⟨h9,qz50,qz50⟩);have hp:=ht c;refine Oks.bind (pickK hc hl a s _ h0 (by omega)) ?_;rintro⟨v,a2,s2⟩ ⟨e1,e2,e3,e4⟩
 dsimp only at e1 e2 e3 e4 ⊢
 have e2':=e2 (by omega);refine Oks.bind (pickK hc hl a2 s2 4 (by omega) (by omega)) ?_;rintro⟨f,a3,s3⟩ ⟨f1,f2,f3,f4⟩
 dsimp only at f1 f2 f3 f4 ⊢
 obtain⟨m,rfl⟩:=Int.eq_ofNat_of_zero_le e1;refine Oks.bindc (fix_eq l m (wrap64 (1+f)) (by omega) (by omega)) ?_;have hlen:(l.set m (fixX (leg l m) (wrap64 (1+f)))).length≤9:=by rw[List.length_set];exact h9
 refine Oks.bind (P:=fun _=>True) ⟨_,l4Legs_ev _ (by omega),trivial⟩ ?_;intro r _;exact Oks.ite (fun _=>Oks.now ⟨hlen,qz50,qz50⟩) (fun _=>Oks.now ⟨h9,qz50,qz50⟩)
theorem blundK(a s:Int)(h0:0≤a)(h1:a≤30000000):Oks (fun k=>spec_l1Cur_blundered.f k code a s) (fun r=>r.1.length≤9∧0≤r.2.1∧r.2.1≤a+5000):=by
 unfold spec_l1Cur_blundered.f;refine Oks.bind (closingK hc hl a s h0 (by omega)) ?_;rintro⟨l,i,a1,s1⟩ ⟨h2,h3,h4⟩
 dsimp only at h2 h3 h4 ⊢
 refine Oks.ite (fun c=>?_) (fun _=>?_)
 ·refine Oks.bind (oneK hc hl a1 s1 3 h3 (by omega)) ?_;rintro⟨o,a2,s2⟩ ⟨e3,e4⟩
  dsimp only at e3 e4 ⊢
  exact(blund_j0 hc hl l h2 _ (fun _=>by omega) a2 s2 (by omega) (by omega)).imp fun r h=>⟨h.1,h.2.1,by omega⟩
 · exact(blund_j0 hc hl l h2 false (by simp) a1 s1 h3 (by omega)).imp fun r h=>⟨h.1,h.2.1,by omega⟩
theorem drawStrain:Oks (fun k=>spec_DrawStrainOf.f k code) (fun r=>r.length≤9):=Oks.bind (blundK hc hl 0 0 (by omega) (by omega)) fun r h=>Oks.now h.1
theorem drawClean:Oks (fun k=>spec_DrawCleanLegs.f k code) (fun r=>r.length≤9):=Oks.bind (drawStrain hc hl) fun r h=>Oks.now h
theorem drawFix:Oks (fun k=>spec_DrawFixLeg.f k code) (fun r=>r.1.length≤9):=by
 unfold spec_DrawFixLeg.f;refine Oks.bind (blundK hc hl 0 0 (by omega) (by omega)) ?_;rintro⟨l,a1,s1⟩ ⟨h1,h2,h3⟩
 dsimp only at h1 h2 h3 ⊢
 refine Oks.bind (pickK hc hl a1 s1 _ h2 (by omega)) ?_;rintro⟨v,a2,s2⟩ ⟨_,_,e3,e4⟩
 dsimp only at e3 e4 ⊢
 refine Oks.bind (pickK hc hl a2 s2 9 (by omega) (by omega)) ?_;rintro⟨v2,a3,s3⟩ ⟨_,_,e5,e6⟩
 dsimp only at e5 e6 ⊢
 refine Oks.bind (amongK hc hl a3 s3 _ (by simp) (by omega) (by omega)) ?_;rintro⟨v3,a4,s4⟩ _;exact Oks.now h1
end Draw
namespace Net
open Go.RowKit YtmgkbhhnchnkcaaGreatDoorW.PrintWords YtmgkbhhnchnkcaaGreatDoorW.PrintLast YtmgkbhhnchnkcaaGreatDoorW.PrintMore A Plain
open Tree (verts legs W)
open Grow (Q sweep grow)
open Conn (Conn)
end Net
namespace Det
end Det
namespace Net
open Go.RowKit YtmgkbhhnchnkcaaGreatDoorW.PrintWords Plain A Det
open Conn (Conn)
open Tree (verts)
section
variable {ls:L}
def pd(ls:L)(y:Int→Int)(k:Int):Int:=y (leg ls k).f1-y (leg ls k).f0
theorem used_ends(hg:∀x∈ls,Good x){k:Int}(hk:k∈usedL ls):(leg ls k).f0∈verts 0 (RR ls)∧(leg ls k).f1∈verts 0 (RR ls):=by
 obtain⟨m,rfl,hm,hp⟩:=(mem_selTo _ _ _).mp hk;have hgood:=leg_good hg m hm;rw[Pq_eq,Int.toNat_of_nonneg hgood.1.1]at hp;have h0:=(mem_plL _ _).mp (of_decide_eq_true hp);exact⟨h0,((RR_ok hg).2 (m:Int) (by omega) (by omega)).mp h0⟩
theorem used_iff(hg:∀x∈ls,Good x)(m:Nat)(hm:m<ls.length):((m:Int)∈usedL ls)↔(leg ls (m:Int)).f0∈verts 0 (RR ls):=by
 constructor
 · exact fun h=>(used_ends hg h).1
 ·intro h;have hgood:=leg_good hg m hm;refine(mem_selTo _ _ _).mpr ⟨m,rfl,hm,?_⟩;rw[Pq_eq,Int.toNat_of_nonneg hgood.1.1];exact decide_eq_true ((mem_plL _ _).mpr h)
end
end Net
namespace Net
open Go.RowKit YtmgkbhhnchnkcaaGreatDoorW.PrintWords Plain A Frac
theorem sCmp_cases(x y:L):(sCmp x y= -1∧sCmp x y<0)∨(sCmp x y≠ -1∧¬sCmp x y<0):=by
 unfold sCmp cmp;split
 · exact Or.inl ⟨rfl,by decide⟩
 ·refine Or.inr ?_;split<;>exact⟨by decide,by decide⟩
theorem cmpS_ev{x y:L}(hx:∀z∈x,Good z)(nx:x.length≤12)(hy:∀z∈y,Good z)(ny:y.length≤12):Ev (fun k=>spec_l10Compare.f k (sNum x) (sDen x) (sNum y) (sDen y)) (sCmp x y):=by
 have h1:=s_bound nx hx;have h2:=s_bound ny hy;unfold sCmp;exact compare_ev (by omega) (by omega) (by omega) (by omega) (by unfold big;omega) (by unfold big;omega) (by unfold big;omega) (by unfold big;omega)
end Net
namespace Net
open Go.RowKit YtmgkbhhnchnkcaaGreatDoorW.PrintWords Plain Frac
def slt(x y:L):Prop:=sN x*treesM y<sN y*treesM x
def sle(x y:L):Prop:=sN x*treesM y≤sN y*treesM x
structure Fit(x:L):Prop where
 len:x.length≤12
 good:∀z∈x,Good z
theorem frac_lt{a d N T b e M U:Int}(hd:0<d)(he:0<e)(hT:0<T)(hU:0<U)(h1:a*T=N*d)(h2:b*U=M*e):a*e<b*d↔N*U<M*T:=by
 have p1:0<T*U:=Int.mul_pos hT hU;have p2:0<d*e:=Int.mul_pos hd he
 have e1:a*e*(T*U)=N*U*(d*e):=by
  have:a*e*(T*U)=(a*T)*(e*U):=by grind
  rw[this,h1];grind
 have e2:b*d*(T*U)=M*T*(d*e):=by
  have:b*d*(T*U)=(b*U)*(d*T):=by grind
  rw[this,h2];grind
 constructor
 ·intro h;refine Int.lt_of_mul_lt_mul_right (a:=d*e) ?_ (Int.le_of_lt p2);rw[←e1,←e2];exact Int.mul_lt_mul_of_pos_right h p1
 ·intro h;refine Int.lt_of_mul_lt_mul_right (a:=T*U) ?_ (Int.le_of_lt p1);rw[e1,e2];exact Int.mul_lt_mul_of_pos_right h p2
theorem frac_slt{x y:L}(hx:Fit x)(hy:Fit y):sNum x*sDen y<sNum y*sDen x↔slt x y:=by
 have r1:=sRed hx.len hx.good;have r2:=sRed hy.len hy.good;have t1:=trees_pos hx.len hx.good;have t2:=trees_pos hy.len hy.good;exact frac_lt r1.1 r2.1 (by omega) (by omega) r1.2.2 r2.2.2
theorem sCmp_lt{x y:L}(hx:Fit x)(hy:Fit y):sCmp x y= -1↔slt x y:=by
 rw[←frac_slt hx hy];unfold sCmp cmp;by_cases c:sNum x*sDen y<sNum y*sDen x
 · rw[if_pos c];exact⟨fun _=>c,fun _=>rfl⟩
 ·rw[if_neg c];refine⟨fun h=>?_,fun h=>absurd h c⟩;split at h<;>exact absurd h (by decide)
theorem sCmp_gt{x y:L}(hx:Fit x)(hy:Fit y):0<sCmp x y↔slt y x:=by
 rw[←frac_slt hy hx];unfold sCmp cmp;by_cases c:sNum x*sDen y<sNum y*sDen x
 ·rw[if_pos c];exact⟨fun h=>absurd h (by decide),fun h=>by omega⟩
 ·rw[if_neg c];by_cases d:sNum y*sDen x<sNum x*sDen y
  ·first|rw[if_pos d]|rw[if_pos (show _>_ from d)]
   exact⟨fun _=>d,fun _=>by decide⟩
  ·first|rw[if_neg d]|rw[if_neg (show¬(_>_)from d)]
   exact⟨fun h=>absurd h (by decide),fun h=>absurd h d⟩
theorem sle_refl(x:L):sle x x:=Int.le_refl _
theorem not_slt{x y:L}:¬slt x y↔sle y x:=by unfold slt sle;omega
theorem slt_sle{x y:L}(h:slt x y):sle x y:=Int.le_of_lt h
theorem sle_trans{x y z:L}(hx:Fit x)(hy:Fit y)(hz:Fit z)(h:sle x y)(k:sle y z):sle x z:=by
 have t1:=trees_pos hx.len hx.good;have t2:=trees_pos hy.len hy.good;have t3:=trees_pos hz.len hz.good;unfold sle at *;generalize treesM x=a at *;generalize treesM y=b at *;generalize treesM z=c at *;generalize sN x=p at *;generalize sN y=q at *;generalize sN z=r at *;refine Int.le_of_mul_le_mul_right (a:=b) ?_ (by omega);have h1:p*b*c≤q*a*c:=Int.mul_le_mul_of_nonneg_right h (by omega);have h2:q*c*a≤r*b*a:=Int.mul_le_mul_of_nonneg_right k (by omega);have e1:p*c*b=p*b*c:=by grind
 have e2:r*a*b=r*b*a:=by grind
 have e3:q*a*c=q*c*a:=by grind
 omega
theorem slt_trans{x y z:L}(hx:Fit x)(hy:Fit y)(hz:Fit z)(h:slt x y)(k:sle y z):slt x z:=by
 rcases Classical.em (slt x z)with c|c
 · exact c
 · exact absurd (sle_trans hy hz hx k (not_slt.mp c)) (fun e=>by unfold slt at h;unfold sle at e;omega)
end Net
namespace Net
open Go.RowKit YtmgkbhhnchnkcaaGreatDoorW.PrintWords Plain A
theorem BOk.fit{ls:L}(h:Fit ls){st:BS}(o:BOk ls st):Fit st.y:=⟨(by rw[o.len];exact h.len),o.good⟩
theorem set_fit{ls:L}(h:Fit ls)(k:Nat){x:S82}(hx:Good x):Fit (ls.set k x):=⟨(by rw[List.length_set];exact h.len),set_good h.good k hx⟩
structure Down(ls:L)(st:BS):Prop where
 le:sle st.y ls
 zero:st.h=0→st.y=ls
 lt:st.h≠0→slt st.y ls
theorem step_down{ls:L}(h:Fit ls){st:BS}(o:BOk ls st)(d:Down ls st)(k:Nat)(hk:k<ls.length)(fix:Int)(h1:1≤fix):Down ls (stepB ls k st fix)∧sle (stepB ls k st fix).y st.y∧(Good (fixX (leg ls k) fix)→sle (stepB ls k st fix).y (ls.set k (fixX (leg ls k) fix))):=by
 unfold stepB;by_cases c:Good (fixX (leg ls k) fix)∧sCmp (ls.set k (fixX (leg ls k) fix)) st.y= -1
 ·rw[if_pos c];have hf:=set_fit h k c.1;have hlt:=(sCmp_lt hf (o.fit h)).mp c.2;have hl2:=slt_trans hf (o.fit h) h hlt d.le;exact⟨⟨slt_sle hl2,fun e=>by simp only at e;omega,fun _=>hl2⟩,slt_sle hlt,fun _=>sle_refl _⟩
 ·rw[if_neg c];refine⟨d,sle_refl _,fun hx=>?_⟩;have hf:=set_fit h k hx;exact not_slt.mp (fun q=>c ⟨hx,(sCmp_lt hf (o.fit h)).mpr q⟩)
theorem fix_down{ls:L}(h:Fit ls){st:BS}(o:BOk ls st)(d:Down ls st)(k:Nat)(hk:k<ls.length):∀m:Nat,m≤4→Down ls (fixTo ls k st m)∧sle (fixTo ls k st m).y st.y∧∀f:Nat,1≤f→f≤m→Good (fixX (leg ls k) (f:Int))→sle (fixTo ls k st m).y (ls.set k (fixX (leg ls k) (f:Int)))
 |0,_=>⟨d,sle_refl _,fun f h1 h2=>by omega⟩
 |m+1,hm=>by
  obtain⟨d1,d2,d3⟩:=fix_down h o d k hk m (by omega);have o1:=o.fixS h.good k hk m (by omega);have o2:=o.fixS h.good k hk (m+1) hm;obtain⟨e1,e2,e3⟩:=step_down h o1 d1 k hk ((m:Int)+1) (by omega);refine⟨e1,sle_trans (o2.fit h) (o1.fit h) (o.fit h) e2 d2,fun f h1 h2 hx=>?_⟩;by_cases c:f=m+1
  ·subst c;exact e3 hx
  · exact sle_trans (o2.fit h) (o1.fit h) (set_fit h k hx) e2 (d3 f h1 (by omega) hx)
theorem fold_down{ls:L}(h:Fit ls):∀(l:List Int) (st:BS),BOk ls st→Down ls st→(∀i∈l,0≤i∧i<(ls.length:Int))→
  Down ls (l.foldl (fun st k=>fixTo ls k.toNat st 4) st)∧sle (l.foldl (fun st k=>fixTo ls k.toNat st 4) st).y st.y∧∀k∈l,∀f:Nat,1≤f→f≤4→Good (fixX (leg ls k) (f:Int))→sle (l.foldl (fun st k=>fixTo ls k.toNat st 4) st).y (ls.set k.toNat (fixX (leg ls k) (f:Int)))
 |[],st,o,d,_=>⟨d,sle_refl _,fun k hk=>by cases hk⟩
 |k::l,st,o,d,hr=>by
  have hk:=hr k (by simp);obtain⟨d1,d2,d3⟩:=fix_down h o d k.toNat (by omega) 4 (by omega);have o1:=o.fixS h.good k.toNat (by omega) 4 (by omega);obtain⟨e1,e2,e3⟩:=fold_down h l _ o1 d1 (fun i hi=>hr i (by simp[hi]));have o2:=BOk.fold h.good l _ o1 (fun i hi=>hr i (by simp[hi]));refine⟨e1,sle_trans (o2.fit h) (o1.fit h) (o.fit h) e2 d2,fun i hi f h1 h2 hx=>?_⟩;have hir:=hr i hi;rcases List.mem_cons.mp hi with c|c
  ·subst c;have ei:((i.toNat:Nat):Int)=i:=Int.toNat_of_nonneg hir.1;have:=d3 f h1 h2 (by rw[ei];exact hx);rw[ei]at this;exact sle_trans (o2.fit h) (o1.fit h) (set_fit h _ hx) e2 this
  · exact e3 i c f h1 h2 hx
theorem best_down{ls:L}(h:Fit ls):Down ls (bestB ls)∧∀k∈usedL ls,∀f:Nat,1≤f→f≤4→Good (fixX (leg ls k) (f:Int))→sle (bestB ls).y (ls.set k.toNat (fixX (leg ls k) (f:Int))):=by
 have hf:=fold_down h (usedL ls) ⟨0,0,ls⟩ (BOk.start h.good) ⟨sle_refl _,fun _=>rfl,fun e=>absurd rfl e⟩ (usedL_range ls);exact⟨hf.1,hf.2.2⟩
def undoF(fix:Int):Int:=if fix=3 then 4 else if fix=4 then 3 else fix
theorem fix_undo{x:S82}(hx:Good x){fix:Int}(h1:1≤fix)(h4:fix≤4):fixX (fixX x fix) (undoF fix)=x:=by
 obtain⟨a,b,c,d,e,f⟩:=hx;obtain⟨f0,f1,f2,f3,f4⟩:=x;simp only at a b c d e f;have hc:fix=1∨fix=2∨fix=3∨fix=4:=by omega
 unfold undoF fixX;rcases hc with rfl|rfl|rfl|rfl
 ·simp only[show¬(1:Int)=3 by decide,show¬(1:Int)=4 by decide,if_false,if_true];have e1:Int.tmod (wrap64 (f3+180)) 360=(f3+180) % 360:=by rw[w64 (by omega) (by omega)];exact Int.tmod_eq_emod_of_nonneg (by omega)
  rw[e1];have e2:Int.tmod (wrap64 ((f3+180) % 360+180)) 360=((f3+180) % 360+180) % 360:=by rw[w64 (by omega) (by omega)];exact Int.tmod_eq_emod_of_nonneg (by omega)
  rw[e2]
  congr 1
  omega
 ·simp only[show¬(2:Int)=3 by decide,show¬(2:Int)=4 by decide,show¬(2:Int)=1 by decide,if_false,if_true];rw[w64 (x:= -f4) (by omega) (by omega),w64 (by omega) (by omega)]
  congr 1
  omega
 ·simp only[show¬(3:Int)=1 by decide,show¬(3:Int)=2 by decide,show¬(4:Int)=1 by decide,show¬(4:Int)=2 by decide,show¬(4:Int)=3 by decide,if_false,if_true];rw[w64 (x:=f2+100) (by omega) (by omega),w64 (by omega) (by omega)]
  congr 1
  omega
 ·simp only[show¬(3:Int)=1 by decide,show¬(3:Int)=2 by decide,show¬(4:Int)=1 by decide,show¬(4:Int)=2 by decide,show¬(4:Int)=3 by decide,if_false,if_true];rw[w64 (x:=f2-100) (by omega) (by omega),w64 (by omega) (by omega)]
  congr 1
  omega
theorem clean_down:∀(d:Nat) (y:L) (n:Int),Fit y→Fit (cleanR d y n).1∧(n≤(cleanR d y n).2∧(cleanR d y n).2≤n+d)∧((cleanR d y n).2=n→(cleanR d y n).1=y)∧((cleanR d y n).2≠n→slt (cleanR d y n).1 y)
 |0,y,n,h=>⟨h,⟨Int.le_refl _,(by show n≤n+_;omega)⟩,fun _=>rfl,fun e=>absurd rfl e⟩
 | d+1,y,n,h=>by
  have hb:=(best_down h).1;have ho:=(BOk.best h.good).fit h;unfold cleanR;by_cases c:(bestB y).h=0
  ·rw[if_pos c];exact⟨h,⟨Int.le_refl _,qz50⟩,fun _=>rfl,fun e=>absurd rfl e⟩
  ·rw[if_neg c];obtain⟨h1,h2,h3,h4⟩:=clean_down d (bestB y).y (n+1) ho;refine⟨h1,by omega,fun e=>by omega,fun e=>?_⟩;by_cases q:(cleanR d (bestB y).y (n+1)).2=n+1
   · rw[h3 q];exact hb.lt c
   · exact slt_trans h1 ho h (h4 q) (slt_sle (hb.lt c))
theorem leg_set(l:L)(m:Nat)(hm:m<l.length)(x:S82):leg (l.set m x) (m:Int)=x:=by
 rw[leg_get _ m (by rw[List.length_set];exact hm),List.getElem_set_self]
theorem ends_set(l:L)(m:Nat)(x:S82)(h0:x.f0=(leg l (m:Int)).f0)(h1:x.f1=(leg l (m:Int)).f1):ends (l.set m x)=ends l:=by
 funext i
 unfold ends
 have e:(leg (l.set m x) i).f0=(leg l i).f0∧(leg (l.set m x) i).f1=(leg l i).f1:=by
  have hl:∀(y:L) (i:Int),leg y i=(y.getD i.toNat (leg ([]:L) 0)):=fun y i=>by unfold leg rd_T82;rfl
  rw[hl,hl l];rw[hl,Int.toNat_natCast]at h0 h1;rw[List.getD_eq_getElem?_getD,List.getD_eq_getElem?_getD,List.getElem?_set];rw[List.getD_eq_getElem?_getD]at h0 h1;by_cases c:m=i.toNat
  ·rw[if_pos c];rw[c]at h0 h1;by_cases c2:m<l.length
   ·rw[if_pos (by omega)];exact⟨h0,h1⟩
   ·rw[if_neg (by omega),List.getElem?_eq_none (by omega)];exact⟨rfl,rfl⟩
  ·rw[if_neg c];exact⟨rfl,rfl⟩
 rw[e.1,e.2]
theorem fixX_ends(x:S82)(fix:Int):(fixX x fix).f0=x.f0∧(fixX x fix).f1=x.f1:=by
 unfold fixX;split
 · exact⟨rfl,rfl⟩
 ·split
  · exact⟨rfl,rfl⟩
  · split<;>exact⟨rfl,rfl⟩
theorem RR_set(l:L)(m:Nat)(fix:Int):RR (l.set m (fixX (leg l (m:Int)) fix))=RR l:=by
 have h:=fixX_ends (leg l (m:Int)) fix;unfold RR;rw[ends_set l m _ h.1 h.2,List.length_set]
theorem fixM_pos{l:L}{m:Nat}{fix:Int}(h:legsB l=true∧(0≤(m:Int)∧(m:Int)<(l.length:Int))∧(leg l (m:Int)).f0∈plL (RR l)∧(1≤fix∧fix≤4)∧Good (fixX (leg l (m:Int)) fix)):fixM l (m:Int) fix=(l.set m (fixX (leg l (m:Int)) fix),true):=by
 unfold fixM;rw[if_pos h,Int.toNat_natCast]
theorem undo_range{fix:Int}(h1:1≤fix)(h4:fix≤4):1≤undoF fix∧undoF fix≤4:=by
 unfold undoF;split
 · omega
 · split<;>omega
theorem fix_back{l:L}{m:Nat}{fix:Int}(h:legsB l=true∧(0≤(m:Int)∧(m:Int)<(l.length:Int))∧(leg l (m:Int)).f0∈plL (RR l)∧(1≤fix∧fix≤4)∧Good (fixX (leg l (m:Int)) fix)):fixM (l.set m (fixX (leg l (m:Int)) fix)) (m:Int) (undoF fix)=(l,true):=by
 obtain⟨hv,hr,hp,hf,hx⟩:=h;have hm:m<l.length:=by omega
 have hg:=(legsB_iff.mp hv).1;have hgm:=leg_good hg m hm;have hu:=fix_undo hgm hf.1 hf.2;have hl:=leg_set l m hm (fixX (leg l (m:Int)) fix);have he:=fixX_ends (leg l (m:Int)) fix;rw[fixM_pos (l:=l.set m (fixX (leg l (m:Int)) fix)) ⟨(by rw[legsB_set hv m hm];exact decide_eq_true hx),(by rw[List.length_set];exact hr),(by rw[hl,RR_set,he.1];exact hp),undo_range hf.1 hf.2,(by rw[hl,hu];exact hgm)⟩];rw[hl,hu,List.set_set,leg_get l m hm,List.set_getElem_self]
theorem fixTo_mem{ls:L}(k:Nat)(st:BS):∀m:Nat,((fixTo ls k st m).h≠0→(fixTo ls k st m).b=(k:Int)∨(fixTo ls k st m).b=st.b∧st.h≠0)
 |0=>fun h=>Or.inr ⟨rfl,h⟩
 |m+1=>by
  have ih:=fixTo_mem (ls:=ls) k st m;show((stepB ls k (fixTo ls k st m) ((m:Int)+1)).h≠0→_);have e:fixTo ls k st (m+1)=stepB ls k (fixTo ls k st m) ((m:Int)+1):=rfl;rw[e];unfold stepB;split
  · exact fun _=>Or.inl rfl
  · exact ih
theorem fold_mem{ls:L}:∀(l:List Int) (st:BS),(∀i∈l,0≤i)→(l.foldl (fun st k=>fixTo ls k.toNat st 4) st).h≠0→(l.foldl (fun st k=>fixTo ls k.toNat st 4) st).b∈l∨(l.foldl (fun st k=>fixTo ls k.toNat st 4) st).b=st.b∧st.h≠0
 |[],st,_,h=>Or.inr ⟨rfl,h⟩
 | k::l,st,hr,h=>by
  have hk:=hr k List.mem_cons_self;have e:(k::l).foldl (fun st k=>fixTo ls k.toNat st 4) st=l.foldl (fun st k=>fixTo ls k.toNat st 4) (fixTo ls k.toNat st 4):=rfl;rw[e]at h ⊢;rcases fold_mem l _ (fun i hi=>hr i (List.mem_cons_of_mem _ hi)) h with q|⟨q,q2⟩
  · exact Or.inl (List.mem_cons_of_mem _ q)
  ·rw[q];rcases fixTo_mem (ls:=ls) k.toNat st 4 q2 with p|p
   · exact Or.inl (by rw[p,Int.toNat_of_nonneg hk];exact List.mem_cons_self)
   · exact Or.inr p
theorem best_mem{ls:L}(h:(bestB ls).h≠0):(bestB ls).b∈usedL ls:=by
 rcases fold_mem (usedL ls) ⟨0,0,ls⟩ (fun i hi=>(usedL_range ls i hi).1) h with q|⟨_,q⟩
 · exact q
 · exact absurd rfl q
theorem best_fix{ls:L}(hf:Fit ls)(h:(bestB ls).h≠0):fixM ls (bestB ls).b (bestB ls).h=((bestB ls).y,true):=by
 have ho:=BOk.best hf.good;have hm:=best_mem h;rcases ho.what with q|⟨k,e1,e2,e3,e4,e5⟩
 · exact absurd q.1 h
 ·rw[e1]at hm;have hp:=(used_ends hf.good hm).1;rw[e1,e5];exact fixM_pos ⟨legsB_iff.mpr ⟨hf.good,hf.len⟩,⟨by omega,by omega⟩,(mem_plL _ _).mpr hp,e3,e4⟩
end Net
namespace Net
open Go.RowKit YtmgkbhhnchnkcaaGreatDoorW.PrintWords YtmgkbhhnchnkcaaGreatDoorW.PrintLast YtmgkbhhnchnkcaaGreatDoorW.PrintMore A Plain
theorem specFix_ev(ls:L)(i fix:Int)(hb:ls.length≤2000000):Ev (fun k=>spec_FixLeg.f k ls i fix) (fixM ls i fix):=by
 unfold spec_FixLeg.f;refine Ev.bind (can_ev ls i fix hb) ?_;unfold fixM;split
 ·rename_i h
  obtain⟨k,rfl⟩:=Int.eq_ofNat_of_zero_le h.2.1.1;rw[Int.toNat_natCast];exact Ev.pos rfl (Ev.bindc (fix_eq ls k fix (by omega) hb) (Ev.now _))
 · exact Ev.neg (by decide) (Ev.now _)
end Net
namespace SpStrainAfter
open Go.RowKit YtmgkbhhnchnkcaaGreatDoorW.PrintWords Plain A
theorem strainAfter_ev(ls:Net.L)(i fix:Int)(hb:ls.length≤2000000):Ev (fun k=>spec_StrainAfter.f k ls i fix) (afterM ls i fix):=by
 refine Ev.bind (Net.can_ev ls i fix hb) ?_;unfold afterM;by_cases hf:(Net.fixM ls i fix).2=true
 ·rw[if_pos hf];have hok:=fixM_ok hf;have hv:Net.legsB (Net.fixM ls i fix).1=true:=Net.legsB_iff.mpr hok
  have he:spec_l10Fix.f ls i fix=some (Net.fixM ls i fix).1:=by
   unfold Net.fixM at hf ⊢;split at hf
   ·rename_i c
    rw[if_pos c];obtain⟨k,rfl⟩:=Int.eq_ofNat_of_zero_le c.2.1.1;rw[Int.toNat_natCast];exact Net.fix_eq ls k fix (by omega) hb
   · cases hf
  exact Ev.pos hf (Ev.bindc he (Ev.bind (Net.strain_ev hv) (Ev.now _)))
 ·rw[if_neg hf];exact Ev.neg hf (Ev.now _)
end SpStrainAfter
namespace Net
open Go.RowKit YtmgkbhhnchnkcaaGreatDoorW.PrintWords Plain A Frac
theorem mem_used{ls:L}(hg:∀x∈ls,Good x)(i:Nat):((i:Int)∈usedL ls)↔i<ls.length∧(leg ls i).f0∈plL (RR ls):=by
 rw[show usedL ls=plcL ls (RR ls) ls.length from rfl,mem_plcL hg];exact⟨fun h=>⟨by omega,h.2⟩,fun h=>⟨⟨by omega,by omega⟩,h.2⟩⟩
def stS(ls:L)(i:Nat)(st:BS)(m:Nat):BS:=if(i:Int)∈usedL ls then fixTo ls i st m else st
theorem best_inner{ls:L}(hv:legsB ls=true)(i:Nat)(hi:i<ls.length)(st:BS)(hok:BOk ls st):∀(d m:Nat),m+d=4→∀v,Ev (fun k=>spec_l10Best.l0 k ls (sNum (stS ls i st 4).y) (sDen (stS ls i st 4).y) (stS ls i st 4).b (stS ls i st 4).h ((i+1:Nat):Int)) v →
  Ev (fun k=>spec_l10Best.l1 k ls (sNum (stS ls i st m).y) (sDen (stS ls i st m).y) (stS ls i st m).b (stS ls i st m).h (i:Int) ((m+1:Nat):Int)) v:=by
 have h':=legsB_iff.mp hv;intro d
 induction d with
 |zero=>
  intro m hm v hv2;obtain rfl:m=4:=by omega
  refine Ev.step (fun k=>?_) hv2
  conv=>lhs;unfold spec_l10Best.l1
  rw[if_neg (by decide),w64 (x:=(i:Int)+1) (by omega) (by omega)];rfl
 | succ d ih=>
  intro m hm v hv2;have hrec:=ih (m+1) (by omega) v hv2;have hw:wrap64 (((m+1:Nat):Int)+1)=((m+1+1:Nat):Int):=by rw[w64 (by omega) (by omega)];omega
  have hcan:=can_ev ls (i:Int) ((m+1:Nat):Int) (by omega)
  have hstep:∀k,spec_l10Best.l1 (k+1) ls (sNum (stS ls i st m).y) (sDen (stS ls i st m).y) (stS ls i st m).b (stS ls i st m).h (i:Int) ((m+1:Nat):Int)=(spec_l10Can.f k ls (i:Int) ((m+1:Nat):Int)).bind fun t492=>(if t492=true then((spec_l10Fix.f ls (i:Int) ((m+1:Nat):Int)).bind fun t493=>((spec_l10Strain.f k t493).bind fun bt496=>((spec_l10Compare.f k bt496.1 bt496.2 (sNum (stS ls i st m).y) (sDen (stS ls i st m).y)).bind fun t498=>(if t498<0 then(spec_l10Best.l1 k ls bt496.1 bt496.2 (i:Int) ((m+1:Nat):Int) (i:Int) ((m+1+1:Nat):Int)) else(spec_l10Best.l1 k ls (sNum (stS ls i st m).y) (sDen (stS ls i st m).y) (stS ls i st m).b (stS ls i st m).h (i:Int) ((m+1+1:Nat):Int)))))) else(spec_l10Best.l1 k ls (sNum (stS ls i st m).y) (sDen (stS ls i st m).y) (stS ls i st m).b (stS ls i st m).h (i:Int) ((m+1+1:Nat):Int))):=fun k=>by
   conv=>lhs;unfold spec_l10Best.l1
   rw[if_pos (by omega),hw]
  refine Ev.step (fun k=>hstep k) ?_;by_cases hp:(i:Int)∈usedL ls
  ·have hp2:=(mem_used h'.1 i).mp hp;have e0:stS ls i st m=fixTo ls i st m:=by unfold stS;rw[if_pos hp]
   have e1:stS ls i st (m+1)=stepB ls i (fixTo ls i st m) ((m+1:Nat):Int):=by unfold stS;rw[if_pos hp];rfl
   have ok:=hok.fixS h'.1 i hi m (by omega);rw[e1]at hrec;rw[e0];generalize fixTo ls i st m=sm at *;by_cases hgd:Good (fixX (leg ls i) ((m+1:Nat):Int))
   ·have hf:(fixM ls (i:Int) ((m+1:Nat):Int)).2=true:=by unfold fixM;rw[if_pos ⟨hv,⟨by omega,by omega⟩,hp2.2,⟨by omega,by omega⟩,hgd⟩]
    have hnv:legsB (ls.set i (fixX (leg ls i) ((m+1:Nat):Int)))=true:=by rw[legsB_set hv i hi];exact decide_eq_true hgd
    have hn2:=legsB_iff.mp hnv;rw[hf]at hcan;unfold stepB at hrec;refine Ev.bind hcan (Ev.pos rfl (Ev.bindc (fix_eq ls i _ hi (by omega)) (Ev.bind (strain_ev hnv) (Ev.bind (cmpS_ev hn2.1 hn2.2 ok.good (by rw[ok.len];exact h'.2)) ?_))));rcases sCmp_cases (ls.set i (fixX (leg ls i) ((m+1:Nat):Int))) sm.y with c|c
    ·rw[if_pos ⟨hgd,c.1⟩]at hrec;exact Ev.pos c.2 hrec
    ·rw[if_neg (fun e=>c.1 e.2)]at hrec;exact Ev.neg c.2 hrec
   ·have hf:(fixM ls (i:Int) ((m+1:Nat):Int)).2=false:=by unfold fixM;rw[if_neg (fun e=>hgd e.2.2.2.2)]
    rw[hf]at hcan;unfold stepB at hrec;rw[if_neg (fun e=>hgd e.1)]at hrec;exact Ev.bind hcan (Ev.neg (by decide) hrec)
  ·have e0:∀q,stS ls i st q=st:=fun q=>by unfold stS;rw[if_neg hp]
   rw[e0]at hrec ⊢
   have hf:(fixM ls (i:Int) ((m+1:Nat):Int)).2=false:=by
    unfold fixM;rw[if_neg (fun e=>hp ((mem_used h'.1 i).mpr ⟨hi,e.2.2.1⟩))]
   rw[hf]at hcan;exact Ev.bind hcan (Ev.neg (by decide) hrec)
def bestG(ls:L)(j:Nat):BS:=bestL ls (plcL ls (RR ls) j)
theorem bestG_step{ls:L}(hg:∀x∈ls,Good x)(i:Nat)(hi:i<ls.length):bestG ls (i+1)=stS ls i (bestG ls i) 4:=by
 have hm:((i:Int)∈usedL ls)↔Pq (RR ls) (leg ls i).f0.toNat=true:=by
  rw[show usedL ls=selTo (fun k=>Pq (RR ls) (leg ls k).f0.toNat) ls.length from rfl,mem_selTo];refine⟨fun⟨k,h1,h2,h3⟩=>?_,fun h=>⟨i,rfl,hi,h⟩⟩;obtain rfl:i=k:=by omega
  exact h3
 unfold bestG stS;by_cases c:Pq (RR ls) (leg ls i).f0.toNat=true
 · rw[if_pos (hm.mpr c),show plcL ls (RR ls) (i+1)=plcL ls (RR ls) i++[(i:Int)]from by unfold plcL;simp[selTo,c],bestL_snoc,Int.toNat_natCast]
 · rw[if_neg (fun e=>c (hm.mp e)),show plcL ls (RR ls) (i+1)=plcL ls (RR ls) i from by unfold plcL;simp[selTo,c]]
theorem bestG_ok{ls:L}(hg:∀x∈ls,Good x)(j:Nat)(hj:j≤ls.length):BOk ls (bestG ls j):=BOk.list hg _ (fun i hi=>by
 obtain⟨k,rfl,hk,_⟩:=(mem_selTo _ _ _).mp hi
 omega)
theorem best_outer{ls:L}(hv:legsB ls=true):∀(d j:Nat),j+d=ls.length→Ev (fun k=>spec_l10Best.l0 k ls (sNum (bestG ls j).y) (sDen (bestG ls j).y) (bestG ls j).b (bestG ls j).h (j:Int)) ((bestB ls).b,(bestB ls).h):=by
 have h':=legsB_iff.mp hv;intro d
 induction d with
 |zero=>
  intro j hj;obtain rfl:j=ls.length:=by omega
  refine Ev.step (f:=fun _=>some ((bestB ls).b,(bestB ls).h)) (fun k=>?_) (Ev.now _)
  conv=>lhs;unfold spec_l10Best.l0
  rw[if_neg (by omega)];rfl
 |succ d ih=>
  intro j hj;have h:=ih (j+1) (by omega);have hin:=best_inner hv j (by omega) (bestG ls j) (bestG_ok h'.1 j (by omega)) 4 0 (by omega);rw[bestG_step h'.1 j (by omega)]at h;have e0:stS ls j (bestG ls j) 0=bestG ls j:=by unfold stS;split<;>rfl
  have hq:=hin _ h;rw[e0]at hq;refine Ev.step (fun k=>?_) hq
  conv=>lhs;unfold spec_l10Best.l0
  rw[if_pos (by omega)];rfl
theorem best_ev{ls:L}(hv:legsB ls=true):Ev (fun k=>spec_l10Best.f k ls) ((bestB ls).b,(bestB ls).h):=by
 refine Ev.bind (strain_ev hv) ?_;exact best_outer hv ls.length 0 (by omega)
end Net
namespace SpBestFix
open Go.RowKit YtmgkbhhnchnkcaaGreatDoorW.PrintWords Plain A
theorem bestFix_ev(ls:Net.L)(hb:ls.length≤140737488351232):Ev (fun k=>spec_BestFix.f k ls) (bstM ls):=by
 refine Ev.bind (Net.l4Legs_ev ls hb) ?_;unfold bstM;by_cases hv:Net.legsB ls=true
 ·rw[if_pos hv];have hok:=Net.BOk.best (Net.legsB_iff.mp hv).1
  have e:decide ((Net.bestB ls).h>0)=((Net.bestB ls).h !=0):=by
   rcases hok.what with h|⟨_,_,_,h,_⟩
   · rw[h.1];rfl
   · rw[decide_eq_true (by omega),bne_iff_ne.mpr (by omega)]
  rw[←e];exact Ev.pos hv (Ev.bind (Net.best_ev hv) (Ev.now _))
 ·rw[if_neg hv];exact Ev.neg hv (Ev.now _)
end SpBestFix
namespace SpCleanLegs
open Go.RowKit YtmgkbhhnchnkcaaGreatDoorW.PrintWords Plain A
theorem clean_loop:∀(d j:Nat),j+d=3→∀(y:Net.L),Net.legsB y=true→Ev (fun k=>spec_CleanLegs.l0 k y (j:Int)) ((Net.cleanR d y (j:Int)).1,(Net.cleanR d y (j:Int)).2,true)
 |0,j,hj,y,_=>by
  refine Ev.step (f:=fun _=>some (y,(j:Int),true)) (fun k=>?_) (Ev.now _)
  conv=>lhs;unfold spec_CleanLegs.l0
  rw[if_neg (by omega)]
 | d +1,j,hj,y,hv=>by
  have h':=Net.legsB_iff.mp hv;have hok:=Net.BOk.best h'.1;have hw:wrap64 ((j:Int)+1)=((j+1:Nat):Int):=by unfold wrap64;omega
  refine Ev.step (f:=fun k=>(spec_l10Best.f k y).bind fun bt559=>(if bt559.2=0 then(some (y,(j:Int),true)) else((spec_l10Fix.f y bt559.1 bt559.2).bind fun t561=>(spec_CleanLegs.l0 k t561 ((j+1:Nat):Int))))) (fun k=>?_) ?_
  ·conv=>lhs;unfold spec_CleanLegs.l0
   rw[if_pos (by omega),hw]
  ·refine Ev.bind (Net.best_ev hv) ?_;unfold Net.cleanR;by_cases hz:(Net.bestB y).h=0
   ·rw[if_pos hz];exact Ev.pos hz (Ev.now _)
   ·rw[if_neg hz];rcases hok.what with q|⟨k,q1,q2,q3,q4,q5⟩
    · exact absurd q.1 hz
    ·have hf:spec_l10Fix.f y (Net.bestB y).b (Net.bestB y).h=some (Net.bestB y).y:=by
      rw[q1,Net.fix_eq y k _ q2 (by have:=h'.2;omega),←q5]
     have hvy:Net.legsB (Net.bestB y).y=true:=Net.legsB_iff.mpr ⟨hok.good,(by rw[hok.len];exact h'.2)⟩;have hrec:=clean_loop d (j+1) (by omega) _ hvy;rw[show((j+1:Nat):Int)=(j:Int)+1 by omega]at hrec;refine Ev.neg hz (Ev.bindc hf ?_);rw[show((j+1:Nat):Int)=(j:Int)+1 by omega];exact hrec
theorem cleanLegs_ev(ls:Net.L)(hb:ls.length≤140737488351232):Ev (fun k=>spec_CleanLegs.f k ls) (clnM ls):=by
 refine Ev.bind (Net.l4Legs_ev ls hb) ?_;unfold clnM;by_cases hv:Net.legsB ls=true
 ·rw[if_pos hv];have h':=Net.legsB_iff.mp hv;refine Ev.pos hv (Ev.bindc rfl (Ev.pos (by simp only[List.length_nil];have:=h'.2;omega) ?_));rw[List.nil_append];exact clean_loop 3 0 rfl ls hv
 ·rw[if_neg hv];exact Ev.neg hv (Ev.now _)
end SpCleanLegs
namespace Net
open Go.RowKit YtmgkbhhnchnkcaaGreatDoorW.PrintWords Plain A Draw
theorem iCmp_ev(x y:L)(hx:x.length≤140737488351232)(hy:y.length≤140737488351232):Ev (fun _=>impl_CompareStrains.f x y) (cmpM x y):=Ev.some fun _=>by unfold impl_CompareStrains.f;rw[if_pos ⟨hx,hy⟩]
theorem iStrain_ev(l:L)(hb:l.length≤140737488351232):Ev (fun _=>impl_StrainOf.f l) (strM l):=Ev.some fun _=>by unfold impl_StrainOf.f;rw[if_pos hb]
theorem iFix_ev(l:L)(hb:l.length≤140737488351232)(i fix:Int):Ev (fun _=>impl_FixLeg.f l i fix) (fixM l i fix):=Ev.some fun _=>by unfold impl_FixLeg.f;rw[if_pos hb]
theorem iAfter_ev(l:L)(hb:l.length≤140737488351232)(i fix:Int):Ev (fun _=>impl_StrainAfter.f l i fix) (afterM l i fix):=Ev.some fun _=>by unfold impl_StrainAfter.f;rw[if_pos hb]
theorem iBest_ev(l:L)(hb:l.length≤140737488351232):Ev (fun _=>impl_BestFix.f l) (bstM l):=Ev.some fun _=>by unfold impl_BestFix.f;rw[if_pos hb]
theorem iClean_ev(l:L)(hb:l.length≤140737488351232):Ev (fun _=>impl_CleanLegs.f l) (clnM l):=Ev.some fun _=>by unfold impl_CleanLegs.f;rw[if_pos hb]
theorem Fit.legs{l:L}(h:Fit l):legsB l=true:=legsB_iff.mpr ⟨h.good,h.len⟩
theorem Fit.of{l:L}(h:legsB l=true):Fit l:=⟨(legsB_iff.mp h).2,(legsB_iff.mp h).1⟩
theorem cmpM_fit{x y:L}(hx:Fit x)(hy:Fit y):cmpM x y=(sCmp x y,true):=by unfold cmpM;rw[if_pos ⟨hx.legs,hy.legs⟩]
theorem strM_fit{x:L}(hx:Fit x):strM x=(sNum x,sDen x,true):=by unfold strM;rw[if_pos hx.legs]
theorem vLegs_loop(l:L)(hb:l.length≤1000000):∀(d i:Nat),i+d=l.length→Ev (fun k=>laws_vLegs.l0 k l l (i:Int)) true:=by
 intro d
 induction d with
 |zero=>
  intro i hi;refine Ev.step (f:=fun _=>some true) (fun k=>?_) (Ev.now _);simp only[laws_vLegs.l0];rw[if_neg (by omega)]
 |succ d ih=>
  intro i hi;have hp:(i:Int)<(l.length:Int):=by omega
  have h0:(0:Int)≤(i:Int):=by omega
  have hgo:=ih (i+1) (by omega);have ew:wrap64 ((i:Int)+1)=((i+1:Nat):Int):=by rw[w64 (by omega) (by omega)];omega
  refine Ev.step (fun k=>?_) hgo;simp only[laws_vLegs.l0];rw[if_pos hp,if_pos h0,if_pos hp,ew];simp only[beq_self_eq_true,Bool.not_true,Bool.or_self,Bool.false_eq_true,if_false]
theorem vLegs_ev(l:L)(hb:l.length≤1000000):Ev (fun k=>laws_vLegs.f k l l) true:=by
 unfold laws_vLegs.f;exact Ev.pos rfl (vLegs_loop l hb l.length 0 (Nat.zero_add _))
theorem clean_cmp{l:L}(h:Fit l):let r:=cleanR 3 l 0;Fit r.1∧((r.2==0)==(sCmp r.1 l==0))=true∧sCmp r.1 l≤0∧r.2≤3∧r.1.length≤12:=by
 intro r;obtain⟨h1,h2,h3,h4⟩:=clean_down 3 l 0 h;have hr:r=cleanR 3 l 0:=rfl;rw[←hr]at h1 h2 h3 h4;have h12:=h1.len;by_cases c:r.2=0
 ·have e:=h3 c;have hlt:¬sCmp l l= -1:=fun q=>by have:=(sCmp_lt h h).mp q;unfold slt at this;omega
  have hgt:¬0<sCmp l l:=fun q=>by have:=(sCmp_gt h h).mp q;unfold slt at this;omega
  have hz:sCmp l l=0:=by rcases sCmp_three l l with q|q|q<;>omega
  rw[e,c,hz];exact⟨h,rfl,by omega,by omega,h.len⟩
 ·have hs:=(sCmp_lt h1 h).mpr (h4 c);rw[hs];refine⟨h1,?_,by omega,by omega,h12⟩;rw[show(r.2==0)=false from beq_eq_false_iff_ne.mpr c];rfl
theorem j7_law(code:List Int)(hc:Bytes code)(hl:code.length≤65536):Ev (fun k=>laws_FnFixes.j7 k code) true:=by
 obtain⟨l,hD,hn⟩:=drawClean hc hl;have hn:l.length≤9:=hn;refine Ev.step (fun k=>by simp only[laws_FnFixes.j7];rfl) ?_;have i1:=iClean_ev l (by omega);have i2:=SpCleanLegs.cleanLegs_ev l (by omega);by_cases h:legsB l=true
 ·have hf:=Fit.of h;have hcl:=clean_cmp hf;simp only at hcl;have e:clnM l=((cleanR 3 l 0).1,(cleanR 3 l 0).2,true):=by unfold clnM;rw[if_pos h]
  rw[e]at i1 i2;generalize cleanR 3 l 0=r at *;obtain⟨y,n⟩:=r;simp only at hcl i1 i2;have i3:=iCmp_ev y l (by omega) (by omega);rw[cmpM_fit hcl.1 hf]at i3;refine Ev.bind hD (Ev.bind i1 (Ev.bind i2 (Ev.neg (by simp) (Ev.pos rfl (Ev.bind (vLegs_ev _ qz50) ?_)))));refine Ev.step (fun k=>by simp only[laws_FnFixes.j8,Bool.not_true,Bool.false_eq_true,if_false,if_true];rfl) ?_;refine Ev.bind i3 (Ev.pos rfl (Ev.pos hcl.2.1 (Ev.pos hcl.2.2.1 ?_)));simp only[decide_eq_true hcl.2.2.2.1];exact Ev.now _
 ·have e:clnM l=([],0,false):=by unfold clnM;rw[if_neg h]
  rw[e]at i1 i2;refine Ev.bind hD (Ev.bind i1 (Ev.bind i2 (Ev.neg (by simp) (Ev.pos rfl (Ev.bind (vLegs_ev _ (by simp)) ?_)))));exact Ev.step (f:=fun _=>some true) (fun k=>by simp only[laws_FnFixes.j8,Bool.not_true,Bool.false_eq_true,if_false]) (Ev.now _)
theorem j5_law(code:List Int)(hc:Bytes code)(hl:code.length≤65536)(l out:L)(hn:l.length≤9)(ok:Bool)(ho:ok=true→Fit out∧(legsB l=true→sle (bestB l).y out)):Ev (fun k=>laws_FnFixes.j5 k code l out ok (bstM l).1 (bstM l).2.1 (bstM l).2.2) true:=by
 have h7:=j7_law code hc hl;by_cases h:legsB l=true∧(bestB l).h≠0
 ·have hf:=Fit.of h.1;have hy:=(BOk.best hf.good).fit hf;have hd:=(best_down hf).1;have hbl:=hy.len
  have e:bstM l=((bestB l).b,(bestB l).h,true):=by
   unfold bstM;rw[if_pos h.1,show((bestB l).h !=0)=true from by rw[bne_iff_ne];exact h.2]
  rw[e];have i1:=iFix_ev l (by omega) (bestB l).b (bestB l).h;rw[best_fix hf h.2]at i1;have i2:=iCmp_ev (bestB l).y l (by omega) (by omega);rw[cmpM_fit hy hf,(sCmp_lt hy hf).mpr (hd.lt h.2)]at i2;refine Ev.step (fun k=>by simp only[laws_FnFixes.j5,if_true];rfl) ?_;refine Ev.bind i1 (Ev.bind i2 (Ev.pos rfl (Ev.pos rfl ?_)));simp only[show decide ((-1:Int)≥0)=false from rfl]
  cases ok with
  |false=>exact Ev.step (f:=fun k=>laws_FnFixes.j7 k code) (fun k=>by simp only[laws_FnFixes.j6,Bool.false_eq_true,if_false]) h7
  |true=>
   obtain⟨hfo,hle⟩:=ho rfl;have hol:=hfo.len;have i3:=iCmp_ev (bestB l).y out (by omega) (by omega);rw[cmpM_fit hy hfo]at i3;refine Ev.step (fun k=>by simp only[laws_FnFixes.j6,Bool.false_eq_true,if_false,if_true];rfl) ?_;refine Ev.bind i3 (Ev.pos rfl (Ev.neg ?_ h7));intro hgt;have:=(sCmp_gt hy hfo).mp hgt;have:=hle h.1;unfold slt at *;unfold sle at *;omega
 ·have e:(bstM l).2.2=false:=by
   unfold bstM;by_cases c:legsB l=true
   ·rw[if_pos c];have:(bestB l).h=0:=Classical.byContradiction fun q=>h ⟨c,q⟩
    simp only[this];rfl
   · rw[if_neg c]
  rw[e];exact Ev.step (f:=fun k=>laws_FnFixes.j7 k code) (fun k=>by simp only[laws_FnFixes.j5,Bool.false_eq_true,if_false]) h7
end Net
namespace Pure
open Go.RowKit YtmgkbhhnchnkcaaGreatDoorW.PrintWords Plain A Net Draw
theorem FnFixes(code:List Int)(hb:code.length*1≤140737488351232)(hw:∀x∈code,(Lit.int .u8 x).wf=true):∃k,laws_FnFixes.f k code=some true:=by
 refine Ev.rounds ?_;have hc:=Bytes.of_wf hw;refine Ev.bindc (show laws_vBig.f code=some (decide ((code.length:Int)>65536))from rfl) ?_;by_cases c:(code.length:Int)>65536
 · exact Ev.pos (decide_eq_true c) (Ev.now _)
 have hl:code.length≤65536:=by omega
 refine Ev.neg (by rw[decide_eq_false c];decide) ?_;obtain⟨⟨l,i,fix⟩,hD,hn⟩:=drawFix hc hl;have hn:l.length≤9:=hn;have i1:=iFix_ev l (by omega) i fix;have i2:=specFix_ev l i fix (by omega);have i3:=iAfter_ev l (by omega) i fix;have i4:=SpStrainAfter.strainAfter_ev l i fix (by omega);have i5:=iBest_ev l (by omega);have i6:=SpBestFix.bestFix_ev l (by omega)
 have hol:(fixM l i fix).1.length≤12:=by
  unfold fixM;split
  · simp only[List.length_set];omega
  · simp
 refine Ev.bind hD (Ev.bind i1 (Ev.bind i2 (Ev.neg (by simp) (Ev.bind (vLegs_ev _ (by omega)) ?_))));simp only[Bool.not_true];refine Ev.step (fun k=>by simp only[laws_FnFixes.j0,Bool.false_eq_true,if_false];rfl) ?_;refine Ev.bind i3 (Ev.bind i4 (Ev.pos rfl (Ev.pos rfl (Ev.neg (by simp) ?_))))
 have ha:((afterM l i fix).2.2 !=(fixM l i fix).2)=false:=by
  unfold afterM;cases(fixM l i fix).2<;>rfl
 rw[ha];refine Ev.step (fun k=>by simp only[laws_FnFixes.j1,Bool.false_eq_true,if_false];rfl) ?_;refine Ev.bind i5 (Ev.bind i6 (Ev.pos rfl (Ev.pos rfl ?_)));rw[bne_self_eq_false];by_cases h:legsB l=true∧(0≤i∧i<(l.length:Int))∧(leg l i).f0∈plL (RR l)∧(1≤fix∧fix≤4)∧Net.Good (fixX (leg l i) fix)
 ·obtain⟨m,rfl⟩:=Int.eq_ofNat_of_zero_le h.2.1.1;have hm:m<l.length:=by omega
  have hf:=Fit.of h.1;have e:=fixM_pos (m:=m) h;have hout:Fit (l.set m (fixX (leg l (m:Int)) fix)):=set_fit hf m h.2.2.2.2;have hlen:(l.set m (fixX (leg l (m:Int)) fix)).length≤12:=hout.len;have hu:=(used_iff hf.good m hm).mpr ((mem_plL _ _).mp h.2.2.1);have hbest:=(best_down hf).2 (m:Int) hu fix.toNat (by omega) (by omega) (by rw[Int.toNat_of_nonneg (by omega)];exact h.2.2.2.2);rw[Int.toNat_natCast,Int.toNat_of_nonneg (by omega:0≤fix)]at hbest
  have eaf:afterM l (m:Int) fix=(sNum (l.set m (fixX (leg l (m:Int)) fix)),sDen (l.set m (fixX (leg l (m:Int)) fix)),true):=by
   unfold afterM;rw[e,if_pos rfl]
  have hback:=fix_back (m:=m) h;rw[eaf,e];generalize hO:l.set m (fixX (leg l (m:Int)) fix)=out at *;have k1:=iFix_ev out (by omega) (m:Int) (undoF fix);rw[hback]at k1;have k2:=iStrain_ev out (by omega);rw[strM_fit hout]at k2;have k3:=iCmp_ev out l (by omega) (by omega);rw[cmpM_fit hout hf]at k3;have h5:=j5_law code hc hl l out hn true (fun _=>⟨hout,fun _=>hbest⟩)
  have h4:Ev (fun k=>laws_FnFixes.j4 k code l out true (bstM l).1 (bstM l).2.1 (bstM l).2.2 false) true:=by
   refine Ev.step (fun k=>by simp only[laws_FnFixes.j4,Bool.false_eq_true,if_false];rfl) ?_;refine Ev.bind k3 (Ev.pos rfl ?_);by_cases c1:sCmp out l<0
   ·refine Ev.pos c1 (Ev.pos ?_ h5)
    have hlt:slt out l:=by
     rcases sCmp_cases out l with q|q
     · exact(sCmp_lt hout hf).mp q.1
     · exact absurd c1 q.2
    unfold bstM;rw[if_pos h.1];simp only[bne_iff_ne];intro hz;have:=(best_down hf).1.zero hz;rw[this]at hbest;unfold slt at hlt;unfold sle at hbest;omega
   · exact Ev.neg c1 h5
  have h3:Ev (fun k=>laws_FnFixes.j3 k code l (m:Int) out true (sNum out) (sDen out) (bstM l).1 (bstM l).2.1 (bstM l).2.2 (undoF fix)) true:=by
   refine Ev.step (fun k=>by simp only[laws_FnFixes.j3];rfl) ?_;refine Ev.bind k1 (Ev.bind k2 (Ev.pos rfl (Ev.bind (vLegs_ev l (by omega)) (Ev.pos rfl (Ev.pos rfl (Ev.pos rfl ?_))))));simp only[bne_self_eq_false];exact h4
  refine Ev.step (fun k=>by simp only[laws_FnFixes.j2,Bool.false_eq_true,if_false,if_true];rfl) ?_;unfold undoF at h3;by_cases f3:fix=3
  ·rw[if_pos f3]at h3;exact Ev.pos f3 h3
  ·rw[if_neg f3]at h3;refine Ev.neg f3 ?_;by_cases f4:fix=4
   ·rw[if_pos f4]at h3;exact Ev.pos f4 h3
   ·rw[if_neg f4]at h3;exact Ev.neg f4 h3
 ·have e:fixM l i fix=([],false):=by unfold fixM;rw[if_neg h]
  rw[e];refine Ev.step (f:=fun k=>laws_FnFixes.j5 k code l [] false (bstM l).1 (bstM l).2.1 (bstM l).2.2) (fun k=>by simp only[laws_FnFixes.j2,Bool.false_eq_true,if_false]) ?_;exact j5_law code hc hl l [] hn false (fun h=>by cases h)
end Pure
namespace Opens
open Go.ChangeShapes Go.WideShapes Go.Deep Go.RowKit YtmgkbhhnchnkcaaGreatDoorW.PrintWords
theorem list_of{α:Type}{P:Nat→α→Prop}:∀(n:Nat),(∀i,i<n→∃x,P i x)→∃xs:List α,xs.length=n∧∀i x,xs[i]?=some x→P i x
 |0,_=>⟨[],rfl,fun i x h=>by simp at h⟩
 | n+1,h=>by
  obtain⟨xs,hl,hx⟩:=list_of n (fun i hi=>h i (Nat.lt_succ_of_lt hi));obtain⟨y,hy⟩:=h n (Nat.lt_succ_self n);refine⟨xs++[y],by simp[hl],fun i x hi=>?_⟩;by_cases hlt:i<xs.length
  ·rw[List.getElem?_append_left hlt]at hi;exact hx i x hi
  ·rw[List.getElem?_append_right (by omega)]at hi
   have h0:i-xs.length=0:=by
    have:=(List.getElem?_eq_some_iff.1 hi).1;simp at this;omega
   rw[h0]at hi;simp at hi;subst hi;have:i=n:=by omega
   subst this;exact hy
section
variable {H:Type} {enc:TypeId×Value→H} {P:Program} {w:World} {base:Nat} {spare:Nat→Bool} {held:Bool}
theorem open_row{α:Type}(d:Kd α){Q:α→Prop}{t e:TypeId}{a:Option Addr}{len cap:Nat}{dd:DataW H}{ps:List MemPlace}(ht:P.underlying t=some (.slice e))(hC:P.cellsOf e=d.sz)
  (hd:∀n cs y,DataW.trod enc P w base spare held n e cs=some y→∃x,d.K w x cs∧Q x)
  (h:DataW.Trod enc P w base spare held t (.slice a len cap) dd ps):∃xs:List α,xs.length=len∧len≤cap∧d.C w a len xs∧∀x∈xs,Q x:=by
 obtain⟨fuel,hf⟩:=h;rcases open_slice ht hf with⟨hcs,_⟩|⟨x,l,c,m,n,D,Pl,hcs,_,hl,hm,hmm,_,hi⟩
 ·simp[Value.cells]at hcs;obtain⟨rfl,rfl,rfl⟩:=hcs;exact⟨[],rfl,Nat.le_refl _,⟨rfl,by omega,fun h=>by omega⟩,fun x hx=>by simp at hx⟩
 ·simp[Value.cells]at hcs;obtain⟨rfl,rfl,rfl⟩:=hcs;have hle:len≤m:=by subst hmm;split<;>omega
  obtain⟨xs,hxl,hx⟩:=list_of (P:=fun i (z:α)=>Q z∧∃cs,d.K w z cs∧w.cells? base (x.add (i*d.sz)) d.sz=some cs) len (fun i hil=>by
   obtain⟨cs,h1,h2⟩:=hi i (by omega);rw[hC]at h1;obtain⟨z,h3,h4⟩:=hd _ _ _ h2
   exact⟨z,h4,cs,h3,h1⟩)
  refine⟨xs,hxl,hl,⟨hxl,(by unfold maxLen at hm;omega),fun _=>⟨x,rfl,fun j p hp=>?_⟩⟩,fun z hz=>?_⟩
  ·obtain⟨_,cs,h1,h2⟩:=hx j p hp;obtain⟨_,hlen,hat⟩:=World.cells?_some h2;refine⟨cs,hlen,h1,fun i u hu=>?_⟩;have hil:i<d.sz:=by have:=(List.getElem?_eq_some_iff.1 hu).1;omega
   rw[←Go.Deep.add_add,hat i hil,hu]
  ·obtain⟨j,hj⟩:=List.getElem?_of_mem hz;exact(hx j z hj).1
theorem sized_row{t e:TypeId}{a:Option Addr}{len cap:Nat}{d:DataW H}{ps:List MemPlace}{ts:List TypeId}{ds:List (DataW H)}{j:Nat}
  (hsz:(DataW.weightsEach P ts ds).all (· ≤reachBytes)=true) (ht:ts[j]?=some t) (hd:ds[j]?=some d) (hu:P.underlying t=some (.slice e)) {B:Nat} (hB:P.bytesOf e=B)
  (h:DataW.Trod enc P w base spare held t (.slice a len cap) d ps):len*B≤140737488351232:=by
 obtain⟨fuel,hf⟩:=h;rcases open_slice hu hf with⟨hcs,_⟩|⟨x,l,c,m,n,D,Pl,hcs,_,hl,hm,hmm,hx,hi⟩
 ·simp[Value.cells]at hcs;obtain⟨rfl,rfl,rfl⟩:=hcs;simp
 ·simp[Value.cells]at hcs;obtain⟨rfl,rfl,rfl⟩:=hcs;obtain⟨hx,_⟩:=Prod.mk.inj hx;subst hx;have z:=sized_slice hsz ht hd hu;rw[hB]at z;simp only[List.length_map,List.length_range]at z;have hle:len≤m:=by subst hmm;split<;>omega
  rw[show len+(m-len)=m by omega]at z;exact Nat.le_trans (Nat.mul_le_mul_right _ hle) z
end
end Opens
namespace fnFixes
open Go.ChangeShapes Go.WideShapes Go.ChangeAt Go.RowKit
open Go.ChangeMaps (open_string shut_string)
open A YtmgkbhhnchnkcaaGreatDoorW.PrintWords Opens
theorem own:ownKnob Tryz.prog.godebug=none:=by kernel_rfl
theorem laidOut:laidOutB Tryz.prog=true:=by kernel_rfl
set_option maxRecDepth 100000 in
theorem lifted(os:Os)(started:os.Started)(H:Type)(enc:TypeId×Value→H):
  ReturnsInHanded {} Tryz.checked os 4 .any (fun w args=>(Rows.fnFixesSpec.pre enc Tryz.prog Tryz.f4 [] false w args∧laidMetH Tryz.prog LaidT.list w)∧sizedMet enc Tryz.prog Tryz.f4 (OpenSpec.ofChange Rows.fnFixesSpec) false w args) (Rows.fnFixesSpec.post enc Tryz.prog Tryz.f4 false true false false):=by
 refine returnsInHanded_of_change_and (C:=Tryz.checked) (X:=fun w _=>laidMetH Tryz.prog LaidT.list w) (fun _ _ _ hh h=>h.of_heap hh) own started qz33 Tryz.func4
  (ChangeSpec.witness_shaped (enc:=enc) (C:=Tryz.checked) (os:=os) (X:=fun w _=>laidMetH Tryz.prog LaidT.list w) false (World.doorLaid Tryz.prog 400 os) #[.slice none 0 0] 8 rfl (World.shaped_of_RefB qz33 qz33) qz33 qz33 qz33 (LaidT.door_met os _)) ?_
 intro W base args ds gs before hval0 hW hcnd hsz0 hL _;have hsz:(DataW.weightsEach Tryz.prog (Tryz.f4.params.toList++Rows.fnFixesSpec.plain.varTypes Tryz.prog) (ds++gs)).all (· ≤reachBytes)=true:=hsz0;have hval:∀(j:Nat) t v,Tryz.f4.params[j]?=some t→args[j]?=some v→Value.okWide Tryz.prog W .any base t v:=hval0
 have hW':=hW;obtain⟨p,q,hA0,hV,rfl,hfz,hnd⟩:=hW;have hA:DataW.TrodAll enc Tryz.prog W 0 (fun _=>true) true Tryz.f4.params.toList args.toList ds p:=hA0;rw[Tryz.params4]at hA hval hsz;obtain⟨v0,vs0,d0,ds0,p0,q0,hargs,rfl,rfl,h0,r0⟩:=trodAll_cons hA;obtain⟨rfl,rfl,rfl⟩:=trodAll_nil r0;obtain rfl:args= #[v0]:=by cases args;simp_all
 have hV2:=hV;obtain⟨_,_,_,_,gd,_,rfl,_,_,_,_,_⟩:=trodVars_one hV;have k0:=h0;have lt0:∀x∈p0,x.block<W.heap.size:=by obtain⟨m,hm⟩:=k0;exact DataW.trod_lt m _ _ _ hm
 obtain⟨a0,len0,cap0,rfl⟩:=okWide_slice Tryz.underlying22 (hval 0 22 v0 rfl rfl);obtain⟨l0,hl0,hc0,hr0,hw0⟩:=Opens.open_row (Kd.int .u8) (Q:=fun x=>(Lit.int .u8 x).wf=true) (e:=5) Tryz.underlying22 qz33 (fun _ _ _ h=>by obtain⟨x,rfl,_,hw⟩:=DataW.trod_int Tryz.underlying5 h;exact⟨x,rfl,hw⟩) h0;have y0:len0*1≤140737488351232:=Opens.sized_row hsz (j:=0) (t:=22) rfl rfl Tryz.underlying22 qz33 h0;subst hl0;clear hA0 hval0 hsz0 hsz;obtain⟨k,hk⟩:=Pure.FnFixes l0 y0 hw0;refine(laws_FnFixes.calls k _ _ l0 true W hr0 hc0 hk (LaidT.of_laid hL)).mono fun e W' ⟨he,hb⟩=>?_
 have bel:Below W.heap.size W W':=hb;subst he;exact⟨_,rfl,_,_,_,[],_,_,hW',trodAll_mk1 (shut_bool Tryz.underlying4 _),(trodAll_cons_mk (Below.trod laidOut qz33 (of_decide_eq_true qz33) k0 bel lt0) trodAll_mk0),Below.trodVars laidOut bel qz33 hV2,bel.frame _,fun h=>by cases h⟩
theorem over:Rows.fnFixesRow.holds Tryz.pinned (OpenSpec.ofChange Rows.fnFixesSpec):=
 OpenClaim.holds_of_wide 4 Tryz.f4 rfl rfl rfl rfl rfl rfl rfl ⟨rfl,rfl,rfl,rfl,rfl⟩ rfl rfl rfl rfl rfl qz33 Tryz.func4 qz33
  (of_decide_eq_true qz33) (by unfold Func.isWrapper;first|(rw[if_pos (by decide +kernel)];kernel_rfl)|(rw[if_neg (by decide +kernel)];exact⟨rfl,rfl⟩))
  (fun os started H enc _=>lifted os started H enc)
theorem card_holds:Rows.FnFixesCardSaid:=
 Claim7.holds_tied_plain_at .later [] [.data] true (true, "29deea75730f3437510c702634a5acfdaa12a18c696fd8fe3cdf4bc032b8d754") false
  over (fun _ h=>by cases h) qz33 (fun _ h=>by cases h) fnFixes_row_tie rfl ⟨rfl,rfl⟩ qz33 rfl
  (fun f fn hf hfn=>by
   obtain rfl : f = 4 := Option.some.inj ((show Tryz.prog.funcNamed "loop.example/g00933/laws.FnFixes" = some 4 by kernel_rfl).symm.trans hf) |>.symm
   obtain rfl:fn=Tryz.f4:=(Option.some.inj (Tryz.func4.symm.trans hfn)).symm
   exact⟨by kernel_rfl,fun j t ht=>by
    rw[Tryz.params4]at ht;have hm:t∈[22]:=by simpa using Array.mem_of_getElem? ht
    have hall:([22].all fun u=>!Tryz.prog.wantsStandIn u)=true:=by kernel_rfl
    exact(show Tryz.prog.wantsStandIn t=false by simpa using List.all_eq_true.1 hall t hm)⟩)
  qz33
#print axioms card_holds
end fnFixes
section
theorem fnFixes_holds:Rows.FnFixesCardSaid:=fnFixes.card_holds
end
end Go.Proofs.YtmgkbhhnchnkcaaGreatDoor
