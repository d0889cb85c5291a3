/- The row of the law FnPlaces: whatever the input, it returns true; its arguments read as they did. No conditions. -/
import Derived.Deep.Slices
import Derived.Deep.Fields
import Derived.ChangeSame
import Derived.SizedLaws
import Derived.Test.YtcafgpincnkcdaaDoorCards
import Derived.Test.YtcafgpincnkcdaaDoorTie
import Derived.OpenVars
import Derived.ChangeVars
import Derived.SevenTiedAt
import Derived.ShutString
import Derived.ChangeOld
import Derived.Test.YtcafgpincnkcdaaDoorKFnPlacesU4
set_option linter.unusedSimpArgs false
set_option linter.unusedVariables false
namespace Go.Proofs.YtcafgpincnkcdaaDoor
namespace Draw
open Go Go.RowKit YtcafgpincnkcdaaDoorW.PrintWords Plain A
def Oks{α:Type}(g:Nat→Option α)(P:α→Prop):Prop:=∃r,Ev g r∧P r
theorem Oks.bind{α β:Type}{g:Nat→Option α}{f:Nat→α→Option β}{P:α→Prop}{Q:β→Prop}(h:Oks g P)(k:∀r,P r→Oks (fun n=>f n r) Q):Oks (fun n=>(g n).bind (f n)) Q:=by
 obtain⟨r,h1,h2⟩:=h;obtain⟨q,k1,k2⟩:=k r h2;exact⟨q,Ev.bind h1 k1,k2⟩
theorem Oks.now{α:Type}{P:α→Prop}{r:α}(h:P r):Oks (fun _=>some r) P:=⟨r,Ev.now _,h⟩
theorem Oks.pos{α:Type}{c:Prop}[Decidable c]{g f:Nat→Option α}{P:α→Prop}(hc:c)(h:Oks g P):Oks (fun n=>if c then g n else f n) P:=by
 obtain⟨r,h1,h2⟩:=h;exact⟨r,Ev.pos hc h1,h2⟩
theorem Oks.neg{α:Type}{c:Prop}[Decidable c]{g f:Nat→Option α}{P:α→Prop}(hc:¬c)(h:Oks f P):Oks (fun n=>if c then g n else f n) P:=by
 obtain⟨r,h1,h2⟩:=h;exact⟨r,Ev.neg hc h1,h2⟩
theorem Oks.ite{α:Type}{c:Prop}[Decidable c]{g f:Nat→Option α}{P:α→Prop}(h:c→Oks g P)(k:¬c→Oks f P):Oks (fun n=>if c then g n else f n) P:=by
 by_cases hc:c
 · exact Oks.pos hc (h hc)
 · exact Oks.neg hc (k hc)
theorem Oks.step{α:Type}{g f:Nat→Option α}{P:α→Prop}(e:∀k,g (k+1)=f k)(h:Oks f P):Oks g P:=by
 obtain⟨r,h1,h2⟩:=h;exact⟨r,Ev.step e h1,h2⟩
theorem Oks.imp{α:Type}{g:Nat→Option α}{P Q:α→Prop}(h:Oks g P)(k:∀r,P r→Q r):Oks g Q:=by
 obtain⟨r,h1,h2⟩:=h;exact⟨r,h1,k r h2⟩
theorem Oks.of{α:Type}{g:Nat→Option α}{P:α→Prop}{r:α}(h:Ev g r)(k:P r):Oks g P:=⟨r,h,k⟩
def Bytes(code:List Int):Prop:=∀x∈code,0≤x∧x≤255
theorem Bytes.of_wf{code:List Int}(h:∀x∈code,(Lit.int .u8 x).wf=true):Bytes code:=fun x hx=>by
 have:=h x hx;simp only[Lit.wf,IntKind.min,IntKind.max,IntKind.signed,IntKind.bits,Bool.and_eq_true,decide_eq_true_eq,Bool.false_eq_true,if_false]at this;omega
theorem Bytes.at_{code:List Int}(h:Bytes code)(i:Int):0≤rd code i∧rd code i≤255:=by
 have e:rd code i=code.getD i.toNat 0:=rfl;rw[e];by_cases hi:i.toNat<code.length
 ·have e2:code.getD i.toNat 0=code[i.toNat]:=by simp[List.getD,hi]
  rw[e2];exact h _ (List.getElem_mem hi)
 ·have e2:code.getD i.toNat 0=0:=by simp[List.getD,hi]
  rw[e2];omega
theorem and255(x:Int)(h0:0≤x)(h1:x≤18446744073709551615):0≤Go.bits .and .u64 x 255∧Go.bits .and .u64 x 255≤255:=by
 have h:=bits_and_u64_nat x.toNat 255 (by omega) (by omega);rw[Int.toNat_of_nonneg h0]at h;have h2:x.toNat &&& 255≤255:=Nat.and_le_right;have e:Go.bits .and .u64 x 255=((x.toNat &&& 255:Nat):Int):=h;rw[e];omega
theorem seed_low(x:Int):0≤wrap64 (Go.bits .and .u64 (IntKind.u64.wrap x/1099511627776) 255)∧wrap64 (Go.bits .and .u64 (IntKind.u64.wrap x/1099511627776) 255)≤255:=by
 have h:=IntKind.wrap_u64 x;have h2:=and255 (IntKind.u64.wrap x/1099511627776) (by omega) (by omega);rw[w64 (by omega) (by omega)];exact h2
theorem next_ok{code:List Int}(hc:Bytes code)(hl:code.length≤65536)(a s:Int)(h0:0≤a)(h1:a≤1000000000):∃v s',spec_l1Cur_next.f code a s=some (v,a+1,s')∧0≤v∧v≤255:=by
 have hr:=hc.at_ a;have e1:wrap64 (rd code a)=rd code a:=w64 (by omega) (by omega);have e2:wrap64 (a+1)=a+1:=w64 (by omega) (by omega);unfold spec_l1Cur_next.f;rw[e2];by_cases c1:a<(code.length:Int)
 ·rw[if_pos c1,if_pos h0,if_pos (by omega),e1];exact⟨_,_,rfl,hr⟩
 ·rw[if_neg c1,if_neg (by omega)];exact⟨_,_,rfl,seed_low _⟩
theorem pick_ok{code:List Int}(hc:Bytes code)(hl:code.length≤65536)(a s n:Int)(h0:0≤a)(h1:a≤100000000):∃v a' s',spec_l1Cur_pick.f code a s n=some (v,a',s')∧0≤v∧(0<n→v<n)∧a≤a'∧a'≤a+2:=by
 unfold spec_l1Cur_pick.f;by_cases c1:n≤1
 ·rw[if_pos c1];exact⟨0,a,s,rfl,by omega,by omega,by omega,by omega⟩
 rw[if_neg c1];obtain⟨v,s1,e,hv⟩:=next_ok hc hl a s h0 (by omega);rw[e,Option.bind_some];by_cases c2:n>200
 ·obtain⟨v2,s2,e2,hv2⟩:=next_ok hc hl (a+1) s1 (by omega) (by omega);have e3:wrap64 (wrap64 (v*256)+v2)=v*256+v2:=by rw[w64 (x:=v*256) (by omega) (by omega),w64 (by omega) (by omega)]
  rw[if_pos c2,e2,Option.bind_some,if_neg (by omega),e3];have hm:=Int.tmod_lt_of_pos (v*256+v2) (show(0:Int)<n by omega);have hm0:=Int.tmod_nonneg n (show(0:Int)≤v*256+v2 by omega);exact⟨_,_,_,rfl,hm0,fun _=>hm,qz35,qz35⟩
 ·rw[if_neg c2,if_neg (by omega)];have hm:=Int.tmod_lt_of_pos v (show(0:Int)<n by omega);have hm0:=Int.tmod_nonneg n (show(0:Int)≤v by omega);exact⟨_,_,_,rfl,hm0,fun _=>hm,qz35,qz35⟩
theorem among_ok{code:List Int}(hc:Bytes code)(hl:code.length≤65536)(a s:Int)(l:List Int)(hn:0<l.length)(h0:0≤a)(h1:a≤100000000):∃v a' s',spec_l1Cur_among.f code a s l=some (v,a',s')∧v∈l∧a≤a'∧a'≤a+2:=by
 unfold spec_l1Cur_among.f;obtain⟨v,a',s',e,hv0,hv1,ha⟩:=pick_ok hc hl a s (l.length:Int) h0 h1;have hv:=hv1 (by omega);rw[e,Option.bind_some,if_pos hv0,if_pos hv];refine⟨_,_,_,rfl,?_,ha⟩;have e2:rd l v=l.getD v.toNat 0:=rfl;have hi:v.toNat<l.length:=by omega
 have e3:l.getD v.toNat 0=l[v.toNat]:=by simp[List.getD,hi]
 rw[e2,e3];exact List.getElem_mem _
theorem pickK{code:List Int}(hc:Bytes code)(hl:code.length≤65536)(a s n:Int)(h0:0≤a)(h1:a≤100000000):Oks (fun _=>spec_l1Cur_pick.f code a s n) (fun r=>0≤r.1∧(0<n→r.1<n)∧a≤r.2.1∧r.2.1≤a+2):=by
 obtain⟨v,a',s',e,h⟩:=pick_ok hc hl a s n h0 h1;exact⟨_,Ev.some (fun _=>e),h⟩
theorem amongK{code:List Int}(hc:Bytes code)(hl:code.length≤65536)(a s:Int)(l:List Int)(hn:0<l.length)(h0:0≤a)(h1:a≤100000000):Oks (fun _=>spec_l1Cur_among.f code a s l) (fun r=>r.1∈l∧a≤r.2.1∧r.2.1≤a+2):=by
 obtain⟨v,a',s',e,h⟩:=among_ok hc hl a s l hn h0 h1;exact⟨_,Ev.some (fun _=>e),h⟩
theorem oneK{code:List Int}(hc:Bytes code)(hl:code.length≤65536)(a s n:Int)(h0:0≤a)(h1:a≤100000000):Oks (fun _=>spec_l1Cur_one.f code a s n) (fun r=>a≤r.2.1∧r.2.1≤a+2):=by
 obtain⟨v,a',s',e,h⟩:=pick_ok hc hl a s n h0 h1;exact⟨(v==0,a',s'),Ev.some (fun _=>by unfold spec_l1Cur_one.f;rw[e];rfl),h.2.2⟩
variable {code:List Int} (hc:Bytes code) (hl:code.length≤65536)
include hc hl
theorem leg_j0(a s b0 b1 b2 b3 b4:Int)(h0:0≤a)(h1:a≤90000000):Oks (fun k=>spec_l1Cur_leg.j0 k code a s b0 b1 b2 b3 b4) (fun r=>a≤r.2.2.2.2.2.1∧r.2.2.2.2.2.1≤a+4):=by
 refine Oks.step (fun k=>by simp only[spec_l1Cur_leg.j0];rfl) ?_;refine Oks.bind (pickK hc hl a s 40 h0 (by omega)) ?_;rintro⟨v,a1,s1⟩ ⟨e1,e2,e3,e4⟩
 dsimp only at e1 e2 e3 e4 ⊢
 refine Oks.ite (fun _=>?_) (fun _=>Oks.ite (fun _=>?_) (fun _=>Oks.ite (fun _=>?_) (fun _=>Oks.ite (fun _=>?_) (fun _=>Oks.now ⟨qz35,qz35⟩))))
 all_goals
  refine Oks.bind (amongK hc hl a1 s1 _ (by simp) (by omega) (by omega)) ?_;rintro⟨u,a2,s2⟩ ⟨_,g3,g4⟩
  dsimp only at g3 g4 ⊢
  exact Oks.now ⟨qz35,qz35⟩
theorem legK(a s:Int)(h0:0≤a)(h1:a≤80000000):Oks (fun k=>spec_l1Cur_leg.f k code a s) (fun r=>a≤r.2.2.2.2.2.1∧r.2.2.2.2.2.1≤a+20):=by
 unfold spec_l1Cur_leg.f;refine Oks.bind (pickK hc hl a s 6 h0 (by omega)) ?_;rintro⟨v1,a1,s1⟩ ⟨_,_,e3,e4⟩
 dsimp only at e3 e4 ⊢
 refine Oks.bind (pickK hc hl a1 s1 6 (by omega) (by omega)) ?_;rintro⟨v2,a2,s2⟩ ⟨_,_,f3,f4⟩
 dsimp only at f3 f4 ⊢
 refine Oks.bind (amongK hc hl a2 s2 _ (by simp) (by omega) (by omega)) ?_;rintro⟨v3,a3,s3⟩ ⟨_,g3,g4⟩
 dsimp only at g3 g4 ⊢
 refine Oks.bind (amongK hc hl a3 s3 _ (by simp) (by omega) (by omega)) ?_;rintro⟨v4,a4,s4⟩ ⟨_,h3,h4⟩
 dsimp only at h3 h4 ⊢
 refine Oks.bind (amongK hc hl a4 s4 _ (by simp) (by omega) (by omega)) ?_;rintro⟨v5,a5,s5⟩ ⟨_,i3,i4⟩
 dsimp only at i3 i4 ⊢
 exact Oks.ite (fun _=>(leg_j0 hc hl a5 s5 _ _ _ _ _ (by omega) (by omega)).imp fun r ⟨k1,k2⟩=>⟨by omega,by omega⟩) (fun _=>(leg_j0 hc hl a5 s5 _ _ _ _ _ (by omega) (by omega)).imp fun r ⟨k1,k2⟩=>⟨by omega,by omega⟩)
end Draw
namespace Draw
open Go Go.RowKit YtcafgpincnkcdaaDoorW.PrintWords Plain A Net
theorem Oks.bindc{α β:Type}{o:Option α}{f:Nat→α→Option β}{a:α}{Q:β→Prop}(h:o=some a)(k:Oks (fun n=>f n a) Q):Oks (fun n=>o.bind (f n)) Q:=by
 subst h;exact k
theorem l1In_eq(x a b:Int):∃r,spec_l1In.f x a b=some r:=by
 unfold spec_l1In.f;split<;>exact⟨_,rfl⟩
theorem l2Long_eq(x:Int):∃r,spec_l2Long.f x=some r:=by
 unfold spec_l2Long.f;obtain⟨r,e⟩:=l1In_eq x (-100000) 100000;rw[e];exact⟨r,rfl⟩
theorem dlen_loop(n:Int):∀(d:Nat) (lo hi:Int),hi-lo≤d→0≤lo→hi≤200000→Oks (fun k=>spec_LengthOf.l0 k n lo hi) (fun _=>True):=by
 intro d
 induction d with
 |zero=>
  intro lo hi h h0 h1;refine Oks.step (fun k=>by simp only[spec_LengthOf.l0];rfl) ?_;exact Oks.neg (by omega) (Oks.now trivial)
 |succ d ih=>
  intro lo hi h h0 h1;refine Oks.step (fun k=>by simp only[spec_LengthOf.l0];rfl) ?_;refine Oks.ite (fun hlt=>?_) (fun _=>Oks.now trivial);have e1:wrap64 (lo+hi)=lo+hi:=w64 (by omega) (by omega);have e2:wrap64 (lo+hi+1)=lo+hi+1:=w64 (by omega) (by omega);have hd:Int.tdiv (lo+hi+1) 2=(lo+hi+1)/2:=Int.tdiv_eq_ediv_of_nonneg (by omega);have e3:wrap64 (Int.tdiv (lo+hi+1) 2)=(lo+hi+1)/2:=by rw[hd];exact w64 (by omega) (by omega)
  have e4:wrap64 ((lo+hi+1)/2-1)=(lo+hi+1)/2-1:=w64 (by omega) (by omega);rw[e1,e2,e3,e4];exact Oks.ite (fun _=>ih _ _ (by omega) (by omega) (by omega)) (fun _=>ih _ _ (by omega) (by omega) (by omega))
theorem dlen_j0(a b c:Int)(t:Bool):Oks (fun k=>spec_LengthOf.j0 k a b c t) (fun _=>True):=by
 refine Oks.step (fun k=>by simp only[spec_LengthOf.j0];rfl) ?_;exact Oks.ite (fun _=>Oks.now trivial) (fun _=>dlen_loop _ 200000 0 200000 (by omega) (by omega) (by omega))
theorem lengthK(a b c:Int):Oks (fun k=>spec_LengthOf.f k a b c) (fun _=>True):=by
 unfold spec_LengthOf.f;obtain⟨r,e⟩:=l2Long_eq a;obtain⟨r2,e2⟩:=l2Long_eq b;obtain⟨r3,e3⟩:=l2Long_eq c;exact Oks.bindc e (Oks.ite (fun _=>Oks.bindc e2 (Oks.ite (fun _=>Oks.bindc e3 (dlen_j0 _ _ _ _)) (fun _=>dlen_j0 _ _ _ _))) (fun _=>dlen_j0 _ _ _ _))
theorem bear_loop(x y:Int):∀(d:Nat) (b i:Int),i+d=360→1≤i→0≤b→b≤359→Oks (fun k=>spec_BearingTo.l0 k x y b i) (fun _=>True):=by
 intro d
 induction d with
 |zero=>
  intro b i h h0 hb0 hb1;refine Oks.step (fun k=>by simp only[spec_BearingTo.l0];rfl) ?_;exact Oks.neg (by omega) (Oks.now trivial)
 |succ d ih=>
  intro b i h h0 hb0 hb1;refine Oks.step (fun k=>by simp only[spec_BearingTo.l0];rfl) ?_;refine Oks.pos (by omega) ?_;refine Oks.bindc (sine_eq i (by omega) (by omega)) (Oks.bindc (cosine_eq i (by omega) (by omega)) (Oks.bindc (sine_eq b (by omega) (by omega)) (Oks.bindc (cosine_eq b (by omega) (by omega)) ?_)));rw[w64 (x:=i+1) (by omega) (by omega)];exact Oks.ite (fun _=>ih i (i+1) (by omega) (by omega) (by omega) (by omega)) (fun _=>ih b (i+1) (by omega) (by omega) (by omega) (by omega))
theorem bear_j0(x y:Int)(t:Bool):Oks (fun k=>spec_BearingTo.j0 k x y t) (fun _=>True):=by
 refine Oks.step (fun k=>by simp only[spec_BearingTo.j0];rfl) ?_;exact Oks.ite (fun _=>Oks.now trivial) (fun _=>bear_loop x y 359 0 1 (by omega) (by omega) (by omega) (by omega))
theorem bearK(a b:Int):Oks (fun k=>spec_BearingTo.f k a b) (fun _=>True):=by
 unfold spec_BearingTo.f;obtain⟨r,e⟩:=l2Long_eq a;obtain⟨r2,e2⟩:=l2Long_eq b;exact Oks.bindc e (Oks.ite (fun _=>Oks.bindc e2 (Oks.ite (fun _=>Oks.ite (fun _=>bear_j0 _ _ _) (fun _=>bear_j0 _ _ _)) (fun _=>bear_j0 _ _ _))) (fun _=>bear_j0 _ _ _))
theorem slope_loop(x y:Int):∀(d:Nat) (b i:Int),i+d=91→1≤i→ -90≤b→b≤90→Oks (fun k=>spec_SlopeTo.l0 k x y b i) (fun _=>True):=by
 intro d
 induction d with
 |zero=>
  intro b i h h0 hb0 hb1;refine Oks.step (fun k=>by simp only[spec_SlopeTo.l0];rfl) ?_;exact Oks.neg (by omega) (Oks.now trivial)
 | succ d ih=>
  intro b i h h0 hb0 hb1;refine Oks.step (fun k=>by simp only[spec_SlopeTo.l0];rfl) ?_;refine Oks.pos (by omega) ?_
  have stop:∀b2:Int,-90≤b2→b2≤90→Oks (fun k=>spec_SlopeTo.l1 k x y b2 i (-3)) (fun _=>True):=fun b2 g0 g1=>by
   refine Oks.step (fun k=>by simp only[spec_SlopeTo.l1];rfl) (Oks.neg (by omega) ?_);rw[w64 (x:=i+1) (by omega) (by omega)];exact ih b2 (i+1) (by omega) (by omega) g0 g1
  have one:∀(b2 s s2:Int),-90≤b2→b2≤90→s=1∨s= -1→s2=s-2→(∀b3:Int,-90≤b3→b3≤90→Oks (fun k=>spec_SlopeTo.l1 k x y b3 i s2) (fun _=>True))→Oks (fun k=>spec_SlopeTo.l1 k x y b2 i s) (fun _=>True):=fun b2 s s2 g0 g1 hs h2 hk=>by
   have hm:wrap64 (s*i)=s*i:=by rcases hs with rfl|rfl<;>exact w64 (by omega) (by omega)
   have hb: -90≤s*i∧s*i≤90:=by rcases hs with rfl|rfl<;>omega
   refine Oks.step (fun k=>by simp only[spec_SlopeTo.l1];rfl) (Oks.pos (by rcases hs with rfl|rfl<;>omega) ?_);rw[hm,w64 (x:=s-2) (by omega) (by omega),←h2];refine Oks.bindc (cosine_eq i (by omega) (by omega)) (Oks.bindc (sine_eq (s*i) (by omega) (by omega)) (Oks.bindc (cosine_eq b2 (by omega) (by omega)) (Oks.bindc (sine_eq b2 (by omega) (by omega)) ?_)));exact Oks.ite (fun _=>hk _ hb.1 hb.2) (fun _=>hk _ g0 g1)
  exact one b 1 (-1) hb0 hb1 (Or.inl rfl) rfl (fun b3 g0 g1=>one b3 (-1) (-3) g0 g1 (Or.inr rfl) rfl stop)
theorem slope_j0(x y:Int)(t:Bool):Oks (fun k=>spec_SlopeTo.j0 k x y t) (fun _=>True):=by
 refine Oks.step (fun k=>by simp only[spec_SlopeTo.j0];rfl) ?_;exact Oks.ite (fun _=>Oks.now trivial) (fun _=>slope_loop x y 90 0 1 (by omega) (by omega) (by omega) (by omega))
theorem slopeK(a b:Int):Oks (fun k=>spec_SlopeTo.f k a b) (fun _=>True):=by
 unfold spec_SlopeTo.f;obtain⟨r,e⟩:=l1In_eq a 0 100000;obtain⟨r2,e2⟩:=l2Long_eq b;exact Oks.bindc e (Oks.ite (fun _=>Oks.bindc e2 (Oks.ite (fun _=>Oks.ite (fun _=>slope_j0 _ _ _) (fun _=>slope_j0 _ _ _)) (fun _=>slope_j0 _ _ _))) (fun _=>slope_j0 _ _ _))
variable {code:List Int} (hc:Bytes code) (hl:code.length≤65536)
include hc hl
def CaveP(M:Int)(r:List S49×Int×Int):Prop:=r.1.length≤9∧0≤r.2.1∧r.2.1≤M
theorem cave_l1(M:Int)(hM:M≤70000000)(x4:Int)(x5:List S31)(h5:(x5.length:Int)=x4)(h4:2≤x4):∀(d:Nat) (x3:List S49) (a s:Int),1≤x3.length→x3.length+d≤8→0≤a→a+30*(d:Int)+100≤M→Oks (fun k=>spec_l1Cur_cave.l1 k x3 x4 x5 (d:Int) code a s) (CaveP M):=by
 intro d
 induction d with
 | zero=>
  intro x3 a s h1 h2 h0 ha;refine Oks.step (fun k=>by simp only[spec_l1Cur_cave.l1];rfl) (Oks.neg (by omega) ?_);refine Oks.bind (pickK hc hl a s 24 h0 (by omega)) ?_;rintro⟨v,a1,s1⟩ ⟨_,_,e3,e4⟩
  dsimp only at e3 e4 ⊢
  refine Oks.ite (fun _=>?_) (fun _=>Oks.ite (fun _=>?_) (fun _=>Oks.ite (fun _=>?_) (fun _=>?_)))
  ·refine Oks.bind (legK hc hl a1 s1 (by omega) (by omega)) ?_;rintro⟨b0,b1,b2,b3,b4,a2,s2⟩ ⟨f3,f4⟩
   dsimp only at f3 f4 ⊢
   exact Oks.pos (by omega) (Oks.now ⟨(by simp only[List.length_set];omega),qz35,qz35⟩)
  ·refine Oks.bind (legK hc hl a1 s1 (by omega) (by omega)) ?_;rintro⟨b0,b1,b2,b3,b4,a2,s2⟩ ⟨f3,f4⟩
   dsimp only at f3 f4 ⊢
   exact Oks.pos (by omega) (Oks.now ⟨qz76,qz35,qz35⟩)
  ·refine Oks.bind (P:=fun r=>r=[]) (Oks.now rfl) ?_;rintro r rfl;refine Oks.pos (by omega) (Oks.bind (P:=fun r=>r.length≤8) (Oks.now (by rw[List.length_drop];omega)) ?_);intro r hr;exact Oks.pos (by simp only[List.length_nil];omega) (Oks.now ⟨(by simp only[List.nil_append];omega),qz35,qz35⟩)
  · exact Oks.now ⟨qz35,qz35,qz35⟩
 | succ d ih=>
  intro x3 a s h1 h2 h0 ha;have ed:wrap64 (((d+1:Nat):Int)-1)=(d:Int):=by rw[w64 (by omega) (by omega)];omega
  refine Oks.step (fun k=>by simp only[spec_l1Cur_cave.l1];rfl) (Oks.pos (by omega) ?_);refine Oks.bind (pickK hc hl a s x4 h0 (by omega)) ?_;rintro⟨v,a1,s1⟩ ⟨e1,e2,e3,e4⟩
  dsimp only at e1 e2 e3 e4 ⊢
  have e5:=e2 (by omega);refine Oks.bind (pickK hc hl a1 s1 x4 (by omega) (by omega)) ?_;rintro⟨v2,a2,s2⟩ ⟨f1,f2,f3,f4⟩
  dsimp only at f1 f2 f3 f4 ⊢
  have f5:=f2 (by omega);refine Oks.pos (by omega) (Oks.pos (by omega) (Oks.pos (by omega) (Oks.pos (by omega) ?_)));refine Oks.bind (P:=fun _=>True) ⟨_,Ev.some (fun k=>rfl),trivial⟩ ?_;rintro⟨p0,p1,p2⟩ _
  dsimp only
  refine Oks.bind (lengthK p0 p1 0) ?_;rintro⟨q0,q1⟩ _
  dsimp only
  refine Oks.bind (lengthK p0 p1 p2) ?_;rintro⟨r0,r1⟩ _
  dsimp only
  have j2:∀t:Bool,Oks (fun k=>spec_l1Cur_cave.j2 k x3 x4 x5 ((d+1:Nat):Int) v v2 q0 r0 t code a2 s2 p0 p1 p2) (CaveP M):=fun t=>by
   refine Oks.step (fun k=>by simp only[spec_l1Cur_cave.j2,ed];rfl) ?_;refine Oks.ite (fun _=>ih x3 a2 s2 h1 (by omega) (by omega) (by omega)) (fun _=>?_);refine Oks.bind (bearK p0 p1) ?_;rintro⟨t0,t1⟩ _
   dsimp only
   refine Oks.bind (slopeK q0 p2) ?_;rintro⟨u0,u1⟩ _
   dsimp only
   refine Oks.bind (pickK hc hl a2 s2 4 (by omega) (by omega)) ?_;rintro⟨v3,a3,s3⟩ ⟨_,_,g3,g4⟩
   dsimp only at g3 g4 ⊢
   refine Oks.bind (pickK hc hl a3 s3 3 (by omega) (by omega)) ?_;rintro⟨v4,a4,s4⟩ ⟨_,_,i3,i4⟩
   dsimp only at i3 i4 ⊢
   exact Oks.pos (by omega) (ih _ a4 s4 qz76 qz76 (by omega) (by omega))
  refine Oks.ite (fun _=>j2 true) (fun _=>?_);obtain⟨r,e⟩:=l1In_eq (wrap64 (r0+3)) 4 500;exact Oks.bindc e (j2 _)
theorem cave_l0(M:Int)(hM:M≤70000000)(x4:Int)(h4:2≤x4)(h4':x4≤6):∀(d:Nat) (x3:List S49) (x5:List S31) (x6 a s:Int),x6+d=x4→1≤x6→(x5.length:Int)=x6→(x3.length:Int)+1=x6→0≤a→a+30*(d:Int)+300≤M→Oks (fun k=>spec_l1Cur_cave.l0 k x3 x4 x5 x6 code a s) (CaveP M):=by
 intro d
 induction d with
 |zero=>
  intro x3 x5 x6 a s h6 h1 h5 h3 h0 ha;refine Oks.step (fun k=>by simp only[spec_l1Cur_cave.l0];rfl) (Oks.neg (by omega) ?_);refine Oks.bind (pickK hc hl a s 4 h0 (by omega)) ?_;rintro⟨v,a1,s1⟩ ⟨e1,e2,e3,e4⟩
  dsimp only at e1 e2 e3 e4 ⊢
  have e5:=e2 (by omega);rw[show v=((v.toNat:Nat):Int) by omega];exact cave_l1 hc hl M hM x4 x5 (by omega) h4 v.toNat x3 a1 s1 (by omega) (by omega) (by omega) (by omega)
 | succ d ih=>
  intro x3 x5 x6 a s h6 h1 h5 h3 h0 ha;refine Oks.step (fun k=>by simp only[spec_l1Cur_cave.l0];rfl) (Oks.pos (by omega) ?_);refine Oks.bind (pickK hc hl a s x6 h0 (by omega)) ?_;rintro⟨v1,a1,s1⟩ ⟨e1,e2,e3,e4⟩
  dsimp only at e1 e2 e3 e4 ⊢
  have e5:=e2 (by omega);refine Oks.bind (amongK hc hl a1 s1 _ (by simp) (by omega) (by omega)) ?_;rintro⟨v2,a2,s2⟩ ⟨m2,f3,f4⟩
  dsimp only at m2 f3 f4 ⊢
  refine Oks.bind (amongK hc hl a2 s2 _ (by simp) (by omega) (by omega)) ?_;rintro⟨v3,a3,s3⟩ ⟨m3,g3,g4⟩
  dsimp only at m3 g3 g4 ⊢
  refine Oks.bind (amongK hc hl a3 s3 _ (by simp) (by omega) (by omega)) ?_;rintro⟨v4,a4,s4⟩ ⟨m4,i3,i4⟩
  dsimp only at m4 i3 i4 ⊢
  refine Oks.pos (by omega) (Oks.pos (by omega) ?_)
  have hgood:Net.Good (⟨v1,x6,v2,v3,v4⟩:S49):=by
   simp only[List.mem_cons,List.not_mem_nil,or_false]at m2 m3 m4;unfold Net.Good;simp only;omega
  refine Oks.bindc (shift_eq ⟨v1,x6,v2,v3,v4⟩ hgood) ?_;refine Oks.bind (P:=fun _=>True) ⟨_,Ev.some (fun k=>rfl),trivial⟩ ?_;rintro⟨p0,p1,p2⟩ _
  dsimp only
  refine Oks.pos (by omega) (Oks.bind (P:=fun r=>(r.length:Int)=x6+1) (Oks.now qz76) ?_);intro y hy;refine Oks.bind (oneK hc hl a4 s4 4 (by omega) (by omega)) ?_;rintro⟨o,a5,s5⟩ ⟨j3,j4⟩
  dsimp only at j3 j4 ⊢
  rw[w64 (x:=x6+1) (by omega) (by omega)];refine Oks.ite (fun _=>?_) (fun _=>?_)
  ·refine Oks.bind (P:=fun _=>True) ⟨_,Ev.some (fun k=>rfl),trivial⟩ ?_;rintro⟨q0,q1,q2,q3,q4⟩ _
   dsimp only
   exact Oks.pos (by omega) (ih _ y (x6+1) a5 s5 (by omega) (by omega) hy qz76 (by omega) (by omega))
  · exact Oks.pos (by omega) (ih _ y (x6+1) a5 s5 (by omega) (by omega) hy qz76 (by omega) (by omega))
theorem caveK(a s:Int)(h0:0≤a)(h1:a≤60000000):Oks (fun k=>spec_l1Cur_cave.f k code a s) (CaveP (a+1000)):=by
 unfold spec_l1Cur_cave.f;refine Oks.bind (pickK hc hl a s 5 h0 (by omega)) ?_;rintro⟨v,a1,s1⟩ ⟨e1,e2,e3,e4⟩
 dsimp only at e1 e2 e3 e4 ⊢
 have e5:=e2 (by omega);rw[w64 (x:=2+v) (by omega) (by omega)];exact cave_l0 hc hl (a+1000) (by omega) (2+v) (by omega) (by omega) (1+v).toNat [] [⟨0,0,0⟩] 1 a1 s1 (by omega) (by omega) (by simp) (by simp) (by omega) (by omega)
end Draw
namespace Draw
open Go Go.RowKit YtcafgpincnkcdaaDoorW.PrintWords Plain A
variable {code:List Int} (hc:Bytes code) (hl:code.length≤65536)
include hc hl
theorem legs_l1:∀(d:Nat) (x3:List S49) (x5 a s:Int),x5=14-(d:Int)→0≤x5→x3.length+d≤22→0≤a→a≤60000000+2*x5→Oks (fun k=>spec_l1Cur_legs.l1 k x3 x5 code a s) (fun r=>r.1.length≤22∧0≤r.2.1∧r.2.1≤60001000):=by
 intro d
 induction d with
 |zero=>
  intro x3 x5 a s h0 h1 h2 h4 h5;refine Oks.step (fun k=>by simp only[spec_l1Cur_legs.l1];rfl) ?_;refine Oks.bind (pickK hc hl a s 2 h4 (by omega)) ?_;rintro⟨v,a1,s1⟩ ⟨g1,g2,g3,g4⟩
  dsimp only at g1 g2 g3 g4 ⊢
  exact Oks.ite (fun _=>Oks.neg (by omega) (Oks.now ⟨qz35,qz35,qz35⟩)) (fun _=>Oks.now ⟨qz35,qz35,qz35⟩)
 |succ d ih=>
  intro x3 x5 a s h0 h1 h2 h4 h5;refine Oks.step (fun k=>by simp only[spec_l1Cur_legs.l1];rfl) ?_;refine Oks.bind (pickK hc hl a s 2 h4 (by omega)) ?_;rintro⟨v,a1,s1⟩ ⟨g1,g2,g3,g4⟩
  dsimp only at g1 g2 g3 g4 ⊢
  refine Oks.ite (fun _=>Oks.pos (by omega) (Oks.pos (by omega) ?_)) (fun _=>Oks.now ⟨qz35,qz35,qz35⟩);rw[w64 (x:=x5+1) (by omega) (by omega)];exact ih _ (x5+1) a1 s1 (by omega) (by omega) qz90 (by omega) (by omega)
theorem legs_l0:∀(d:Nat) (x3:List S49) (a s:Int),x3.length+d≤8→0≤a→a≤40000000+30*(8-d:Int)→Oks (fun k=>spec_l1Cur_legs.l0 k x3 (d:Int) code a s) (fun r=>r.1.length≤22∧0≤r.2.1∧r.2.1≤60001000):=by
 intro d
 induction d with
 |zero=>
  intro x3 a s h1 h4 h5;refine Oks.step (fun k=>by simp only[spec_l1Cur_legs.l0];rfl) ?_;refine Oks.neg (by omega) ?_;refine Oks.bind (oneK hc hl a s 32 h4 (by omega)) ?_;rintro⟨o,a1,s1⟩ ⟨g3,g4⟩
  dsimp only at g3 g4 ⊢
  exact Oks.ite (fun _=>legs_l1 hc hl 14 x3 0 a1 s1 (by omega) (by omega) (by omega) (by omega) (by omega)) (fun _=>Oks.now ⟨qz35,qz35,qz35⟩)
 |succ d ih=>
  intro x3 a s h1 h4 h5;refine Oks.step (fun k=>by simp only[spec_l1Cur_legs.l0];rfl) ?_;refine Oks.pos (by omega) ?_;refine Oks.bind (legK hc hl a s h4 (by omega)) ?_;rintro⟨b0,b1,b2,b3,b4,a1,s1⟩ ⟨g3,g4⟩
  dsimp only at g3 g4 ⊢
  rw[w64 (x:=((d+1:Nat):Int)-1) (by omega) (by omega),show((d+1:Nat):Int)-1=(d:Int) by omega];exact Oks.pos (by omega) (ih _ a1 s1 qz90 (by omega) (by omega))
theorem legsG(a s:Int)(h0:0≤a)(h1:a≤10000):Oks (fun k=>spec_l1Cur_legs.f k code a s) (fun r=>r.1.length≤22∧0≤r.2.1∧r.2.1≤60001000):=by
 unfold spec_l1Cur_legs.f;refine Oks.bind (pickK hc hl a s 8 h0 (by omega)) ?_;rintro⟨v,a1,s1⟩ ⟨e1,e2,e3,e4⟩
 dsimp only at e1 e2 e3 e4 ⊢
 have e5:=e2 (by omega);rw[show v=((v.toNat:Nat):Int) by omega];exact legs_l0 hc hl v.toNat [] a1 s1 qz90 (by omega) (by omega)
end Draw
namespace Draw
open Go Go.RowKit YtcafgpincnkcdaaDoorW.PrintWords Plain A Net
variable {code:List Int} (hc:Bytes code) (hl:code.length≤65536)
include hc hl
theorem stationK(a s:Int)(h0:0≤a)(h1:a≤80000000):Oks (fun _=>spec_l1Cur_stationOf.f code a s) (fun r=>(-1≤r.1∧r.1≤8)∧a≤r.2.1∧r.2.1≤a+2):=by
 unfold spec_l1Cur_stationOf.f;refine Oks.bind (amongK hc hl a s _ (by simp) h0 (by omega)) ?_;rintro⟨v,a1,s1⟩ ⟨m,e3,e4⟩
 dsimp only at m e3 e4 ⊢
 simp only[List.mem_cons,List.not_mem_nil,or_false]at m;exact Oks.now ⟨qz35,qz35,qz35⟩
theorem drawPlaced:Oks (fun k=>spec_DrawPlacedStations.f k code) (fun r=>r.length≤22):=by
 unfold spec_DrawPlacedStations.f;refine Oks.bind (oneK hc hl 0 0 4 (by omega) (by omega)) ?_;rintro⟨o,a1,s1⟩ ⟨e3,e4⟩
 dsimp only at e3 e4 ⊢
 refine Oks.ite (fun _=>?_) (fun _=>?_)
 · exact Oks.bind (legsG hc hl a1 s1 (by omega) (by omega)) fun r h=>Oks.now h.1
 · exact Oks.bind (caveK hc hl a1 s1 (by omega) (by omega)) fun r h=>Oks.now (by have:=h.1;omega)
theorem drawPlaceOf:Oks (fun k=>spec_DrawPlaceOf.f k code) (fun r=>r.1.length≤9):=by
 unfold spec_DrawPlaceOf.f;refine Oks.bind (caveK hc hl 0 0 (by omega) (by omega)) ?_;rintro⟨l,a1,s1⟩ ⟨h1,h2,h3⟩
 dsimp only at h1 h2 h3 ⊢
 refine Oks.bind (stationK hc hl a1 s1 h2 (by omega)) ?_;rintro⟨v,a2,s2⟩ _;exact Oks.now h1
theorem drawError:Oks (fun k=>spec_DrawErrorOf.f k code) (fun r=>r.1.length≤9):=by
 unfold spec_DrawErrorOf.f;refine Oks.bind (caveK hc hl 0 0 (by omega) (by omega)) ?_;rintro⟨l,a1,s1⟩ ⟨h1,h2,h3⟩
 dsimp only at h1 h2 h3 ⊢
 refine Oks.bind (pickK hc hl a1 s1 _ h2 (by omega)) ?_;rintro⟨v,a2,s2⟩ ⟨_,_,e3,e4⟩
 dsimp only at e3 e4 ⊢
 refine Oks.bind (pickK hc hl a2 s2 9 (by omega) (by omega)) ?_;rintro⟨v2,a3,s3⟩ _;exact Oks.now h1
theorem drawTree:Oks (fun k=>spec_DrawTreeLegs.f k code) (fun r=>r.length≤22):=Oks.bind (drawPlaced hc hl) fun r h=>Oks.now h
end Draw
namespace Net
open Go.RowKit YtcafgpincnkcdaaDoorW.PrintWords Plain A
theorem vInts_ev(l:List Int)(hb:l.length≤140737488351232):Ev (fun k=>laws_vInts.f k l l) true:=by
 unfold laws_vInts.f;refine Ev.pos rfl ?_
 exact eq_all laws_vInts.l0 (fun k x0 x4 h0=>by
  simp only[laws_vInts.l0,if_true];by_cases h:x4<(x0.length:Int)
  · rw[if_pos h,if_pos h0,if_pos h,if_pos h]
  · rw[if_neg h,if_neg h]) l hb
theorem vHas_loop(l:List Int)(x:Int)(hb:l.length≤1000000):∀(d i:Nat),i+d=l.length→Ev (fun k=>laws_vHas.l0 k l x (i:Int)) (decide (x∈l.drop i)):=by
 intro d
 induction d with
 |zero=>
  intro i hi;rw[List.drop_eq_nil_of_le (by omega)];refine Ev.step (f:=fun _=>some false) (fun k=>?_) (by simpa using Ev.now false);simp only[laws_vHas.l0];rw[if_neg (by omega)]
 | succ d ih=>
  intro i hi;have hlt:i<l.length:=by omega
  have er:=rd_at l i hlt;have ew:wrap64 ((i:Int)+1)=((i+1:Nat):Int):=by rw[w64 (by omega) (by omega)];omega
  rw[List.drop_eq_getElem_cons hlt];refine Ev.step (f:=fun k=>if l[i]=x then some true else laws_vHas.l0 k l x ((i+1:Nat):Int)) (fun k=>?_) ?_
  ·simp only[laws_vHas.l0];rw[if_pos (by omega),if_pos (by omega),er,ew]
  ·by_cases h:l[i]=x
   ·refine Ev.pos h ?_;rw[decide_eq_true (by rw[h];exact List.mem_cons_self)];exact Ev.now _
   ·refine Ev.neg h ?_;rw[show decide (x∈l[i]::l.drop (i+1))=decide (x∈l.drop (i+1))from decide_eq_decide.mpr (by rw[List.mem_cons];exact⟨fun e=>e.resolve_left (fun q=>h q.symm),Or.inr⟩)];exact ih (i+1) (by omega)
theorem vHas_ev(l:List Int)(x:Int)(hb:l.length≤1000000):Ev (fun k=>laws_vHas.f k l x) (decide (x∈l)):=vHas_loop l x hb l.length 0 (Nat.zero_add _)
theorem implPlaced_ev(l:L)(hb:l.length≤140737488351232):Ev (fun _=>impl_PlacedStations.f l) (if legsB l=true then(plL (RR l),true) else([],false)):=Ev.some fun _=>by unfold impl_PlacedStations.f;rw[if_pos hb]
theorem implExtent_ev(l:L)(hb:l.length≤140737488351232):Ev (fun _=>impl_ExtentOf.f l) ((extentM l).1.1.f0,(extentM l).1.1.f1,(extentM l).1.1.f2,(extentM l).1.2.f0,(extentM l).1.2.f1,(extentM l).1.2.f2,(extentM l).2):=Ev.some fun _=>by unfold impl_ExtentOf.f;rw[if_pos hb]
theorem implDepth_ev(l:L)(hb:l.length≤140737488351232):Ev (fun _=>impl_DepthOf.f l) (depthM l):=Ev.some fun _=>by unfold impl_DepthOf.f;rw[if_pos hb]
theorem implDeepest_ev(l:L)(hb:l.length≤140737488351232):Ev (fun _=>impl_DeepestStation.f l) (deepestM l):=Ev.some fun _=>by unfold impl_DeepestStation.f;rw[if_pos hb]
theorem extM_bound{ls:L}(hg:∀x∈ls,Good x):(((-3500≤(extM ls).1.f0∧(extM ls).1.f0≤0)∧(-3500≤(extM ls).1.f1∧(extM ls).1.f1≤0)∧(-3500≤(extM ls).1.f2∧(extM ls).1.f2≤0))∧((0≤(extM ls).2.f0∧(extM ls).2.f0≤3500)∧(0≤(extM ls).2.f1∧(extM ls).2.f1≤3500)∧(0≤(extM ls).2.f2∧(extM ls).2.f2≤3500))):=
 ext_bound (Xq ls (RR ls)) 3500 (fun s=>place_bound hg s) (plL (RR ls)) z2 (by simp[z2])
end Net
namespace Net
open Go.RowKit YtcafgpincnkcdaaDoorW.PrintWords Plain
open Tree (verts legs W)
theorem closeL_iff{ls:L}(hg:∀x∈ls,Good x)(i:Int):i∈closeL ls↔0≤i∧i<(ls.length:Int)∧(ends ls i).1∈verts 0 (RR ls)∧i∉legs (RR ls):=by
 constructor
 ·intro h;have:=mem_closeL hg h;exact⟨this.1,this.2.1,this.2.2.1,this.2.2.2.2⟩
 ·rintro⟨h0,h1,h2,h3⟩;obtain⟨k,rfl⟩:=Int.eq_ofNat_of_zero_le h0;refine(mem_closeTo ls (RR ls) ls.length _).mpr ⟨k,rfl,Int.ofNat_lt.mp h1,?_,?_⟩
  ·have hx:=leg_good hg k (Int.ofNat_lt.mp h1);rw[Pq_eq,Int.toNat_of_nonneg hx.1.1];exact decide_eq_true ((mem_plL _ _).mpr h2)
  ·rw[Bq_eq];exact decide_eq_false (fun h=>h3 ((mem_trL _ _).mp h))
end Net
namespace Net
open Go.RowKit YtcafgpincnkcdaaDoorW.PrintWords Plain A
open Tree (verts legs W)
theorem implClosing_ev(l:L)(hb:l.length≤140737488351232):Ev (fun _=>impl_ClosingLegs.f l) (if legsB l=true then(closeL l,true) else([],false)):=Ev.some fun _=>by unfold impl_ClosingLegs.f;rw[if_pos hb]
end Net
namespace Net
open Go.RowKit YtcafgpincnkcdaaDoorW.PrintWords Plain A Draw
open Tree (verts legs W)
theorem implPlaceOf_ev(l:L)(hb:l.length≤140737488351232)(s:Int):Ev (fun _=>impl_PlaceOf.f l s) ((placeM l s).1.f0,(placeM l s).1.f1,(placeM l s).1.f2,(placeM l s).2):=Ev.some fun _=>by unfold impl_PlaceOf.f;rw[if_pos hb]
theorem implErrorOf_ev(l:L)(hb:l.length≤140737488351232)(s:Int):Ev (fun _=>impl_ErrorOf.f l s) ((erM l s).1.f0,(erM l s).1.f1,(erM l s).1.f2,(erM l s).2):=Ev.some fun _=>by unfold impl_ErrorOf.f;rw[if_pos hb]
theorem implTree_ev(l:L)(hb:l.length≤140737488351232):Ev (fun _=>impl_TreeLegs.f l) (if legsB l=true then(trL (RR l),true) else([],false)):=Ev.some fun _=>by unfold impl_TreeLegs.f;rw[if_pos hb]
theorem specTree_ev(ls:L)(hb:ls.length≤140737488351232):Ev (fun k=>spec_TreeLegs.f k ls) (if legsB ls=true then(trL (RR ls),true) else([],false)):=by
 unfold spec_TreeLegs.f;refine Ev.bind (l4Legs_ev ls hb) ?_;cases h:legsB ls
 · exact Ev.neg (by decide) (Ev.now _)
 ·have hv:=legsB_iff.mp h;exact Ev.pos rfl (Ev.bind (place_ev ls hv.2 hv.1 (RR ls) rfl) (Ev.now _))
theorem specClosing_ev(ls:L)(hb:ls.length≤140737488351232):Ev (fun k=>spec_ClosingLegs.f k ls) (if legsB ls=true then(closeL ls,true) else([],false)):=by
 unfold spec_ClosingLegs.f;refine Ev.bind (l4Legs_ev ls hb) ?_;cases h:legsB ls
 · exact Ev.neg (by decide) (Ev.now _)
 ·have hv:=legsB_iff.mp h;exact Ev.pos rfl (Ev.bind (closing_ev ls hv.2 hv.1) (Ev.now _))
theorem l6Error_ev{ls:L}(hn:ls.length≤12)(hg:∀x∈ls,Good x)(k:Nat)(hk:k<ls.length):Ev (fun m=>spec_l6Error.f m ls (k:Int)) ((errM (Xq ls (RR ls)) (leg ls k)).f0,(errM (Xq ls (RR ls)) (leg ls k)).f1,(errM (Xq ls (RR ls)) (leg ls k)).f2):=by
 have hx:=leg_good hg k hk;have hlen:((XL ls (RR ls)).length:Int)=8:=by rw[XL_len];rfl
 have hs:=shift_eq (leg ls k) hx;unfold spec_l6Error.f;refine Ev.bind (place_ev ls hn hg (RR ls) rfl) (Ev.pos (by omega) (Ev.pos (by omega) ?_));rw[show rd_T49 ls (k:Int)=leg ls k from rfl];unfold errM;obtain⟨a,ha⟩:=Int.eq_ofNat_of_zero_le hx.1.1;obtain⟨d,hd⟩:=Int.eq_ofNat_of_zero_le hx.2.1.1;have ha8:=hx.1.2;have hd8:=hx.2.1.2;refine Ev.bindc hs (Ev.pos hx.2.1.1 (Ev.pos qz35 (Ev.bindc rfl (Ev.pos hx.1.1 (Ev.pos qz35 (Ev.bindc rfl ?_))))));simp only[ha,hd,XL_at ls (RR ls) a (by omega),XL_at ls (RR ls) d (by omega),Int.toNat_natCast];exact Ev.now _
theorem specError_ev(ls:L)(i:Int)(hb:ls.length≤1000000):Ev (fun k=>spec_ErrorOf.f k ls i) ((erM ls i).1.f0,(erM ls i).1.f1,(erM ls i).1.f2,(erM ls i).2):=by
 unfold spec_ErrorOf.f erM;refine Ev.bind (l4Legs_ev ls (by omega)) ?_;cases h:legsB ls
 · exact Ev.neg (by decide) (Ev.now _)
 ·have hv:=legsB_iff.mp h
  have hin:spec_l1In.f i 0 (wrap64 ((ls.length:Int)-1))=some (decide (0≤i∧i<(ls.length:Int))):=by
   rw[w64 (by omega) (by omega)];unfold spec_l1In.f;by_cases h1:i≥0
   ·rw[if_pos h1]
    congr 1
    rw[decide_eq_decide];omega
   · rw[if_neg h1,decide_eq_false (by omega)]
  refine Ev.pos rfl (Ev.bindc hin ?_);by_cases hi:0≤i∧i<(ls.length:Int)
  ·obtain⟨k,rfl⟩:=Int.eq_ofNat_of_zero_le hi.1;have h6:=l6Has_ev ls (leg ls k).f0 (by omega);rw[h,Bool.true_and]at h6;refine Ev.pos (decide_eq_true hi) (Ev.pos hi.1 (Ev.pos hi.2 (Ev.bind h6 ?_)));by_cases hp:(leg ls k).f0∈plL (RR ls)
   ·rw[if_pos ⟨rfl,hi,hp⟩];exact Ev.pos (decide_eq_true hp) (Ev.bind (l6Error_ev hv.2 hv.1 k (by omega)) (Ev.now _))
   ·rw[if_neg (fun e=>hp e.2.2)];exact Ev.neg (by simpa using hp) (Ev.now _)
  ·rw[if_neg (fun e=>hi e.2.1)];exact Ev.neg (by simpa using hi) (Ev.now _)
theorem tree_err{ls:L}(hg:∀x∈ls,Good x){i:Int}(h:i∈trL (RR ls)):0≤i∧i<(ls.length:Int)∧(leg ls i).f0∈plL (RR ls)∧errM (Xq ls (RR ls)) (leg ls i)=⟨0,0,0⟩:=by
 have ok:=(RR_ok hg).1;have hl:=ok.legs_ends (ends ls) ((mem_trL _ _).mp h);obtain⟨k,rfl⟩:=Int.eq_ofNat_of_zero_le hl.2.2.2.1;have hk:k<ls.length:=Int.ofNat_lt.mp hl.2.2.2.2;refine⟨hl.2.2.2.1,hl.2.2.2.2,(mem_plL _ _).mpr hl.1,?_⟩;have p0:=Sum.pl_leg (ends ls) (sh0 ls) ok hl.2.2.1 rfl;have p1:=Sum.pl_leg (ends ls) (sh1 ls) ok hl.2.2.1 rfl;have p2:=Sum.pl_leg (ends ls) (sh2 ls) ok hl.2.2.1 rfl;rw[err_exact hg k hk,p0,p1,p2]
 congr 1<;>omega
theorem same_len{l m:List Int}(hl:l.Nodup)(hm:m.Nodup)(h:∀x,x∈l↔x∈m):l.length=m.length:=((List.perm_ext_iff_of_nodup hl hm).mpr h).length_eq
theorem asc_nodup{l:List Int}(h:Sort.Asc l):l.Nodup:=List.Pairwise.imp (fun h e=>by omega) h
theorem tree_len{ls:L}(hg:∀x∈ls,Good x):(plL (RR ls)).length=(trL (RR ls)).length+1:=by
 have t:=(RR_ok hg).1.tr;have h1:(plL (RR ls)).length=(verts 0 (RR ls)).length:=same_len (asc_nodup (asc_plL _)) (Grow.nodup t) (fun s=>mem_plL _ s)
 have hn:(legs (RR ls)).Nodup:=by
  revert t;generalize RR ls=q;intro t
  induction t with
  |nil=>simp[legs]
  |cons t hu hs hi ih=>exact List.nodup_cons.mpr ⟨hi,ih⟩
 have h2:(trL (RR ls)).length=(legs (RR ls)).length:=same_len (asc_nodup (asc_trL _)) hn (fun s=>mem_trL _ s);rw[h1,h2];simp[verts,legs]
theorem X_zero{ls:L}(hg:∀x∈ls,Good x):Xq ls (RR ls) 0=⟨0,0,0⟩:=by
 have hl:=RR_len hg
 have z:∀(sh:Int→Int) {q:List (Int×Int×Int)},Tree.Tr (0:Int) q→Sum.pl (ends ls) sh q 0=0:=by
  intro sh q t
  induction t with
  |nil=>rfl
  | @cons q i u s t hu hs hi ih=>
   have:(0:Int)≠s:=fun e=>hs (by rw[←e];simp[verts])
   unfold Sum.pl;rw[if_neg this];exact ih
 have t:=(RR_ok hg).1.tr;unfold Xq;rw[plq_pl hg (q:=RR ls) (by omega) (RR_idx hg)];have e:(((0:Nat):Int))=0:=rfl;rw[e,z _ t,z _ t,z _ t]
theorem j7_law(code:List Int)(hc:Bytes code)(hl:code.length≤65536):Ev (fun k=>laws_FnPlaces.j7 k code false) true:=by
 obtain⟨⟨l,i⟩,hD,hn⟩:=drawError hc hl;have hn:l.length≤9:=hn;refine Ev.step (fun k=>by simp only[laws_FnPlaces.j7,Bool.false_eq_true,if_false];rfl) ?_;refine Ev.bind hD (Ev.bind (implErrorOf_ev l (by omega) i) (Ev.bind (specError_ev l i (by omega)) (Ev.pos (by simp) ?_)));simp only[beq_self_eq_true];exact Ev.now _
theorem j6_law(code:List Int)(hc:Bytes code)(hl:code.length≤65536):Ev (fun k=>laws_FnPlaces.j6 k code) true:=by
 obtain⟨⟨l,s⟩,hD,hn⟩:=drawPlaceOf hc hl;have hn:l.length≤9:=hn;refine Ev.step (fun k=>by simp only[laws_FnPlaces.j6];rfl) ?_;refine Ev.bind hD (Ev.bind (implPlaceOf_ev l (by omega) s) (Ev.bind (specPlace_ev l s (by omega)) (Ev.neg (by simp) ?_)));simp only[bne_self_eq_false];exact j7_law code hc hl
theorem l1_law(code:List Int)(hc:Bytes code)(hl:code.length≤65536)(l:L)(hn:l.length≤22)(hv:legsB l=true):∀(d i:Nat),i+d=(plL (RR l)).length→Ev (fun k=>laws_FnPlaces.l1 k code l (plL (RR l)) (i:Int) (extM l).1.f0 (extM l).1.f1 (extM l).1.f2 (extM l).2.f0 (extM l).2.f1 (extM l).2.f2) true:=by
 have hv':=legsB_iff.mp hv;have hpl:=plL_small hv'.1;intro d
 induction d with
 |zero=>
  intro i hi;refine Ev.step (f:=fun k=>laws_FnPlaces.j6 k code) (fun k=>?_) (j6_law code hc hl);simp only[laws_FnPlaces.l1];rw[if_neg (by omega)]
 |succ d ih=>
  intro i hi;have hlt:i<(plL (RR l)).length:=by omega
  have hm:=List.getElem_mem hlt;have er:=rd_at (plL (RR l)) i hlt;have ew:wrap64 ((i:Int)+1)=((i+1:Nat):Int):=by rw[w64 (by omega) (by omega)];omega
  have hin:=ext_in (Xq l (RR l)) (plL (RR l)) z2 _ hm;have i1:=implPlaceOf_ev l (by omega) (plL (RR l))[i];unfold placeM at i1;rw[if_pos ⟨hv,hm⟩]at i1;have hin:((extM l).1.f0≤(Xq l (RR l) (plL (RR l))[i].toNat).f0∧(Xq l (RR l) (plL (RR l))[i].toNat).f0≤(extM l).2.f0)∧((extM l).1.f1≤(Xq l (RR l) (plL (RR l))[i].toNat).f1∧(Xq l (RR l) (plL (RR l))[i].toNat).f1≤(extM l).2.f1)∧((extM l).1.f2≤(Xq l (RR l) (plL (RR l))[i].toNat).f2∧(Xq l (RR l) (plL (RR l))[i].toNat).f2≤(extM l).2.f2):=hin;refine Ev.step (fun k=>by simp only[laws_FnPlaces.l1];rw[if_pos (show(i:Int)<((plL (RR l)).length:Int) by omega),if_pos (show(0:Int)≤(i:Int) by omega),er,ew]) ?_;exact Ev.bind i1 (Ev.pos rfl (Ev.neg qz35 (Ev.neg qz35 (Ev.neg qz35 (Ev.neg qz35 (Ev.neg qz35 (Ev.neg qz35 (ih (i+1) (by omega)))))))))
theorem l0_law(code:List Int)(hc:Bytes code)(hl:code.length≤65536)(l:L)(hn:l.length≤22)(hv:legsB l=true):∀(d i:Nat),i+d=(trL (RR l)).length→Ev (fun k=>laws_FnPlaces.l0 k code l (trL (RR l)) (plL (RR l)) (closeL l) (i:Int) (extM l).1.f0 (extM l).1.f1 (extM l).1.f2 (extM l).2.f0 (extM l).2.f1 (extM l).2.f2) true:=by
 have hv':=legsB_iff.mp hv;have htl:=trL_small hv'.1;have hcl:=closeL_len l;intro d
 induction d with
 |zero=>
  intro i hi;refine Ev.step (fun k=>?_) (l1_law code hc hl l hn hv _ 0 (Nat.zero_add _));simp only[laws_FnPlaces.l0];rw[if_neg (by omega)];rfl
 |succ d ih=>
  intro i hi;have hlt:i<(trL (RR l)).length:=by omega
  have hm:=List.getElem_mem hlt;have er:=rd_at (trL (RR l)) i hlt;have ew:wrap64 ((i:Int)+1)=((i+1:Nat):Int):=by rw[w64 (by omega) (by omega)];omega
  have he:=tree_err hv'.1 hm;have i1:=implErrorOf_ev l (by omega) (trL (RR l))[i];unfold erM at i1;rw[if_pos ⟨hv,⟨he.1,he.2.1⟩,he.2.2.1⟩,he.2.2.2]at i1;have w:=vHas_ev (closeL l) (trL (RR l))[i] (by omega);rw[decide_eq_false (fun h=>((closeL_iff hv'.1 _).mp h).2.2.2 ((mem_trL _ _).mp hm))]at w;refine Ev.step (fun k=>by simp only[laws_FnPlaces.l0];rw[if_pos (show(i:Int)<((trL (RR l)).length:Int) by omega),if_pos (show(0:Int)≤(i:Int) by omega),er,ew]) ?_;exact Ev.bind i1 (Ev.pos rfl (Ev.neg (by simp) (Ev.bind w (Ev.neg (by simp) (ih (i+1) (by omega))))))
end Net
namespace Pure
open Go.RowKit YtcafgpincnkcdaaDoorW.PrintWords Plain A Net Draw
theorem FnPlaces(code:List Int)(hb:code.length*1≤140737488351232)(hw:∀x∈code,(Lit.int .u8 x).wf=true):∃k,laws_FnPlaces.f k code=some true:=by
 refine Ev.rounds ?_;have hc:=Bytes.of_wf hw;refine Ev.bindc (show laws_vBig.f code=some (decide ((code.length:Int)>65536))from rfl) ?_;by_cases c:(code.length:Int)>65536
 · exact Ev.pos (decide_eq_true c) (Ev.now _)
 have hl:code.length≤65536:=by omega
 refine Ev.neg (by rw[decide_eq_false c];decide) ?_;obtain⟨l,hD,hn⟩:=drawTree hc hl;have i1:=implTree_ev l (by omega);have i2:=implPlaced_ev l (by omega);have i3:=implClosing_ev l (by omega);have s1:=specTree_ev l (by omega);have s2:=specPlaced_ev l (by omega);have s3:=specClosing_ev l (by omega);have i4:=implExtent_ev l (by omega);have i5:=implDepth_ev l (by omega);have i6:=implDeepest_ev l (by omega);have h6:=j6_law code hc hl;by_cases hv:legsB l=true
 ·have hv':=legsB_iff.mp hv;have hpl:=plL_small hv'.1;have htl:=trL_small hv'.1;have hcl:=closeL_len l;have tl:=tree_len hv'.1;have hb:=extM_bound hv'.1
  have hdm:deepM l∈plL (RR l):=by
   rcases deepL_mem (Xq l (RR l)) (plL (RR l)) 0 with e|e
   · unfold deepM;rw[e];exact(mem_plL _ _).mpr (by simp[Tree.verts])
   · exact e
  have hlow:(extM l).1.f2=(Xq l (RR l) (deepM l).toNat).f2:=deep_low (Xq l (RR l)) (plL (RR l)) 0 z2 (by rw[show(0:Int).toNat=0 from rfl,X_zero hv'.1];rfl);have i7:=implPlaceOf_ev l (by omega) (deepM l);unfold placeM at i7;rw[if_pos ⟨hv,hdm⟩]at i7;unfold extentM at i4;unfold depthM at i5;unfold deepestM at i6;rw[if_pos hv]at i1 i2 i3 s1 s2 s3 i4 i5 i6;refine Ev.bind hD (Ev.bind i1 (Ev.bind i2 (Ev.bind i3 (Ev.bind s1 (Ev.neg (by simp) (Ev.bind (vInts_ev _ (by first|omega|(simp only;omega))) ?_))))));refine Ev.step (fun k=>by simp only[laws_FnPlaces.j0,Bool.not_true,Bool.false_eq_true,if_false];rfl) ?_;refine Ev.bind s2 (Ev.neg (by simp) (Ev.neg (by simp) (Ev.bind (vInts_ev _ (by first|omega|(simp only;omega))) ?_)));refine Ev.step (fun k=>by simp only[laws_FnPlaces.j1,Bool.not_true,Bool.false_eq_true,if_false];rfl) ?_;refine Ev.bind s3 (Ev.neg (by simp) (Ev.neg (by simp) (Ev.bind (vInts_ev _ (by first|omega|(simp only;omega))) ?_)));refine Ev.step (fun k=>by simp only[laws_FnPlaces.j2,Bool.not_true,Bool.false_eq_true,if_false,if_true];rfl) ?_;refine Ev.bind i4 (Ev.bind i5 (Ev.bind i6 (Ev.bind i7 (Ev.pos ?_ (Ev.pos rfl (Ev.pos rfl (Ev.pos rfl (Ev.pos rfl (Ev.pos rfl ?_)))))))))
  ·rw[w64 (by omega) (by omega)];omega
  simp only[←hlow,bne_self_eq_false];exact Ev.step (fun k=>by simp only[laws_FnPlaces.j3,Bool.false_eq_true,if_false];rfl) (l0_law code hc hl l (by omega) hv _ 0 (Nat.zero_add _))
 ·rw[if_neg hv]at i1 i2 i3 s1 s2 s3;refine Ev.bind hD (Ev.bind i1 (Ev.bind i2 (Ev.bind i3 (Ev.bind s1 (Ev.neg (by simp) (Ev.bind (vInts_ev _ (by simp)) ?_))))));refine Ev.step (fun k=>by simp only[laws_FnPlaces.j0,Bool.not_true,Bool.false_eq_true,if_false];rfl) ?_;refine Ev.bind s2 (Ev.neg (by simp) (Ev.neg (by simp) (Ev.bind (vInts_ev _ (by simp)) ?_)));refine Ev.step (fun k=>by simp only[laws_FnPlaces.j1,Bool.not_true,Bool.false_eq_true,if_false];rfl) ?_;refine Ev.bind s3 (Ev.neg (by simp) (Ev.neg (by simp) (Ev.bind (vInts_ev _ (by simp)) ?_)));exact Ev.step (f:=fun k=>laws_FnPlaces.j6 k code) (fun k=>by simp only[laws_FnPlaces.j2,Bool.not_true,Bool.false_eq_true,if_false]) h6
end Pure
namespace Opens
open Go.ChangeShapes Go.WideShapes Go.Deep Go.RowKit YtcafgpincnkcdaaDoorW.PrintWords
theorem list_of{α:Type}{P:Nat→α→Prop}:∀(n:Nat),(∀i,i<n→∃x,P i x)→∃xs:List α,xs.length=n∧∀i x,xs[i]?=some x→P i x
 |0,_=>⟨[],rfl,fun i x h=>by simp at h⟩
 | n+1,h=>by
  obtain⟨xs,hl,hx⟩:=list_of n (fun i hi=>h i (Nat.lt_succ_of_lt hi));obtain⟨y,hy⟩:=h n (Nat.lt_succ_self n);refine⟨xs++[y],by simp[hl],fun i x hi=>?_⟩;by_cases hlt:i<xs.length
  ·rw[List.getElem?_append_left hlt]at hi;exact hx i x hi
  ·rw[List.getElem?_append_right (by omega)]at hi
   have h0:i-xs.length=0:=by
    have:=(List.getElem?_eq_some_iff.1 hi).1;simp at this;omega
   rw[h0]at hi;simp at hi;subst hi;have:i=n:=by omega
   subst this;exact hy
section
variable {H:Type} {enc:TypeId×Value→H} {P:Program} {w:World} {base:Nat} {spare:Nat→Bool} {held:Bool}
theorem open_row{α:Type}(d:Kd α){Q:α→Prop}{t e:TypeId}{a:Option Addr}{len cap:Nat}{dd:DataW H}{ps:List MemPlace}(ht:P.underlying t=some (.slice e))(hC:P.cellsOf e=d.sz)
  (hd:∀n cs y,DataW.trod enc P w base spare held n e cs=some y→∃x,d.K w x cs∧Q x)
  (h:DataW.Trod enc P w base spare held t (.slice a len cap) dd ps):∃xs:List α,xs.length=len∧len≤cap∧d.C w a len xs∧∀x∈xs,Q x:=by
 obtain⟨fuel,hf⟩:=h;rcases open_slice ht hf with⟨hcs,_⟩|⟨x,l,c,m,n,D,Pl,hcs,_,hl,hm,hmm,_,hi⟩
 ·simp[Value.cells]at hcs;obtain⟨rfl,rfl,rfl⟩:=hcs;exact⟨[],rfl,Nat.le_refl _,⟨rfl,by omega,fun h=>by omega⟩,fun x hx=>by simp at hx⟩
 ·simp[Value.cells]at hcs;obtain⟨rfl,rfl,rfl⟩:=hcs;have hle:len≤m:=by subst hmm;split<;>omega
  obtain⟨xs,hxl,hx⟩:=list_of (P:=fun i (z:α)=>Q z∧∃cs,d.K w z cs∧w.cells? base (x.add (i*d.sz)) d.sz=some cs) len (fun i hil=>by
   obtain⟨cs,h1,h2⟩:=hi i (by omega);rw[hC]at h1;obtain⟨z,h3,h4⟩:=hd _ _ _ h2
   exact⟨z,h4,cs,h3,h1⟩)
  refine⟨xs,hxl,hl,⟨hxl,(by unfold maxLen at hm;omega),fun _=>⟨x,rfl,fun j p hp=>?_⟩⟩,fun z hz=>?_⟩
  ·obtain⟨_,cs,h1,h2⟩:=hx j p hp;obtain⟨_,hlen,hat⟩:=World.cells?_some h2;refine⟨cs,hlen,h1,fun i u hu=>?_⟩;have hil:i<d.sz:=by have:=(List.getElem?_eq_some_iff.1 hu).1;omega
   rw[←Go.Deep.add_add,hat i hil,hu]
  ·obtain⟨j,hj⟩:=List.getElem?_of_mem hz;exact(hx j z hj).1
theorem sized_row{t e:TypeId}{a:Option Addr}{len cap:Nat}{d:DataW H}{ps:List MemPlace}{ts:List TypeId}{ds:List (DataW H)}{j:Nat}
  (hsz:(DataW.weightsEach P ts ds).all (· ≤reachBytes)=true) (ht:ts[j]?=some t) (hd:ds[j]?=some d) (hu:P.underlying t=some (.slice e)) {B:Nat} (hB:P.bytesOf e=B)
  (h:DataW.Trod enc P w base spare held t (.slice a len cap) d ps):len*B≤140737488351232:=by
 obtain⟨fuel,hf⟩:=h;rcases open_slice hu hf with⟨hcs,_⟩|⟨x,l,c,m,n,D,Pl,hcs,_,hl,hm,hmm,hx,hi⟩
 ·simp[Value.cells]at hcs;obtain⟨rfl,rfl,rfl⟩:=hcs;simp
 ·simp[Value.cells]at hcs;obtain⟨rfl,rfl,rfl⟩:=hcs;obtain⟨hx,_⟩:=Prod.mk.inj hx;subst hx;have z:=sized_slice hsz ht hd hu;rw[hB]at z;simp only[List.length_map,List.length_range]at z;have hle:len≤m:=by subst hmm;split<;>omega
  rw[show len+(m-len)=m by omega]at z;exact Nat.le_trans (Nat.mul_le_mul_right _ hle) z
end
end Opens
namespace fnPlaces
open Go.ChangeShapes Go.WideShapes Go.ChangeAt Go.RowKit
open Go.ChangeMaps (open_string shut_string)
open A YtcafgpincnkcdaaDoorW.PrintWords Opens
theorem own:ownKnob Tryd.prog.godebug=none:=by kernel_rfl
theorem laidOut:laidOutB Tryd.prog=true:=by kernel_rfl
set_option maxRecDepth 100000 in
theorem lifted(os:Os)(started:os.Started)(H:Type)(enc:TypeId×Value→H):
  ReturnsInHanded {} Tryd.checked os 3 .any (fun w args=>(Rows.fnPlacesSpec.pre enc Tryd.prog Tryd.f3 [] false w args∧laidMetH Tryd.prog LaidT.list w)∧sizedMet enc Tryd.prog Tryd.f3 (OpenSpec.ofChange Rows.fnPlacesSpec) false w args) (Rows.fnPlacesSpec.post enc Tryd.prog Tryd.f3 false true false false):=by
 refine returnsInHanded_of_change_and (C:=Tryd.checked) (X:=fun w _=>laidMetH Tryd.prog LaidT.list w) (fun _ _ _ hh h=>h.of_heap hh) own started qz51 Tryd.func3
  (ChangeSpec.witness_shaped (enc:=enc) (C:=Tryd.checked) (os:=os) (X:=fun w _=>laidMetH Tryd.prog LaidT.list w) false (World.doorLaid Tryd.prog 400 os) #[.slice none 0 0] 8 rfl (World.shaped_of_RefB qz51 qz51) qz51 qz51 qz51 (LaidT.door_met os _)) ?_
 intro W base args ds gs before hval0 hW hcnd hsz0 hL _;have hsz:(DataW.weightsEach Tryd.prog (Tryd.f3.params.toList++Rows.fnPlacesSpec.plain.varTypes Tryd.prog) (ds++gs)).all (· ≤reachBytes)=true:=hsz0;have hval:∀(j:Nat) t v,Tryd.f3.params[j]?=some t→args[j]?=some v→Value.okWide Tryd.prog W .any base t v:=hval0
 have hW':=hW;obtain⟨p,q,hA0,hV,rfl,hfz,hnd⟩:=hW;have hA:DataW.TrodAll enc Tryd.prog W 0 (fun _=>true) true Tryd.f3.params.toList args.toList ds p:=hA0;rw[Tryd.params3]at hA hval hsz;obtain⟨v0,vs0,d0,ds0,p0,q0,hargs,rfl,rfl,h0,r0⟩:=trodAll_cons hA;obtain⟨rfl,rfl,rfl⟩:=trodAll_nil r0;obtain rfl:args= #[v0]:=by cases args;simp_all
 have hV2:=hV;obtain⟨_,_,_,_,gd,_,rfl,_,_,_,_,_⟩:=trodVars_one hV;have k0:=h0;have lt0:∀x∈p0,x.block<W.heap.size:=by obtain⟨m,hm⟩:=k0;exact DataW.trod_lt m _ _ _ hm
 obtain⟨a0,len0,cap0,rfl⟩:=okWide_slice Tryd.underlying22 (hval 0 22 v0 rfl rfl);obtain⟨l0,hl0,hc0,hr0,hw0⟩:=Opens.open_row (Kd.int .u8) (Q:=fun x=>(Lit.int .u8 x).wf=true) (e:=5) Tryd.underlying22 qz51 (fun _ _ _ h=>by obtain⟨x,rfl,_,hw⟩:=DataW.trod_int Tryd.underlying5 h;exact⟨x,rfl,hw⟩) h0;have y0:len0*1≤140737488351232:=Opens.sized_row hsz (j:=0) (t:=22) rfl rfl Tryd.underlying22 qz51 h0;subst hl0;clear hA0 hval0 hsz0 hsz;obtain⟨k,hk⟩:=Pure.FnPlaces l0 y0 hw0;refine(laws_FnPlaces.calls k _ _ l0 true W hr0 hc0 hk (LaidT.of_laid hL)).mono fun e W' ⟨he,hb⟩=>?_
 have bel:Below W.heap.size W W':=hb;subst he;exact⟨_,rfl,_,_,_,[],_,_,hW',trodAll_mk1 (shut_bool Tryd.underlying4 _),(trodAll_cons_mk (Below.trod laidOut qz51 (of_decide_eq_true qz51) k0 bel lt0) trodAll_mk0),Below.trodVars laidOut bel qz51 hV2,bel.frame _,fun h=>by cases h⟩
theorem over:Rows.fnPlacesRow.holds Tryd.pinned (OpenSpec.ofChange Rows.fnPlacesSpec):=
 OpenClaim.holds_of_wide 3 Tryd.f3 rfl rfl rfl rfl rfl rfl rfl ⟨rfl,rfl,rfl,rfl,rfl⟩ rfl rfl rfl rfl rfl qz51 Tryd.func3 qz51
  (of_decide_eq_true qz51) (by unfold Func.isWrapper;first|(rw[if_pos (by decide +kernel)];kernel_rfl)|(rw[if_neg (by decide +kernel)];exact⟨rfl,rfl⟩))
  (fun os started H enc _=>lifted os started H enc)
theorem card_holds:Rows.FnPlacesCardSaid:=
 Claim7.holds_tied_plain_at .later [] [.data] true (true, "7decbdd7b4d761a81d44944185676c0b4027964f33349372c29193d97e889cd6") false
  over (fun _ h=>by cases h) qz51 (fun _ h=>by cases h) fnPlaces_row_tie rfl ⟨rfl,rfl⟩ qz51 rfl
  (fun f fn hf hfn=>by
   obtain rfl : f = 3 := Option.some.inj ((show Tryd.prog.funcNamed "loop.example/g00933/laws.FnPlaces" = some 3 by kernel_rfl).symm.trans hf) |>.symm
   obtain rfl:fn=Tryd.f3:=(Option.some.inj (Tryd.func3.symm.trans hfn)).symm
   exact⟨by kernel_rfl,fun j t ht=>by
    rw[Tryd.params3]at ht;have hm:t∈[22]:=by simpa using Array.mem_of_getElem? ht
    have hall:([22].all fun u=>!Tryd.prog.wantsStandIn u)=true:=by kernel_rfl
    exact(show Tryd.prog.wantsStandIn t=false by simpa using List.all_eq_true.1 hall t hm)⟩)
  qz51
#print axioms card_holds
end fnPlaces
section
theorem fnPlaces_holds:Rows.FnPlacesCardSaid:=fnPlaces.card_holds
end
end Go.Proofs.YtcafgpincnkcdaaDoor
