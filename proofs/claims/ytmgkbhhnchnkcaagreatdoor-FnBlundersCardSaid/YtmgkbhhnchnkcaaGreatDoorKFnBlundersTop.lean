/- The row of the law FnBlunders: whatever the input, it returns true; its arguments read as they did. No conditions. -/
import Derived.Deep.Slices
import Derived.Deep.Fields
import Derived.ChangeSame
import Derived.SizedLaws
import Derived.Test.YtmgkbhhnchnkcaaGreatDoorCards
import Derived.Test.YtmgkbhhnchnkcaaGreatDoorTie
import Derived.OpenVars
import Derived.ChangeVars
import Derived.SevenTiedAt
import Derived.ShutString
import Derived.ChangeOld
import Derived.Test.YtmgkbhhnchnkcaaGreatDoorKFnBlundersU10
set_option linter.unusedSimpArgs false
set_option linter.unusedVariables false
namespace Go.Proofs.YtmgkbhhnchnkcaaGreatDoor.Draw
open Go Go.RowKit YtmgkbhhnchnkcaaGreatDoorW.PrintWords Plain A
def Oks{α:Type}(g:Nat→Option α)(P:α→Prop):Prop:=∃r,Ev g r∧P r
theorem Oks.bind{α β:Type}{g:Nat→Option α}{f:Nat→α→Option β}{P:α→Prop}{Q:β→Prop}(h:Oks g P)(k:∀r,P r→Oks (fun n=>f n r) Q):Oks (fun n=>(g n).bind (f n)) Q:=by
 obtain⟨r,h1,h2⟩:=h;obtain⟨q,k1,k2⟩:=k r h2;exact⟨q,Ev.bind h1 k1,k2⟩
theorem Oks.now{α:Type}{P:α→Prop}{r:α}(h:P r):Oks (fun _=>some r) P:=⟨r,Ev.now _,h⟩
theorem Oks.pos{α:Type}{c:Prop}[Decidable c]{g f:Nat→Option α}{P:α→Prop}(hc:c)(h:Oks g P):Oks (fun n=>if c then g n else f n) P:=by
 obtain⟨r,h1,h2⟩:=h;exact⟨r,Ev.pos hc h1,h2⟩
theorem Oks.neg{α:Type}{c:Prop}[Decidable c]{g f:Nat→Option α}{P:α→Prop}(hc:¬c)(h:Oks f P):Oks (fun n=>if c then g n else f n) P:=by
 obtain⟨r,h1,h2⟩:=h;exact⟨r,Ev.neg hc h1,h2⟩
theorem Oks.ite{α:Type}{c:Prop}[Decidable c]{g f:Nat→Option α}{P:α→Prop}(h:c→Oks g P)(k:¬c→Oks f P):Oks (fun n=>if c then g n else f n) P:=by
 by_cases hc:c
 · exact Oks.pos hc (h hc)
 · exact Oks.neg hc (k hc)
theorem Oks.step{α:Type}{g f:Nat→Option α}{P:α→Prop}(e:∀k,g (k+1)=f k)(h:Oks f P):Oks g P:=by
 obtain⟨r,h1,h2⟩:=h;exact⟨r,Ev.step e h1,h2⟩
theorem Oks.imp{α:Type}{g:Nat→Option α}{P Q:α→Prop}(h:Oks g P)(k:∀r,P r→Q r):Oks g Q:=by
 obtain⟨r,h1,h2⟩:=h;exact⟨r,h1,k r h2⟩
theorem Oks.of{α:Type}{g:Nat→Option α}{P:α→Prop}{r:α}(h:Ev g r)(k:P r):Oks g P:=⟨r,h,k⟩
def Bytes(code:List Int):Prop:=∀x∈code,0≤x∧x≤255
theorem Bytes.of_wf{code:List Int}(h:∀x∈code,(Lit.int .u8 x).wf=true):Bytes code:=fun x hx=>by
 have:=h x hx;simp only[Lit.wf,IntKind.min,IntKind.max,IntKind.signed,IntKind.bits,Bool.and_eq_true,decide_eq_true_eq,Bool.false_eq_true,if_false]at this;omega
theorem Bytes.at_{code:List Int}(h:Bytes code)(i:Int):0≤rd code i∧rd code i≤255:=by
 have e:rd code i=code.getD i.toNat 0:=rfl;rw[e];by_cases hi:i.toNat<code.length
 ·have e2:code.getD i.toNat 0=code[i.toNat]:=by simp[List.getD,hi]
  rw[e2];exact h _ (List.getElem_mem hi)
 ·have e2:code.getD i.toNat 0=0:=by simp[List.getD,hi]
  rw[e2];omega
theorem and255(x:Int)(h0:0≤x)(h1:x≤18446744073709551615):0≤Go.bits .and .u64 x 255∧Go.bits .and .u64 x 255≤255:=by
 have h:=bits_and_u64_nat x.toNat 255 (by omega) (by omega);rw[Int.toNat_of_nonneg h0]at h;have h2:x.toNat &&& 255≤255:=Nat.and_le_right;have e:Go.bits .and .u64 x 255=((x.toNat &&& 255:Nat):Int):=h;rw[e];omega
theorem seed_low(x:Int):0≤wrap64 (Go.bits .and .u64 (IntKind.u64.wrap x/1099511627776) 255)∧wrap64 (Go.bits .and .u64 (IntKind.u64.wrap x/1099511627776) 255)≤255:=by
 have h:=IntKind.wrap_u64 x;have h2:=and255 (IntKind.u64.wrap x/1099511627776) (by omega) (by omega);rw[w64 (by omega) (by omega)];exact h2
theorem next_ok{code:List Int}(hc:Bytes code)(hl:code.length≤65536)(a s:Int)(h0:0≤a)(h1:a≤1000000000):∃v s',spec_l1Cur_next.f code a s=some (v,a+1,s')∧0≤v∧v≤255:=by
 have hr:=hc.at_ a;have e1:wrap64 (rd code a)=rd code a:=w64 (by omega) (by omega);have e2:wrap64 (a+1)=a+1:=w64 (by omega) (by omega);unfold spec_l1Cur_next.f;rw[e2];by_cases c1:a<(code.length:Int)
 ·rw[if_pos c1,if_pos h0,if_pos (by omega),e1];exact⟨_,_,rfl,hr⟩
 ·rw[if_neg c1,if_neg (by omega)];exact⟨_,_,rfl,seed_low _⟩
theorem pick_ok{code:List Int}(hc:Bytes code)(hl:code.length≤65536)(a s n:Int)(h0:0≤a)(h1:a≤100000000):∃v a' s',spec_l1Cur_pick.f code a s n=some (v,a',s')∧0≤v∧(0<n→v<n)∧a≤a'∧a'≤a+2:=by
 unfold spec_l1Cur_pick.f;by_cases c1:n≤1
 ·rw[if_pos c1];exact⟨0,a,s,rfl,by omega,by omega,by omega,by omega⟩
 rw[if_neg c1];obtain⟨v,s1,e,hv⟩:=next_ok hc hl a s h0 (by omega);rw[e,Option.bind_some];by_cases c2:n>200
 ·obtain⟨v2,s2,e2,hv2⟩:=next_ok hc hl (a+1) s1 (by omega) (by omega);have e3:wrap64 (wrap64 (v*256)+v2)=v*256+v2:=by rw[w64 (x:=v*256) (by omega) (by omega),w64 (by omega) (by omega)]
  rw[if_pos c2,e2,Option.bind_some,if_neg (by omega),e3];have hm:=Int.tmod_lt_of_pos (v*256+v2) (show(0:Int)<n by omega);have hm0:=Int.tmod_nonneg n (show(0:Int)≤v*256+v2 by omega);exact⟨_,_,_,rfl,hm0,fun _=>hm,qz53,qz53⟩
 ·rw[if_neg c2,if_neg (by omega)];have hm:=Int.tmod_lt_of_pos v (show(0:Int)<n by omega);have hm0:=Int.tmod_nonneg n (show(0:Int)≤v by omega);exact⟨_,_,_,rfl,hm0,fun _=>hm,qz53,qz53⟩
theorem among_ok{code:List Int}(hc:Bytes code)(hl:code.length≤65536)(a s:Int)(l:List Int)(hn:0<l.length)(h0:0≤a)(h1:a≤100000000):∃v a' s',spec_l1Cur_among.f code a s l=some (v,a',s')∧v∈l∧a≤a'∧a'≤a+2:=by
 unfold spec_l1Cur_among.f;obtain⟨v,a',s',e,hv0,hv1,ha⟩:=pick_ok hc hl a s (l.length:Int) h0 h1;have hv:=hv1 (by omega);rw[e,Option.bind_some,if_pos hv0,if_pos hv];refine⟨_,_,_,rfl,?_,ha⟩;have e2:rd l v=l.getD v.toNat 0:=rfl;have hi:v.toNat<l.length:=by omega
 have e3:l.getD v.toNat 0=l[v.toNat]:=by simp[List.getD,hi]
 rw[e2,e3];exact List.getElem_mem _
theorem pickK{code:List Int}(hc:Bytes code)(hl:code.length≤65536)(a s n:Int)(h0:0≤a)(h1:a≤100000000):Oks (fun _=>spec_l1Cur_pick.f code a s n) (fun r=>0≤r.1∧(0<n→r.1<n)∧a≤r.2.1∧r.2.1≤a+2):=by
 obtain⟨v,a',s',e,h⟩:=pick_ok hc hl a s n h0 h1;exact⟨_,Ev.some (fun _=>e),h⟩
theorem amongK{code:List Int}(hc:Bytes code)(hl:code.length≤65536)(a s:Int)(l:List Int)(hn:0<l.length)(h0:0≤a)(h1:a≤100000000):Oks (fun _=>spec_l1Cur_among.f code a s l) (fun r=>r.1∈l∧a≤r.2.1∧r.2.1≤a+2):=by
 obtain⟨v,a',s',e,h⟩:=among_ok hc hl a s l hn h0 h1;exact⟨_,Ev.some (fun _=>e),h⟩
theorem oneK{code:List Int}(hc:Bytes code)(hl:code.length≤65536)(a s n:Int)(h0:0≤a)(h1:a≤100000000):Oks (fun _=>spec_l1Cur_one.f code a s n) (fun r=>a≤r.2.1∧r.2.1≤a+2):=by
 obtain⟨v,a',s',e,h⟩:=pick_ok hc hl a s n h0 h1;exact⟨(v==0,a',s'),Ev.some (fun _=>by unfold spec_l1Cur_one.f;rw[e];rfl),h.2.2⟩
variable {code:List Int} (hc:Bytes code) (hl:code.length≤65536)
include hc hl
theorem leg_j0(a s b0 b1 b2 b3 b4:Int)(h0:0≤a)(h1:a≤90000000):Oks (fun k=>spec_l1Cur_leg.j0 k code a s b0 b1 b2 b3 b4) (fun r=>a≤r.2.2.2.2.2.1∧r.2.2.2.2.2.1≤a+4):=by
 refine Oks.step (fun k=>by simp only[spec_l1Cur_leg.j0];rfl) ?_;refine Oks.bind (pickK hc hl a s 40 h0 (by omega)) ?_;rintro⟨v,a1,s1⟩ ⟨e1,e2,e3,e4⟩
 dsimp only at e1 e2 e3 e4 ⊢
 refine Oks.ite (fun _=>?_) (fun _=>Oks.ite (fun _=>?_) (fun _=>Oks.ite (fun _=>?_) (fun _=>Oks.ite (fun _=>?_) (fun _=>Oks.now ⟨qz53,qz53⟩))))
 all_goals
  refine Oks.bind (amongK hc hl a1 s1 _ (by simp) (by omega) (by omega)) ?_;rintro⟨u,a2,s2⟩ ⟨_,g3,g4⟩
  dsimp only at g3 g4 ⊢
  exact Oks.now ⟨qz53,qz53⟩
theorem legK(a s:Int)(h0:0≤a)(h1:a≤80000000):Oks (fun k=>spec_l1Cur_leg.f k code a s) (fun r=>a≤r.2.2.2.2.2.1∧r.2.2.2.2.2.1≤a+20):=by
 unfold spec_l1Cur_leg.f;refine Oks.bind (pickK hc hl a s 6 h0 (by omega)) ?_;rintro⟨v1,a1,s1⟩ ⟨_,_,e3,e4⟩
 dsimp only at e3 e4 ⊢
 refine Oks.bind (pickK hc hl a1 s1 6 (by omega) (by omega)) ?_;rintro⟨v2,a2,s2⟩ ⟨_,_,f3,f4⟩
 dsimp only at f3 f4 ⊢
 refine Oks.bind (amongK hc hl a2 s2 _ (by simp) (by omega) (by omega)) ?_;rintro⟨v3,a3,s3⟩ ⟨_,g3,g4⟩
 dsimp only at g3 g4 ⊢
 refine Oks.bind (amongK hc hl a3 s3 _ (by simp) (by omega) (by omega)) ?_;rintro⟨v4,a4,s4⟩ ⟨_,h3,h4⟩
 dsimp only at h3 h4 ⊢
 refine Oks.bind (amongK hc hl a4 s4 _ (by simp) (by omega) (by omega)) ?_;rintro⟨v5,a5,s5⟩ ⟨_,i3,i4⟩
 dsimp only at i3 i4 ⊢
 exact Oks.ite (fun _=>(leg_j0 hc hl a5 s5 _ _ _ _ _ (by omega) (by omega)).imp fun r ⟨k1,k2⟩=>⟨by omega,by omega⟩) (fun _=>(leg_j0 hc hl a5 s5 _ _ _ _ _ (by omega) (by omega)).imp fun r ⟨k1,k2⟩=>⟨by omega,by omega⟩)
end Go.Proofs.YtmgkbhhnchnkcaaGreatDoor.Draw
namespace Go.Proofs.YtmgkbhhnchnkcaaGreatDoor.Draw
open Go Go.RowKit YtmgkbhhnchnkcaaGreatDoorW.PrintWords Plain A Net
theorem Oks.bindc{α β:Type}{o:Option α}{f:Nat→α→Option β}{a:α}{Q:β→Prop}(h:o=some a)(k:Oks (fun n=>f n a) Q):Oks (fun n=>o.bind (f n)) Q:=by
 subst h;exact k
theorem l1In_eq(x a b:Int):∃r,spec_l1In.f x a b=some r:=by
 unfold spec_l1In.f;split<;>exact⟨_,rfl⟩
theorem l2Long_eq(x:Int):∃r,spec_l2Long.f x=some r:=by
 unfold spec_l2Long.f;obtain⟨r,e⟩:=l1In_eq x (-100000) 100000;rw[e];exact⟨r,rfl⟩
theorem dlen_loop(n:Int):∀(d:Nat) (lo hi:Int),hi-lo≤d→0≤lo→hi≤200000→Oks (fun k=>spec_LengthOf.l0 k n lo hi) (fun _=>True):=by
 intro d
 induction d with
 |zero=>
  intro lo hi h h0 h1;refine Oks.step (fun k=>by simp only[spec_LengthOf.l0];rfl) ?_;exact Oks.neg (by omega) (Oks.now trivial)
 |succ d ih=>
  intro lo hi h h0 h1;refine Oks.step (fun k=>by simp only[spec_LengthOf.l0];rfl) ?_;refine Oks.ite (fun hlt=>?_) (fun _=>Oks.now trivial);have e1:wrap64 (lo+hi)=lo+hi:=w64 (by omega) (by omega);have e2:wrap64 (lo+hi+1)=lo+hi+1:=w64 (by omega) (by omega);have hd:Int.tdiv (lo+hi+1) 2=(lo+hi+1)/2:=Int.tdiv_eq_ediv_of_nonneg (by omega);have e3:wrap64 (Int.tdiv (lo+hi+1) 2)=(lo+hi+1)/2:=by rw[hd];exact w64 (by omega) (by omega)
  have e4:wrap64 ((lo+hi+1)/2-1)=(lo+hi+1)/2-1:=w64 (by omega) (by omega);rw[e1,e2,e3,e4];exact Oks.ite (fun _=>ih _ _ (by omega) (by omega) (by omega)) (fun _=>ih _ _ (by omega) (by omega) (by omega))
theorem dlen_j0(a b c:Int)(t:Bool):Oks (fun k=>spec_LengthOf.j0 k a b c t) (fun _=>True):=by
 refine Oks.step (fun k=>by simp only[spec_LengthOf.j0];rfl) ?_;exact Oks.ite (fun _=>Oks.now trivial) (fun _=>dlen_loop _ 200000 0 200000 (by omega) (by omega) (by omega))
theorem lengthK(a b c:Int):Oks (fun k=>spec_LengthOf.f k a b c) (fun _=>True):=by
 unfold spec_LengthOf.f;obtain⟨r,e⟩:=l2Long_eq a;obtain⟨r2,e2⟩:=l2Long_eq b;obtain⟨r3,e3⟩:=l2Long_eq c;exact Oks.bindc e (Oks.ite (fun _=>Oks.bindc e2 (Oks.ite (fun _=>Oks.bindc e3 (dlen_j0 _ _ _ _)) (fun _=>dlen_j0 _ _ _ _))) (fun _=>dlen_j0 _ _ _ _))
theorem bear_loop(x y:Int):∀(d:Nat) (b i:Int),i+d=360→1≤i→0≤b→b≤359→Oks (fun k=>spec_BearingTo.l0 k x y b i) (fun _=>True):=by
 intro d
 induction d with
 |zero=>
  intro b i h h0 hb0 hb1;refine Oks.step (fun k=>by simp only[spec_BearingTo.l0];rfl) ?_;exact Oks.neg (by omega) (Oks.now trivial)
 |succ d ih=>
  intro b i h h0 hb0 hb1;refine Oks.step (fun k=>by simp only[spec_BearingTo.l0];rfl) ?_;refine Oks.pos (by omega) ?_;refine Oks.bindc (sine_eq i (by omega) (by omega)) (Oks.bindc (cosine_eq i (by omega) (by omega)) (Oks.bindc (sine_eq b (by omega) (by omega)) (Oks.bindc (cosine_eq b (by omega) (by omega)) ?_)));rw[w64 (x:=i+1) (by omega) (by omega)];exact Oks.ite (fun _=>ih i (i+1) (by omega) (by omega) (by omega) (by omega)) (fun _=>ih b (i+1) (by omega) (by omega) (by omega) (by omega))
theorem bear_j0(x y:Int)(t:Bool):Oks (fun k=>spec_BearingTo.j0 k x y t) (fun _=>True):=by
 refine Oks.step (fun k=>by simp only[spec_BearingTo.j0];rfl) ?_;exact Oks.ite (fun _=>Oks.now trivial) (fun _=>bear_loop x y 359 0 1 (by omega) (by omega) (by omega) (by omega))
theorem bearK(a b:Int):Oks (fun k=>spec_BearingTo.f k a b) (fun _=>True):=by
 unfold spec_BearingTo.f;obtain⟨r,e⟩:=l2Long_eq a;obtain⟨r2,e2⟩:=l2Long_eq b;exact Oks.bindc e (Oks.ite (fun _=>Oks.bindc e2 (Oks.ite (fun _=>Oks.ite (fun _=>bear_j0 _ _ _) (fun _=>bear_j0 _ _ _)) (fun _=>bear_j0 _ _ _))) (fun _=>bear_j0 _ _ _))
theorem slope_loop(x y:Int):∀(d:Nat) (b i:Int),i+d=91→1≤i→ -90≤b→b≤90→Oks (fun k=>spec_SlopeTo.l0 k x y b i) (fun _=>True):=by
 intro d
 induction d with
 |zero=>
  intro b i h h0 hb0 hb1;refine Oks.step (fun k=>by simp only[spec_SlopeTo.l0];rfl) ?_;exact Oks.neg (by omega) (Oks.now trivial)
 | succ d ih=>
  intro b i h h0 hb0 hb1;refine Oks.step (fun k=>by simp only[spec_SlopeTo.l0];rfl) ?_;refine Oks.pos (by omega) ?_
  have stop:∀b2:Int,-90≤b2→b2≤90→Oks (fun k=>spec_SlopeTo.l1 k x y b2 i (-3)) (fun _=>True):=fun b2 g0 g1=>by
   refine Oks.step (fun k=>by simp only[spec_SlopeTo.l1];rfl) (Oks.neg (by omega) ?_);rw[w64 (x:=i+1) (by omega) (by omega)];exact ih b2 (i+1) (by omega) (by omega) g0 g1
  have one:∀(b2 s s2:Int),-90≤b2→b2≤90→s=1∨s= -1→s2=s-2→(∀b3:Int,-90≤b3→b3≤90→Oks (fun k=>spec_SlopeTo.l1 k x y b3 i s2) (fun _=>True))→Oks (fun k=>spec_SlopeTo.l1 k x y b2 i s) (fun _=>True):=fun b2 s s2 g0 g1 hs h2 hk=>by
   have hm:wrap64 (s*i)=s*i:=by rcases hs with rfl|rfl<;>exact w64 (by omega) (by omega)
   have hb: -90≤s*i∧s*i≤90:=by rcases hs with rfl|rfl<;>omega
   refine Oks.step (fun k=>by simp only[spec_SlopeTo.l1];rfl) (Oks.pos (by rcases hs with rfl|rfl<;>omega) ?_);rw[hm,w64 (x:=s-2) (by omega) (by omega),←h2];refine Oks.bindc (cosine_eq i (by omega) (by omega)) (Oks.bindc (sine_eq (s*i) (by omega) (by omega)) (Oks.bindc (cosine_eq b2 (by omega) (by omega)) (Oks.bindc (sine_eq b2 (by omega) (by omega)) ?_)));exact Oks.ite (fun _=>hk _ hb.1 hb.2) (fun _=>hk _ g0 g1)
  exact one b 1 (-1) hb0 hb1 (Or.inl rfl) rfl (fun b3 g0 g1=>one b3 (-1) (-3) g0 g1 (Or.inr rfl) rfl stop)
theorem slope_j0(x y:Int)(t:Bool):Oks (fun k=>spec_SlopeTo.j0 k x y t) (fun _=>True):=by
 refine Oks.step (fun k=>by simp only[spec_SlopeTo.j0];rfl) ?_;exact Oks.ite (fun _=>Oks.now trivial) (fun _=>slope_loop x y 90 0 1 (by omega) (by omega) (by omega) (by omega))
theorem slopeK(a b:Int):Oks (fun k=>spec_SlopeTo.f k a b) (fun _=>True):=by
 unfold spec_SlopeTo.f;obtain⟨r,e⟩:=l1In_eq a 0 100000;obtain⟨r2,e2⟩:=l2Long_eq b;exact Oks.bindc e (Oks.ite (fun _=>Oks.bindc e2 (Oks.ite (fun _=>Oks.ite (fun _=>slope_j0 _ _ _) (fun _=>slope_j0 _ _ _)) (fun _=>slope_j0 _ _ _))) (fun _=>slope_j0 _ _ _))
variable {code:List Int} (hc:Bytes code) (hl:code.length≤65536)
include hc hl
def CaveP(M:Int)(r:List S82×Int×Int):Prop:=r.1.length≤9∧0≤r.2.1∧r.2.1≤M
theorem cave_l1(M:Int)(hM:M≤70000000)(x4:Int)(x5:List S72)(h5:(x5.length:Int)=x4)(h4:2≤x4):∀(d:Nat) (x3:List S82) (a s:Int),1≤x3.length→x3.length+d≤8→0≤a→a+30*(d:Int)+100≤M→Oks (fun k=>spec_l1Cur_cave.l1 k x3 x4 x5 (d:Int) code a s) (CaveP M):=by
 intro d
 induction d with
 | zero=>
  intro x3 a s h1 h2 h0 ha;refine Oks.step (fun k=>by simp only[spec_l1Cur_cave.l1];rfl) (Oks.neg (by omega) ?_);refine Oks.bind (pickK hc hl a s 24 h0 (by omega)) ?_;rintro⟨v,a1,s1⟩ ⟨_,_,e3,e4⟩
  dsimp only at e3 e4 ⊢
  refine Oks.ite (fun _=>?_) (fun _=>Oks.ite (fun _=>?_) (fun _=>Oks.ite (fun _=>?_) (fun _=>?_)))
  ·refine Oks.bind (legK hc hl a1 s1 (by omega) (by omega)) ?_;rintro⟨b0,b1,b2,b3,b4,a2,s2⟩ ⟨f3,f4⟩
   dsimp only at f3 f4 ⊢
   exact Oks.pos (by omega) (Oks.now ⟨(by simp only[List.length_set];omega),qz53,qz53⟩)
  ·refine Oks.bind (legK hc hl a1 s1 (by omega) (by omega)) ?_;rintro⟨b0,b1,b2,b3,b4,a2,s2⟩ ⟨f3,f4⟩
   dsimp only at f3 f4 ⊢
   exact Oks.pos (by omega) (Oks.now ⟨qz75,qz53,qz53⟩)
  ·refine Oks.bind (P:=fun r=>r=[]) (Oks.now rfl) ?_;rintro r rfl;refine Oks.pos (by omega) (Oks.bind (P:=fun r=>r.length≤8) (Oks.now (by rw[List.length_drop];omega)) ?_);intro r hr;exact Oks.pos (by simp only[List.length_nil];omega) (Oks.now ⟨(by simp only[List.nil_append];omega),qz53,qz53⟩)
  · exact Oks.now ⟨qz53,qz53,qz53⟩
 | succ d ih=>
  intro x3 a s h1 h2 h0 ha;have ed:wrap64 (((d+1:Nat):Int)-1)=(d:Int):=by rw[w64 (by omega) (by omega)];omega
  refine Oks.step (fun k=>by simp only[spec_l1Cur_cave.l1];rfl) (Oks.pos (by omega) ?_);refine Oks.bind (pickK hc hl a s x4 h0 (by omega)) ?_;rintro⟨v,a1,s1⟩ ⟨e1,e2,e3,e4⟩
  dsimp only at e1 e2 e3 e4 ⊢
  have e5:=e2 (by omega);refine Oks.bind (pickK hc hl a1 s1 x4 (by omega) (by omega)) ?_;rintro⟨v2,a2,s2⟩ ⟨f1,f2,f3,f4⟩
  dsimp only at f1 f2 f3 f4 ⊢
  have f5:=f2 (by omega);refine Oks.pos (by omega) (Oks.pos (by omega) (Oks.pos (by omega) (Oks.pos (by omega) ?_)));refine Oks.bind (P:=fun _=>True) ⟨_,Ev.some (fun k=>rfl),trivial⟩ ?_;rintro⟨p0,p1,p2⟩ _
  dsimp only
  refine Oks.bind (lengthK p0 p1 0) ?_;rintro⟨q0,q1⟩ _
  dsimp only
  refine Oks.bind (lengthK p0 p1 p2) ?_;rintro⟨r0,r1⟩ _
  dsimp only
  have j2:∀t:Bool,Oks (fun k=>spec_l1Cur_cave.j2 k x3 x4 x5 ((d+1:Nat):Int) v v2 q0 r0 t code a2 s2 p0 p1 p2) (CaveP M):=fun t=>by
   refine Oks.step (fun k=>by simp only[spec_l1Cur_cave.j2,ed];rfl) ?_;refine Oks.ite (fun _=>ih x3 a2 s2 h1 (by omega) (by omega) (by omega)) (fun _=>?_);refine Oks.bind (bearK p0 p1) ?_;rintro⟨t0,t1⟩ _
   dsimp only
   refine Oks.bind (slopeK q0 p2) ?_;rintro⟨u0,u1⟩ _
   dsimp only
   refine Oks.bind (pickK hc hl a2 s2 4 (by omega) (by omega)) ?_;rintro⟨v3,a3,s3⟩ ⟨_,_,g3,g4⟩
   dsimp only at g3 g4 ⊢
   refine Oks.bind (pickK hc hl a3 s3 3 (by omega) (by omega)) ?_;rintro⟨v4,a4,s4⟩ ⟨_,_,i3,i4⟩
   dsimp only at i3 i4 ⊢
   exact Oks.pos (by omega) (ih _ a4 s4 qz75 qz75 (by omega) (by omega))
  refine Oks.ite (fun _=>j2 true) (fun _=>?_);obtain⟨r,e⟩:=l1In_eq (wrap64 (r0+3)) 4 500;exact Oks.bindc e (j2 _)
theorem cave_l0(M:Int)(hM:M≤70000000)(x4:Int)(h4:2≤x4)(h4':x4≤6):∀(d:Nat) (x3:List S82) (x5:List S72) (x6 a s:Int),x6+d=x4→1≤x6→(x5.length:Int)=x6→(x3.length:Int)+1=x6→0≤a→a+30*(d:Int)+300≤M→Oks (fun k=>spec_l1Cur_cave.l0 k x3 x4 x5 x6 code a s) (CaveP M):=by
 intro d
 induction d with
 |zero=>
  intro x3 x5 x6 a s h6 h1 h5 h3 h0 ha;refine Oks.step (fun k=>by simp only[spec_l1Cur_cave.l0];rfl) (Oks.neg (by omega) ?_);refine Oks.bind (pickK hc hl a s 4 h0 (by omega)) ?_;rintro⟨v,a1,s1⟩ ⟨e1,e2,e3,e4⟩
  dsimp only at e1 e2 e3 e4 ⊢
  have e5:=e2 (by omega);rw[show v=((v.toNat:Nat):Int) by omega];exact cave_l1 hc hl M hM x4 x5 (by omega) h4 v.toNat x3 a1 s1 (by omega) (by omega) (by omega) (by omega)
 | succ d ih=>
  intro x3 x5 x6 a s h6 h1 h5 h3 h0 ha;refine Oks.step (fun k=>by simp only[spec_l1Cur_cave.l0];rfl) (Oks.pos (by omega) ?_);refine Oks.bind (pickK hc hl a s x6 h0 (by omega)) ?_;rintro⟨v1,a1,s1⟩ ⟨e1,e2,e3,e4⟩
  dsimp only at e1 e2 e3 e4 ⊢
  have e5:=e2 (by omega);refine Oks.bind (amongK hc hl a1 s1 _ (by simp) (by omega) (by omega)) ?_;rintro⟨v2,a2,s2⟩ ⟨m2,f3,f4⟩
  dsimp only at m2 f3 f4 ⊢
  refine Oks.bind (amongK hc hl a2 s2 _ (by simp) (by omega) (by omega)) ?_;rintro⟨v3,a3,s3⟩ ⟨m3,g3,g4⟩
  dsimp only at m3 g3 g4 ⊢
  refine Oks.bind (amongK hc hl a3 s3 _ (by simp) (by omega) (by omega)) ?_;rintro⟨v4,a4,s4⟩ ⟨m4,i3,i4⟩
  dsimp only at m4 i3 i4 ⊢
  refine Oks.pos (by omega) (Oks.pos (by omega) ?_)
  have hgood:Net.Good (⟨v1,x6,v2,v3,v4⟩:S82):=by
   simp only[List.mem_cons,List.not_mem_nil,or_false]at m2 m3 m4;unfold Net.Good;simp only;omega
  refine Oks.bindc (shift_eq ⟨v1,x6,v2,v3,v4⟩ hgood) ?_;refine Oks.bind (P:=fun _=>True) ⟨_,Ev.some (fun k=>rfl),trivial⟩ ?_;rintro⟨p0,p1,p2⟩ _
  dsimp only
  refine Oks.pos (by omega) (Oks.bind (P:=fun r=>(r.length:Int)=x6+1) (Oks.now qz75) ?_);intro y hy;refine Oks.bind (oneK hc hl a4 s4 4 (by omega) (by omega)) ?_;rintro⟨o,a5,s5⟩ ⟨j3,j4⟩
  dsimp only at j3 j4 ⊢
  rw[w64 (x:=x6+1) (by omega) (by omega)];refine Oks.ite (fun _=>?_) (fun _=>?_)
  ·refine Oks.bind (P:=fun _=>True) ⟨_,Ev.some (fun k=>rfl),trivial⟩ ?_;rintro⟨q0,q1,q2,q3,q4⟩ _
   dsimp only
   exact Oks.pos (by omega) (ih _ y (x6+1) a5 s5 (by omega) (by omega) hy qz75 (by omega) (by omega))
  · exact Oks.pos (by omega) (ih _ y (x6+1) a5 s5 (by omega) (by omega) hy qz75 (by omega) (by omega))
theorem caveK(a s:Int)(h0:0≤a)(h1:a≤60000000):Oks (fun k=>spec_l1Cur_cave.f k code a s) (CaveP (a+1000)):=by
 unfold spec_l1Cur_cave.f;refine Oks.bind (pickK hc hl a s 5 h0 (by omega)) ?_;rintro⟨v,a1,s1⟩ ⟨e1,e2,e3,e4⟩
 dsimp only at e1 e2 e3 e4 ⊢
 have e5:=e2 (by omega);rw[w64 (x:=2+v) (by omega) (by omega)];exact cave_l0 hc hl (a+1000) (by omega) (2+v) (by omega) (by omega) (1+v).toNat [] [⟨0,0,0⟩] 1 a1 s1 (by omega) (by omega) (by simp) (by simp) (by omega) (by omega)
end Go.Proofs.YtmgkbhhnchnkcaaGreatDoor.Draw
namespace Go.Proofs.YtmgkbhhnchnkcaaGreatDoor.Draw
open Go Go.RowKit YtmgkbhhnchnkcaaGreatDoorW.PrintWords Plain A
variable {code:List Int} (hc:Bytes code) (hl:code.length≤65536)
include hc hl
end Go.Proofs.YtmgkbhhnchnkcaaGreatDoor.Draw
namespace Go.Proofs.YtmgkbhhnchnkcaaGreatDoor.Draw
open Go Go.RowKit YtmgkbhhnchnkcaaGreatDoorW.PrintWords Plain A Net
variable {code:List Int} (hc:Bytes code) (hl:code.length≤65536)
include hc hl
end Go.Proofs.YtmgkbhhnchnkcaaGreatDoor.Draw
namespace Go.Proofs.YtmgkbhhnchnkcaaGreatDoor.Draw
open Go Go.RowKit YtmgkbhhnchnkcaaGreatDoorW.PrintWords Plain A Net
variable {code:List Int} (hc:Bytes code) (hl:code.length≤65536)
include hc hl
def KP(b:Int)(r:List S82×Int×Int×Int):Prop:=r.1.length≤9∧0≤r.2.2.1∧r.2.2.1≤b
theorem closing_j2(l:List S82)(h9:l.length≤9)(t:Bool)(ht:t=true→legsB l=true)(a s:Int)(h0:0≤a)(h1:a≤70000000)(b:Int)(hb:a+4≤b):Oks (fun k=>spec_l1Cur_closing.j2 k l t code a s) (KP b):=by
 have any:Oks (fun k=>(spec_l1Cur_pick.f code a s (wrap64 ((l.length:Int)+1))).bind fun bt=>(spec_l1Cur_pick.f code bt.2.1 bt.2.2 9).bind fun bt2=>some (l,wrap64 (bt.1-wrap64 (Int.tdiv bt2.1 8)),bt2.2.1,bt2.2.2)) (KP b):=by
  refine Oks.bind (pickK hc hl a s _ h0 (by omega)) ?_;rintro⟨v,a2,s2⟩ ⟨_,_,e3,e4⟩
  dsimp only at e3 e4 ⊢
  refine Oks.bind (pickK hc hl a2 s2 9 (by omega) (by omega)) ?_;rintro⟨v2,a3,s3⟩ ⟨_,_,e5,e6⟩
  dsimp only at e5 e6 ⊢
  exact Oks.now ⟨h9,qz53,qz53⟩
 refine Oks.step (fun k=>by simp only[spec_l1Cur_closing.j2];rfl) ?_;refine Oks.ite (fun c=>?_) (fun _=>any);have hv:=legsB_iff.mp (ht c);refine Oks.bind (P:=fun r=>r=closeL l) ⟨_,closing_ev l hv.2 hv.1,rfl⟩ ?_;rintro r rfl;refine Oks.ite (fun hp=>?_) (fun _=>any);refine Oks.bind (pickK hc hl a s _ h0 (by omega)) ?_;rintro⟨v,a2,s2⟩ ⟨e1,e2,e3,e4⟩
 dsimp only at e1 e2 e3 e4 ⊢
 exact Oks.pos e1 (Oks.pos (e2 (by omega)) (Oks.now ⟨h9,qz53,qz53⟩))
theorem closing_j1(l:List S82)(h9:l.length≤9)(a s:Int)(h0:0≤a)(h1:a≤60000000)(b:Int)(hb:a+6≤b):Oks (fun k=>spec_l1Cur_closing.j1 k l code a s) (KP b):=by
 refine Oks.step (fun k=>by simp only[spec_l1Cur_closing.j1];rfl) ?_;refine Oks.bind (P:=fun r=>r=legsB l) ⟨_,l4Legs_ev l (by omega),rfl⟩ ?_;rintro r rfl;refine Oks.ite (fun h=>?_) (fun _=>closing_j2 hc hl l h9 false (by simp) a s h0 (by omega) b (by omega));refine Oks.bind (oneK hc hl a s 12 h0 (by omega)) ?_;rintro⟨o,a2,s2⟩ ⟨e3,e4⟩
 dsimp only at e3 e4 ⊢
 exact closing_j2 hc hl l h9 _ (fun _=>h) a2 s2 (by omega) (by omega) b (by omega)
theorem closing_l0:∀(d:Nat) (l:List S82) (x5 a s b:Int),l.length≤9→x5+d=3→0≤x5→0≤a→a+2000*(d:Int)≤50000000→a+1000*(d:Int)+6≤b→Oks (fun k=>spec_l1Cur_closing.l0 k l x5 code a s) (KP b):=by
 intro d
 induction d with
 |zero=>
  intro l x5 a s b h9 hx h5 h0 h1 hb;refine Oks.step (fun k=>by simp only[spec_l1Cur_closing.l0];rfl) (Oks.neg (by omega) ?_);exact closing_j1 hc hl l h9 a s h0 (by omega) b (by omega)
 | succ d ih=>
  intro l x5 a s b h9 hx h5 h0 h1 hb;refine Oks.step (fun k=>by simp only[spec_l1Cur_closing.l0];rfl) (Oks.pos (by omega) ?_);rw[w64 (x:=x5+1) (by omega) (by omega)]
  have again:Oks (fun k=>(spec_l1Cur_cave.f k code a s).bind fun bt=>spec_l1Cur_closing.l0 k bt.1 (x5+1) code bt.2.1 bt.2.2) (KP b):=by
   refine Oks.bind (caveK hc hl a s h0 (by omega)) ?_;rintro⟨m,a2,s2⟩ ⟨g1,g2,g3⟩
   dsimp only at g1 g2 g3 ⊢
   exact ih m (x5+1) a2 s2 b g1 (by omega) (by omega) g2 (by omega) (by omega)
  refine Oks.bind (P:=fun r=>r=legsB l) ⟨_,l4Legs_ev l (by omega),rfl⟩ ?_;rintro r rfl;refine Oks.ite (fun h=>?_) (fun _=>again);have hv:=legsB_iff.mp h;refine Oks.bind (P:=fun r=>r=closeL l) ⟨_,closing_ev l hv.2 hv.1,rfl⟩ ?_;rintro r rfl;exact Oks.ite (fun _=>again) (fun _=>closing_j1 hc hl l h9 a s h0 (by omega) b (by omega))
theorem closingK(a s:Int)(h0:0≤a)(h1:a≤40000000):Oks (fun k=>spec_l1Cur_closing.f k code a s) (KP (a+4006)):=by
 unfold spec_l1Cur_closing.f;refine Oks.bind (caveK hc hl a s h0 (by omega)) ?_;rintro⟨m,a2,s2⟩ ⟨g1,g2,g3⟩
 dsimp only at g1 g2 g3 ⊢
 exact closing_l0 hc hl 3 m 0 a2 s2 _ g1 (by omega) (by omega) g2 (by omega) (by omega)
end Go.Proofs.YtmgkbhhnchnkcaaGreatDoor.Draw
namespace Go.Proofs.YtmgkbhhnchnkcaaGreatDoor.Draw
open Go Go.RowKit YtmgkbhhnchnkcaaGreatDoorW.PrintWords Plain A Net
variable {code:List Int} (hc:Bytes code) (hl:code.length≤65536)
include hc hl
theorem blund_j0(l:List S82)(h9:l.length≤9)(t:Bool)(ht:t=true→0<l.length)(a s:Int)(h0:0≤a)(h1:a≤50000000):Oks (fun k=>spec_l1Cur_blundered.j0 k l t code a s) (fun r=>r.1.length≤9∧0≤r.2.1∧r.2.1≤a+4):=by
 refine Oks.step (fun k=>by simp only[spec_l1Cur_blundered.j0];rfl) ?_;refine Oks.ite (fun c=>?_) (fun _=>Oks.now ⟨h9,qz53,qz53⟩);have hp:=ht c;refine Oks.bind (pickK hc hl a s _ h0 (by omega)) ?_;rintro⟨v,a2,s2⟩ ⟨e1,e2,e3,e4⟩
 dsimp only at e1 e2 e3 e4 ⊢
 have e2':=e2 (by omega);refine Oks.bind (pickK hc hl a2 s2 4 (by omega) (by omega)) ?_;rintro⟨f,a3,s3⟩ ⟨f1,f2,f3,f4⟩
 dsimp only at f1 f2 f3 f4 ⊢
 obtain⟨m,rfl⟩:=Int.eq_ofNat_of_zero_le e1;refine Oks.bindc (fix_eq l m (wrap64 (1+f)) (by omega) (by omega)) ?_;have hlen:(l.set m (fixX (leg l m) (wrap64 (1+f)))).length≤9:=by rw[List.length_set];exact h9
 refine Oks.bind (P:=fun _=>True) ⟨_,l4Legs_ev _ (by omega),trivial⟩ ?_;intro r _;exact Oks.ite (fun _=>Oks.now ⟨hlen,qz53,qz53⟩) (fun _=>Oks.now ⟨h9,qz53,qz53⟩)
theorem blundK(a s:Int)(h0:0≤a)(h1:a≤30000000):Oks (fun k=>spec_l1Cur_blundered.f k code a s) (fun r=>r.1.length≤9∧0≤r.2.1∧r.2.1≤a+5000):=by
 unfold spec_l1Cur_blundered.f;refine Oks.bind (closingK hc hl a s h0 (by omega)) ?_;rintro⟨l,i,a1,s1⟩ ⟨h2,h3,h4⟩
 dsimp only at h2 h3 h4 ⊢
 refine Oks.ite (fun c=>?_) (fun _=>?_)
 ·refine Oks.bind (oneK hc hl a1 s1 3 h3 (by omega)) ?_;rintro⟨o,a2,s2⟩ ⟨e3,e4⟩
  dsimp only at e3 e4 ⊢
  exact(blund_j0 hc hl l h2 _ (fun _=>by omega) a2 s2 (by omega) (by omega)).imp fun r h=>⟨h.1,h.2.1,by omega⟩
 · exact(blund_j0 hc hl l h2 false (by simp) a1 s1 h3 (by omega)).imp fun r h=>⟨h.1,h.2.1,by omega⟩
theorem drawStrain:Oks (fun k=>spec_DrawStrainOf.f k code) (fun r=>r.length≤9):=Oks.bind (blundK hc hl 0 0 (by omega) (by omega)) fun r h=>Oks.now h.1
theorem drawSuspect:Oks (fun k=>spec_DrawSuspectLeg.f k code) (fun r=>r.length≤9):=Oks.bind (drawStrain hc hl) fun r h=>Oks.now h
theorem drawWithout:Oks (fun k=>spec_DrawStrainWithout.f k code) (fun r=>r.1.length≤9):=by
 unfold spec_DrawStrainWithout.f;refine Oks.bind (blundK hc hl 0 0 (by omega) (by omega)) ?_;rintro⟨l,a1,s1⟩ ⟨h1,h2,h3⟩
 dsimp only at h1 h2 h3 ⊢
 refine Oks.bind (pickK hc hl a1 s1 _ h2 (by omega)) ?_;rintro⟨v,a2,s2⟩ ⟨_,_,e3,e4⟩
 dsimp only at e3 e4 ⊢
 refine Oks.bind (pickK hc hl a2 s2 9 (by omega) (by omega)) ?_;rintro⟨v2,a3,s3⟩ _;exact Oks.now h1
theorem drawCmp:Oks (fun k=>spec_DrawCompareStrains.f k code) (fun r=>r.1.length≤9∧r.2.length≤9):=by
 unfold spec_DrawCompareStrains.f;refine Oks.bind (blundK hc hl 0 0 (by omega) (by omega)) ?_;rintro⟨l,a1,s1⟩ ⟨h1,h2,h3⟩
 dsimp only at h1 h2 h3 ⊢
 have again:∀a s,0≤a→a≤20000000→Oks (fun k=>(spec_l1Cur_blundered.f k code a s).bind fun bt862=>(some (l,bt862.1))) (fun r=>r.1.length≤9∧r.2.length≤9):=fun a s h0 h4=>Oks.bind (blundK hc hl a s h0 (by omega)) fun r h=>Oks.now ⟨h1,h.1⟩
 refine Oks.ite (fun c=>?_) (fun _=>again a1 s1 h2 (by omega));refine Oks.bind (oneK hc hl a1 s1 2 h2 (by omega)) ?_;rintro⟨o,a2,s2⟩ ⟨e3,e4⟩
 dsimp only at e3 e4 ⊢
 refine Oks.ite (fun _=>?_) (fun _=>again a2 s2 (by omega) (by omega));have ew:wrap64 ((l.length:Int)-1)=(l.length:Int)-1:=w64 (by omega) (by omega);rw[ew];refine Oks.bindc rfl (Oks.pos (by omega) (Oks.pos (by omega) (Oks.bindc rfl (Oks.pos ?_ (Oks.now ⟨h1,?_⟩)))))
 · simp only[List.length_nil,List.length_take];omega
 · simp only[List.nil_append,List.length_take];omega
end Go.Proofs.YtmgkbhhnchnkcaaGreatDoor.Draw
namespace Go.Proofs.YtmgkbhhnchnkcaaGreatDoor.Det
abbrev Q3:=List (Int×Int×Int)
end Go.Proofs.YtmgkbhhnchnkcaaGreatDoor.Det
namespace Go.Proofs.YtmgkbhhnchnkcaaGreatDoor.Net
open Go.RowKit YtmgkbhhnchnkcaaGreatDoorW.PrintWords Plain A
open Det
open Conn (Conn)
open Tree (verts)
section
variable {ls:L}
def pd(ls:L)(y:Int→Int)(k:Int):Int:=y (leg ls k).f1-y (leg ls k).f0
theorem used_ends(hg:∀x∈ls,Good x){k:Int}(hk:k∈usedL ls):(leg ls k).f0∈verts 0 (RR ls)∧(leg ls k).f1∈verts 0 (RR ls):=by
 obtain⟨m,rfl,hm,hp⟩:=(mem_selTo _ _ _).mp hk;have hgood:=leg_good hg m hm;rw[Pq_eq,Int.toNat_of_nonneg hgood.1.1]at hp;have h0:=(mem_plL _ _).mp (of_decide_eq_true hp);exact⟨h0,((RR_ok hg).2 (m:Int) (by omega) (by omega)).mp h0⟩
theorem unk_at{s:Int}(h:s∈unkL ls):(unkL ls).getD ((unkL ls).idxOf s) 0=s:=by
 have hl:=List.idxOf_lt_length_iff.mpr h;rw[List.getD_eq_getElem?_getD,List.getElem?_eq_getElem hl];exact List.getElem_idxOf hl
theorem vAt_unk(hg:∀x∈ls,Good x)(y:Int→Int){s:Int}(hs:s∈verts 0 (RR ls)):vAt (fun r=>y ((unkL ls).getD r 0)-y 0) (fnd (unkL ls) s)=y s-y 0:=by
 by_cases c:s=0
 ·subst c;rw[fnd_neg (fun e=>((unk_iff hg 0).mp e).2 rfl)];unfold vAt;rw[if_neg (by omega)];omega
 ·have hu:s∈unkL ls:=(unk_iff hg s).mpr ⟨hs,c⟩;rw[(fnd_pos hu).1];unfold vAt;rw[if_pos (by omega),Int.toNat_natCast];show y ((unkL ls).getD ((unkL ls).idxOf s) 0)-y 0=_;rw[unk_at hu]
theorem pot(hn:ls.length≤12)(hg:∀x∈ls,Good x)(ax:Int)(y:Int→Int):tot (fun k=>nT ls ax k*pd ls y k) (usedL ls)=0:=by
 have e:tot (fun k=>nT ls ax k*pd ls y k) (usedL ls)=sumTo (unkL ls).length (fun r=>tot (fun k=>(y ((unkL ls).getD r 0)-y 0)*rgtD (fa ls k) (fb ls k) (nT ls ax k) r) (usedL ls)):=by
  rw[sumTo_tot];refine tot_congr (fun k hk=>?_);have hv:=used_ends hg hk;have h:=rgtD_mul (unkL ls).length (fun r=>y ((unkL ls).getD r 0)-y 0) (fa ls k) (fb ls k) (nT ls ax k) (fa_lt ls k) (fb_lt ls k);rw[h];have h1:vAt (fun r=>y ((unkL ls).getD r 0)-y 0) (fb ls k)=y (leg ls k).f1-y 0:=vAt_unk hg y hv.2;have h2:vAt (fun r=>y ((unkL ls).getD r 0)-y 0) (fa ls k)=y (leg ls k).f0-y 0:=vAt_unk hg y hv.1;rw[h1,h2];unfold pd
  congr 1
  omega
 rw[e];refine sumTo_zero (fun r hr=>?_);rw[tot_mul,balance hn hg ax r hr,Int.mul_zero]
def cosT(ls:L)(ax:Int)(s:Int):Int:=vAt (coM ls ax) (fnd (unkL ls) s)
theorem pot_min(hn:ls.length≤12)(hg:∀x∈ls,Good x)(ax:Int)(D:Int)(y:Int→Int):D*D*SA ls ax≤treesM ls*treesM ls*tot (fun k=>(D*meas ls ax k-pd ls y k)*(D*meas ls ax k-pd ls y k)) (usedL ls):=by
 have h:=pot hn hg ax (fun s=>D*cosT ls ax s-treesM ls*y s)
 have e:treesM ls*treesM ls*tot (fun k=>(D*meas ls ax k-pd ls y k)*(D*meas ls ax k-pd ls y k)) (usedL ls)=D*D*SA ls ax+(2*D*tot (fun k=>nT ls ax k*pd ls (fun s=>D*cosT ls ax s-treesM ls*y s) k) (usedL ls)+tot (fun k=>pd ls (fun s=>D*cosT ls ax s-treesM ls*y s) k*pd ls (fun s=>D*cosT ls ax s-treesM ls*y s) k) (usedL ls)):=by
  unfold SA;rw[←tot_mul,←tot_mul,←tot_mul,←tot_add,←tot_add];refine tot_congr (fun k _=>?_);have e1:nT ls ax k=treesM ls*meas ls ax k-(cosT ls ax (leg ls k).f1-cosT ls ax (leg ls k).f0):=rfl;rw[e1];unfold pd
  dsimp only
  generalize cosT ls ax (leg ls k).f1=a;generalize cosT ls ax (leg ls k).f0=b;generalize y (leg ls k).f1=c;generalize y (leg ls k).f0=d;generalize treesM ls=T;generalize meas ls ax k=m;have e2:T*(D*m-(c-d))=D*(T*m-(a-b))+(D*a-T*c-(D*b-T*d)):=by grind
  have e3:T*T*((D*m-(c-d))*(D*m-(c-d)))=(T*(D*m-(c-d)))*(T*(D*m-(c-d))):=by grind
  rw[e3,e2];generalize T*m-(a-b)=u;generalize D*a-T*c-(D*b-T*d)=v
  grind
 rw[e,h];have hp:=tot_nonneg (f:=fun k=>pd ls (fun s=>D*cosT ls ax s-treesM ls*y s) k*pd ls (fun s=>D*cosT ls ax s-treesM ls*y s) k) (l:=usedL ls) (fun k _=>sq_nonneg _);omega
theorem bridge_conn(hg:∀x∈ls,Good x)(i:Nat)(hi:i<ls.length):bridgeB ls i=false↔Conn (Bfs.RelU (ends ls) (useB i) ls.length) (ends ls i).1 (ends ls i).2:=by
 have hr:=ends_range hg i (by omega) (by omega);have hf:=Bfs.found_iff (ends ls) (useB i) (ends ls i).1 ⟨hr.1,hr.2.1⟩ (Good.range hg) (ends ls i).2;unfold bridgeB;rw[←hf];simp
theorem tot_sel(f:Int→Int)(p:Nat→Bool):∀n,tot f (selTo p n)=sumTo n (fun k=>if p k=true then f (k:Int) else 0)
 |0=>rfl
 |n+1=>by
  have ih:=tot_sel f p n;show _=sumTo n _+(if p n=true then f (n:Int) else 0);rw[←ih];by_cases c:p n=true
  ·rw[if_pos c,show selTo p (n+1)=selTo p n++[(n:Int)]from if_pos c];unfold tot;rw[List.map_append,List.sum_append];simp
  ·rw[if_neg c,show selTo p (n+1)=selTo p n from if_neg c];omega
theorem sumTo_less(f:Nat→Int)(i:Nat):∀n,i<n+1→sumTo (n+1) f=f i+sumTo n (fun j=>f (if j<i then j else j+1))
 |0,h=>by
  obtain rfl:i=0:=by omega
  show 0+f 0=f 0+0;omega
 |n+1,h=>by
  by_cases c:i=n+1
  ·subst c;show sumTo (n+1) f+f (n+1)=_;rw[sumTo_congr (n:=n+1) (g:=f) (f:=fun j=>f (if j<n+1 then j else j+1)) (fun j hj=>by rw[if_pos hj])];omega
  ·show sumTo (n+1) f+f (n+1)=f i+(sumTo n (fun j=>f (if j<i then j else j+1))+f (if n<i then n else n+1));rw[sumTo_less f i n (by omega),if_neg (by omega:¬n<i)];omega
theorem less_verts(hg:∀x∈ls,Good x)(i:Nat)(hi:i<ls.length)(hb:bridgeB ls i=false)(s:Int):s∈verts 0 (RR (less ls i))↔s∈verts 0 (RR ls):=by
 have ok:=RR_ok hg;have ok':=RR_ok (less_good hg i);rw[Grow.verts_iff (ends (less ls i)) ok'.1 ok'.2 s,Grow.verts_iff (ends ls) ok.1 ok.2 s];have hc:=(bridge_conn hg i hi).mp hb;have hs:∀a b,Bfs.RelU (ends ls) (useB i) ls.length a b→Bfs.RelU (ends ls) (useB i) ls.length b a:=fun a b ⟨j,h0,h1,hu,h2⟩=>⟨j,h0,h1,hu,h2.symm⟩
 have up:∀a b,Conn (Bfs.RelU (ends ls) (useB i) ls.length) a b→Conn (Grow.Rel (ends (less ls i)) (less ls i).length) a b:=fun a b h=>h.map (fun x y r=>Conn.Conn.one ((less_rel ls i hi x y).mpr r))
 constructor
 ·exact fun h=>h.map (fun x y r=>by
   obtain⟨j,h0,h1,hu,h2⟩:=(less_rel ls i hi x y).mp r
   exact Conn.Conn.one ⟨j,h0,h1,h2⟩)
 ·refine fun h=>h.map (fun x y ⟨j,h0,h1,h2⟩=>?_)
  by_cases c:j=(i:Int)
  ·subst c;rcases h2 with h2|h2
   ·have:=up _ _ hc;rw[h2]at this;exact this
   ·have:=up _ _ (hc.symm hs);rw[h2]at this;exact this
  · exact Conn.Conn.one ((less_rel ls i hi x y).mpr ⟨j,h0,h1,decide_eq_true c,h2⟩)
theorem tot_less(hg:∀x∈ls,Good x)(i:Nat)(hi:(i:Int)∈usedL ls)(hb:bridgeB ls i=false)(g:S82→Int):tot (fun k=>g (leg ls k)) (usedL ls)=g (leg ls (i:Int))+tot (fun k=>g (leg (less ls i) k)) (usedL (less ls i)):=by
 have hil:i<ls.length:=by have:=(usedL_range ls _ hi).2;omega
 have hll:=less_len ls i hil
 have e1:usedL ls=selTo (fun k=>decide ((leg ls (k:Int)).f0∈verts 0 (RR ls))) ((less ls i).length+1):=by
  unfold usedL plcL;rw[hll]
  have:∀n,n≤ls.length→selTo (fun k=>Pq (RR ls) (leg ls k).f0.toNat) n=selTo (fun k=>decide ((leg ls (k:Int)).f0∈verts 0 (RR ls))) n:=by
   intro n
   induction n with
   |zero=>intro _;rfl
   | succ n ih=>
    intro h;unfold selTo;rw[ih (by omega)];have hgood:=leg_good hg n (by omega)
    have e:Pq (RR ls) (leg ls (n:Int)).f0.toNat=decide ((leg ls (n:Int)).f0∈verts 0 (RR ls)):=by
     unfold Pq;rw[Int.toNat_of_nonneg hgood.1.1]
    rw[e]
  exact this _ (Nat.le_refl _)
 have e2:usedL (less ls i)=selTo (fun k=>decide ((leg (less ls i) (k:Int)).f0∈verts 0 (RR ls))) (less ls i).length:=by
  unfold usedL plcL
  have:∀n,n≤(less ls i).length→selTo (fun k=>Pq (RR (less ls i)) (leg (less ls i) k).f0.toNat) n=selTo (fun k=>decide ((leg (less ls i) (k:Int)).f0∈verts 0 (RR ls))) n:=by
   intro n
   induction n with
   |zero=>intro _;rfl
   | succ n ih=>
    intro h;unfold selTo;rw[ih (by omega)];have hgood:=leg_good (less_good hg i) n (by omega)
    have e:Pq (RR (less ls i)) (leg (less ls i) (n:Int)).f0.toNat=decide ((leg (less ls i) (n:Int)).f0∈verts 0 (RR ls)):=by
     unfold Pq;rw[Int.toNat_of_nonneg hgood.1.1,decide_eq_decide];exact less_verts hg i hil hb _
    rw[e]
  exact this _ (Nat.le_refl _)
 have hmem:=(used_ends hg hi).1;rw[e1,e2,tot_sel,tot_sel,sumTo_less _ i _ (by omega)];rw[if_pos (decide_eq_true hmem)]
 congr 1
 refine sumTo_congr (fun j hj=>?_);rw[less_leg ls i hil j];by_cases c:j<i
 · rw[if_pos c,if_pos c]
 · rw[if_neg c,if_neg c]
theorem SA_less(hn:ls.length≤12)(hg:∀x∈ls,Good x)(i:Nat)(hi:(i:Int)∈usedL ls)(hb:bridgeB ls i=false)(ax:Int):treesM ls*treesM ls*SA (less ls i) ax≤treesM (less ls i)*treesM (less ls i)*SA ls ax:=by
 have hil:i<ls.length:=by have:=(usedL_range ls _ hi).2;omega
 have hll:=less_len ls i hil;have h:=pot_min (ls:=less ls i) (by omega) (less_good hg i) ax (treesM ls) (cosT ls ax);refine Int.le_trans h (Int.mul_le_mul_of_nonneg_left ?_ (sq_nonneg _));have e:=tot_less hg i hi hb (fun x=>(treesM ls*onM (shift x) ax-(cosT ls ax x.f1-cosT ls ax x.f0))*(treesM ls*onM (shift x) ax-(cosT ls ax x.f1-cosT ls ax x.f0)));have e1:SA ls ax=tot (fun k=>(treesM ls*onM (shift (leg ls k)) ax-(cosT ls ax (leg ls k).f1-cosT ls ax (leg ls k).f0))*(treesM ls*onM (shift (leg ls k)) ax-(cosT ls ax (leg ls k).f1-cosT ls ax (leg ls k).f0))) (usedL ls):=rfl;have e2:tot (fun k=>(treesM ls*meas (less ls i) ax k-pd (less ls i) (cosT ls ax) k)*(treesM ls*meas (less ls i) ax k-pd (less ls i) (cosT ls ax) k)) (usedL (less ls i))=tot (fun k=>(treesM ls*onM (shift (leg (less ls i) k)) ax-(cosT ls ax (leg (less ls i) k).f1-cosT ls ax (leg (less ls i) k).f0))*(treesM ls*onM (shift (leg (less ls i) k)) ax-(cosT ls ax (leg (less ls i) k).f1-cosT ls ax (leg (less ls i) k).f0))) (usedL (less ls i)):=rfl;rw[e1,e2,e];have:=sq_nonneg (treesM ls*onM (shift (leg ls (i:Int))) ax-(cosT ls ax (leg ls (i:Int)).f1-cosT ls ax (leg ls (i:Int)).f0));omega
theorem AM_less(hn:ls.length≤12)(hg:∀x∈ls,Good x)(i:Nat)(hi:(i:Int)∈usedL ls)(hb:bridgeB ls i=false)(ax:Int):AM (less ls i) ax*treesM ls≤AM ls ax*treesM (less ls i):=by
 have hil:i<ls.length:=by have:=(usedL_range ls _ hi).2;omega
 have hll:=less_len ls i hil;have h:=SA_less hn hg i hi hb ax;rw[SA_AM hn hg,SA_AM (by omega) (less_good hg i)]at h;have h1:=trees_pos hn hg;have h2:=trees_pos (ls:=less ls i) (by omega) (less_good hg i);have hp:0<treesM ls*treesM (less ls i):=Int.mul_pos (by omega) (by omega);refine Int.le_of_mul_le_mul_left (a:=treesM ls*treesM (less ls i)) ?_ hp;generalize treesM ls=T at *;generalize treesM (less ls i)=U at *;generalize AM ls ax=A at *;generalize AM (less ls i) ax=B at *;have e1:T*T*(U*B)=T*U*(B*T):=by grind
 have e2:U*U*(T*A)=T*U*(A*U):=by grind
 rw[←e1,←e2];exact h
theorem sN_less(hn:ls.length≤12)(hg:∀x∈ls,Good x)(i:Nat)(hi:(i:Int)∈usedL ls)(hb:bridgeB ls i=false):sN (less ls i)*treesM ls≤sN ls*treesM (less ls i):=by
 have h0:=AM_less hn hg i hi hb 0;have h1:=AM_less hn hg i hi hb 1;have h2:=AM_less hn hg i hi hb 2;unfold sN;rw[Int.add_mul,Int.add_mul,Int.add_mul,Int.add_mul];omega
end
end Go.Proofs.YtmgkbhhnchnkcaaGreatDoor.Net
namespace Go.Proofs.YtmgkbhhnchnkcaaGreatDoor.Net
open Go.RowKit YtmgkbhhnchnkcaaGreatDoorW.PrintWords Plain A Frac
theorem sCmp_cases(x y:L):(sCmp x y= -1∧sCmp x y<0)∨(sCmp x y≠ -1∧¬sCmp x y<0):=by
 unfold sCmp cmp;split
 · exact Or.inl ⟨rfl,by decide⟩
 ·refine Or.inr ?_;split<;>exact⟨by decide,by decide⟩
theorem cmpS_ev{x y:L}(hx:∀z∈x,Good z)(nx:x.length≤12)(hy:∀z∈y,Good z)(ny:y.length≤12):Ev (fun k=>spec_l10Compare.f k (sNum x) (sDen x) (sNum y) (sDen y)) (sCmp x y):=by
 have h1:=s_bound nx hx;have h2:=s_bound ny hy;unfold sCmp;exact compare_ev (by omega) (by omega) (by omega) (by omega) (by unfold big;omega) (by unfold big;omega) (by unfold big;omega) (by unfold big;omega)
end Go.Proofs.YtmgkbhhnchnkcaaGreatDoor.Net
namespace Go.Proofs.YtmgkbhhnchnkcaaGreatDoor.Net
open Go.RowKit YtmgkbhhnchnkcaaGreatDoorW.PrintWords Plain
open Frac
def slt(x y:L):Prop:=sN x*treesM y<sN y*treesM x
def sle(x y:L):Prop:=sN x*treesM y≤sN y*treesM x
structure Fit(x:L):Prop where
 len:x.length≤12
 good:∀z∈x,Good z
theorem frac_lt{a d N T b e M U:Int}(hd:0<d)(he:0<e)(hT:0<T)(hU:0<U)(h1:a*T=N*d)(h2:b*U=M*e):a*e<b*d↔N*U<M*T:=by
 have p1:0<T*U:=Int.mul_pos hT hU;have p2:0<d*e:=Int.mul_pos hd he
 have e1:a*e*(T*U)=N*U*(d*e):=by
  have:a*e*(T*U)=(a*T)*(e*U):=by grind
  rw[this,h1];grind
 have e2:b*d*(T*U)=M*T*(d*e):=by
  have:b*d*(T*U)=(b*U)*(d*T):=by grind
  rw[this,h2];grind
 constructor
 ·intro h;refine Int.lt_of_mul_lt_mul_right (a:=d*e) ?_ (Int.le_of_lt p2);rw[←e1,←e2];exact Int.mul_lt_mul_of_pos_right h p1
 ·intro h;refine Int.lt_of_mul_lt_mul_right (a:=T*U) ?_ (Int.le_of_lt p1);rw[e1,e2];exact Int.mul_lt_mul_of_pos_right h p2
theorem frac_slt{x y:L}(hx:Fit x)(hy:Fit y):sNum x*sDen y<sNum y*sDen x↔slt x y:=by
 have r1:=sRed hx.len hx.good;have r2:=sRed hy.len hy.good;have t1:=trees_pos hx.len hx.good;have t2:=trees_pos hy.len hy.good;exact frac_lt r1.1 r2.1 (by omega) (by omega) r1.2.2 r2.2.2
theorem sCmp_lt{x y:L}(hx:Fit x)(hy:Fit y):sCmp x y= -1↔slt x y:=by
 rw[←frac_slt hx hy];unfold sCmp cmp;by_cases c:sNum x*sDen y<sNum y*sDen x
 · rw[if_pos c];exact⟨fun _=>c,fun _=>rfl⟩
 ·rw[if_neg c];refine⟨fun h=>?_,fun h=>absurd h c⟩;split at h<;>exact absurd h (by decide)
theorem sCmp_gt{x y:L}(hx:Fit x)(hy:Fit y):0<sCmp x y↔slt y x:=by
 rw[←frac_slt hy hx];unfold sCmp cmp;by_cases c:sNum x*sDen y<sNum y*sDen x
 ·rw[if_pos c];exact⟨fun h=>absurd h (by decide),fun h=>by omega⟩
 ·rw[if_neg c];by_cases d:sNum y*sDen x<sNum x*sDen y
  ·first|rw[if_pos d]|rw[if_pos (show _>_ from d)]
   exact⟨fun _=>d,fun _=>by decide⟩
  ·first|rw[if_neg d]|rw[if_neg (show¬(_>_)from d)]
   exact⟨fun h=>absurd h (by decide),fun h=>absurd h d⟩
theorem sle_refl(x:L):sle x x:=Int.le_refl _
theorem not_slt{x y:L}:¬slt x y↔sle y x:=by unfold slt sle;omega
theorem slt_sle{x y:L}(h:slt x y):sle x y:=Int.le_of_lt h
theorem sle_trans{x y z:L}(hx:Fit x)(hy:Fit y)(hz:Fit z)(h:sle x y)(k:sle y z):sle x z:=by
 have t1:=trees_pos hx.len hx.good;have t2:=trees_pos hy.len hy.good;have t3:=trees_pos hz.len hz.good;unfold sle at *;generalize treesM x=a at *;generalize treesM y=b at *;generalize treesM z=c at *;generalize sN x=p at *;generalize sN y=q at *;generalize sN z=r at *;refine Int.le_of_mul_le_mul_right (a:=b) ?_ (by omega);have h1:p*b*c≤q*a*c:=Int.mul_le_mul_of_nonneg_right h (by omega);have h2:q*c*a≤r*b*a:=Int.mul_le_mul_of_nonneg_right k (by omega);have e1:p*c*b=p*b*c:=by grind
 have e2:r*a*b=r*b*a:=by grind
 have e3:q*a*c=q*c*a:=by grind
 omega
theorem Fit.less{x:L}(h:Fit x)(i:Nat)(hi:i<x.length):Fit (less x i):=⟨(by have:=less_len x i hi;have:=h.len;omega),less_good h.good i⟩
theorem sle_less{x:L}(h:Fit x)(i:Nat)(hi:(i:Int)∈usedL x)(hb:bridgeB x i=false):sle (less x i) x:=sN_less h.len h.good i hi hb
theorem sN_zero{x:L}(h:∀k∈usedL x,∀ax,nT x ax k=0):sN x=0:=by
 have:∀ax,AM x ax=0:=fun ax=>by
  unfold AM;rw[tot_congr (g:=fun _=>0) (fun k hk=>by rw[h k hk,Int.zero_mul]),tot_const,Int.zero_mul]
 unfold sN;rw[this,this,this];rfl
end Go.Proofs.YtmgkbhhnchnkcaaGreatDoor.Net
namespace Go.Proofs.YtmgkbhhnchnkcaaGreatDoor.Net
open Go.RowKit YtmgkbhhnchnkcaaGreatDoorW.PrintWords Plain A
structure SusInv(ls:L)(j:Nat):Prop where
 least:∀i,i<j→bridgeB ls (rd (usedL ls) (i:Int))=false→0≤(susTo ls j).b∧sle (susTo ls j).y (less ls (rd (usedL ls) (i:Int)).toNat)
 what:0≤(susTo ls j).b→(susTo ls j).y=less ls (susTo ls j).b.toNat∧(susTo ls j).b∈usedL ls∧bridgeB ls (susTo ls j).b=false
theorem sus_inv{ls:L}(h:Fit ls):∀j,j≤(usedL ls).length→SusInv ls j
 |0,_=>⟨fun i hi=>by omega,fun hb=>absurd hb (show¬(0:Int)≤ -1 by decide)⟩
 | j +1,hj=>by
  have ih:=sus_inv h j (by omega);have hm:rd (usedL ls) (j:Int)∈usedL ls:=by rw[rd_get _ j (by omega)];exact List.getElem_mem (by omega)
  have hr:=usedL_range ls _ hm;have hstep:susTo ls (j+1)=susS ls (susTo ls j) (rd (usedL ls) (j:Int)):=rfl
  have fitl:∀k:Int,k∈usedL ls→Fit (less ls k.toNat):=fun k hk=>by
   have:=usedL_range ls _ hk;exact h.less _ (by omega)
  have memi:∀i:Nat,i<j+1→rd (usedL ls) (i:Int)∈usedL ls:=fun i hi=>by rw[rd_get _ i (by omega)];exact List.getElem_mem (by omega)
  by_cases cb:bridgeB ls (rd (usedL ls) (j:Int))=true
  ·have e:susTo ls (j+1)=susTo ls j:=by rw[hstep];unfold susS;rw[if_pos cb]
   rw[show SusInv ls (j+1)↔SusInv ls (j+1)from Iff.rfl];refine⟨fun i hi hb=>?_,fun hb=>?_⟩
   ·rw[e];by_cases c:i=j
    · subst c;rw[cb]at hb;cases hb
    · exact ih.least i (by omega) hb
   ·rw[e]at hb ⊢;exact ih.what hb
  ·have cb':bridgeB ls (rd (usedL ls) (j:Int))=false:=by simpa using cb
   by_cases c2:(susTo ls j).b<0∨sCmp (less ls (rd (usedL ls) (j:Int)).toNat) (susTo ls j).y= -1
   ·have e:susTo ls (j+1)=⟨rd (usedL ls) (j:Int),less ls (rd (usedL ls) (j:Int)).toNat⟩:=by rw[hstep];unfold susS;rw[if_neg cb,if_pos c2]
    refine⟨fun i hi hb=>?_,fun hb=>?_⟩
    ·rw[e];refine⟨hr.1,?_⟩;by_cases c:i=j
     · subst c;exact sle_refl _
     ·have hi':=ih.least i (by omega) hb;have hc2:=c2.resolve_left (by omega);have hw:=ih.what hi'.1;have fy:Fit (susTo ls j).y:=by rw[hw.1];exact fitl _ hw.2.1
      have hlt:=(sCmp_lt (fitl _ hm) fy).mp hc2;exact sle_trans (fitl _ hm) fy (fitl _ (memi i (by omega))) (slt_sle hlt) hi'.2
    ·rw[e];exact⟨rfl,hm,cb'⟩
   ·have e:susTo ls (j+1)=susTo ls j:=by rw[hstep];unfold susS;rw[if_neg cb,if_neg c2]
    have hb0:0≤(susTo ls j).b:=by
     rcases Int.lt_or_le (susTo ls j).b 0 with q|q
     · exact absurd (Or.inl q) c2
     · exact q
    have hw:=ih.what hb0;have fy:Fit (susTo ls j).y:=by rw[hw.1];exact fitl _ hw.2.1
    refine⟨fun i hi hb=>?_,fun hb=>?_⟩
    ·rw[e];by_cases c:i=j
     ·subst c;refine⟨hb0,not_slt.mp (fun q=>c2 (Or.inr ((sCmp_lt (fitl _ hm) fy).mpr q)))⟩
     · exact ih.least i (by omega) hb
    ·rw[e];exact hw
theorem suspect_least{ls:L}(h:Fit ls){k:Int}(hk:k∈usedL ls)(hb:bridgeB ls k=false):0≤(susTo ls (usedL ls).length).b∧(susTo ls (usedL ls).length).b∈usedL ls∧sle (less ls (susTo ls (usedL ls).length).b.toNat) (less ls k.toNat):=by
 obtain⟨i,hi,e⟩:=List.mem_iff_getElem.mp hk;have hv:=sus_inv h (usedL ls).length (Nat.le_refl _);have er:rd (usedL ls) (i:Int)=k:=by rw[rd_get _ i hi,e]
 have h1:=hv.least i hi (by rw[er];exact hb);have h2:=hv.what h1.1;rw[er,h2.1]at h1;exact⟨h1.1,h2.2.1,h1.2⟩
end Go.Proofs.YtmgkbhhnchnkcaaGreatDoor.Net
namespace Go.Proofs.YtmgkbhhnchnkcaaGreatDoor.Net
open Go.RowKit YtmgkbhhnchnkcaaGreatDoorW.PrintWords YtmgkbhhnchnkcaaGreatDoorW.PrintLast YtmgkbhhnchnkcaaGreatDoorW.PrintMore A Plain
open Tree (verts legs W)
open Dfs (dfs try_)
open Grow (Q sweep grow)
section
variable (ls:L) (hg:∀x∈ls,Good x) (tree:List Int) (ht:∀i∈tree,0≤i∧i<(ls.length:Int)) (hl:tree.length≤1000) (dst:Int)
include hg ht hl
end
theorem mem_closeTo(ls:L)(q:Q):∀(n:Nat) (i:Int),i∈closeTo ls q n↔∃k:Nat,i=k∧k<n∧Pq q (leg ls k).f0.toNat=true∧Bq q k=false
 |0,i=>by simp[closeTo]
 | n+1,i=>by
  have ih:=mem_closeTo ls q n i;unfold closeTo;split
  ·rename_i c
   rw[List.mem_append,ih,List.mem_singleton]
   constructor
   ·rintro(⟨k,h1,h2,h3⟩|rfl)
    · exact⟨k,h1,by omega,h3⟩
    · exact⟨n,rfl,by omega,c⟩
   ·rintro⟨k,h1,h2,h3⟩;by_cases e:k=n
    · exact Or.inr (by rw[h1,e])
    · exact Or.inl ⟨k,h1,by omega,h3⟩
  ·rename_i c
   rw[ih]
   constructor
   ·rintro⟨k,h1,h2,h3⟩;exact⟨k,h1,by omega,h3⟩
   ·rintro⟨k,h1,h2,h3⟩;by_cases e:k=n
    · exact absurd (e▸h3) c
    · exact⟨k,h1,by omega,h3⟩
theorem mem_closeL{ls:L}(hg:∀x∈ls,Good x){i:Int}(h:i∈closeL ls):0≤i∧i<(ls.length:Int)∧(ends ls i).1∈verts 0 (RR ls)∧(ends ls i).2∈verts 0 (RR ls)∧i∉legs (RR ls):=by
 obtain⟨k,rfl,h1,h2,h3⟩:=(mem_closeTo ls (RR ls) ls.length i).mp h;have hk:=(leg_good hg k h1).1.1
 have hv:(ends ls k).1∈verts 0 (RR ls):=by
  have:=of_decide_eq_true h2
  rwa [Int.toNat_of_nonneg hk]at this
 exact⟨by omega,by omega,hv,((RR_ok hg).2 k (by omega) (by omega)).mp hv,of_decide_eq_false h3⟩
end Go.Proofs.YtmgkbhhnchnkcaaGreatDoor.Net
namespace Go.Proofs.YtmgkbhhnchnkcaaGreatDoor.Net
open Go.RowKit YtmgkbhhnchnkcaaGreatDoorW.PrintWords Plain
open Tree (verts legs W)
theorem closeL_iff{ls:L}(hg:∀x∈ls,Good x)(i:Int):i∈closeL ls↔0≤i∧i<(ls.length:Int)∧(ends ls i).1∈verts 0 (RR ls)∧i∉legs (RR ls):=by
 constructor
 ·intro h;have:=mem_closeL hg h;exact⟨this.1,this.2.1,this.2.2.1,this.2.2.2.2⟩
 ·rintro⟨h0,h1,h2,h3⟩;obtain⟨k,rfl⟩:=Int.eq_ofNat_of_zero_le h0;refine(mem_closeTo ls (RR ls) ls.length _).mpr ⟨k,rfl,Int.ofNat_lt.mp h1,?_,?_⟩
  ·have hx:=leg_good hg k (Int.ofNat_lt.mp h1);rw[Pq_eq,Int.toNat_of_nonneg hx.1.1];exact decide_eq_true ((mem_plL _ _).mpr h2)
  ·rw[Bq_eq];exact decide_eq_false (fun h=>h3 ((mem_trL _ _).mp h))
end Go.Proofs.YtmgkbhhnchnkcaaGreatDoor.Net
namespace Go.Proofs.YtmgkbhhnchnkcaaGreatDoor.Net
open Go.RowKit YtmgkbhhnchnkcaaGreatDoorW.PrintWords Plain
open Det
open Conn (Conn)
open Tree (verts legs)
section
variable {ls:L}
theorem used_tree(hg:∀x∈ls,Good x)(h:closeL ls=[])(k:Int):k∈usedL ls↔k∈legs (RR ls):=by
 constructor
 ·intro hk;have hr:=usedL_range ls k hk;have he:=used_ends hg hk;rcases Classical.em (k∈legs (RR ls))with c|c
  · exact c
  ·have:k∈closeL ls:=(closeL_iff hg k).mpr ⟨hr.1,hr.2,he.1,c⟩;rw[h]at this;cases this
 ·intro hk;obtain⟨x,hx,e⟩:=List.mem_map.mp hk;rw[←e];exact(used_of hg hx).1
theorem grow_pot(hg:∀x∈ls,Good x):∀q:Q3,(∀x∈q,x∈RR ls)→Tree.Tr (0:Int) q→∀c:Int→Int,∃y:Int→Int,∀x∈q,pd ls y x.1=c x.1
 |[],_,_,c=>⟨fun _=>0,fun x hx=>by cases hx⟩
 | (k,u,t)::q,hs,ht,c=>by
  cases ht with
  | cons h1 h2 h3 h4=>
   obtain⟨y,hy⟩:=grow_pot hg q (fun x hx=>hs x (List.mem_cons_of_mem _ hx)) h1 c;have he:=(used_of hg (hs _ List.mem_cons_self)).2;simp only at he;have hut:u≠t:=fun e=>h3 (e▸h2)
   have hold:∀z:Int,∀x∈q,pd ls (fun s=>if s=t then z else y s) x.1=c x.1:=fun z x hx=>by
    have hj:Tree.Joins q x.1 x.2.1 x.2.2:=Or.inl hx;have hv:=Tree.joins_verts h1 hj;have n1:x.2.1≠t:=fun e=>h3 (e▸hv.1)
    have n2:x.2.2≠t:=fun e=>h3 (e▸hv.2.1)
    have hx2:=(used_of hg (hs x (List.mem_cons_of_mem _ hx))).2;rw[←hy x hx];unfold pd
    dsimp only
    rcases hx2 with e|e
    · rw[show(leg ls x.1).f0=x.2.1 from congrArg Prod.fst e,show(leg ls x.1).f1=x.2.2 from congrArg Prod.snd e,if_neg n1,if_neg n2]
    · rw[show(leg ls x.1).f0=x.2.2 from congrArg Prod.fst e,show(leg ls x.1).f1=x.2.1 from congrArg Prod.snd e,if_neg n1,if_neg n2]
   rcases he with e|e
   ·have e1:(leg ls k).f0=u:=congrArg Prod.fst e;have e2:(leg ls k).f1=t:=congrArg Prod.snd e;refine⟨fun s=>if s=t then y u+c k else y s,fun x hx=>?_⟩;rcases List.mem_cons.mp hx with rfl|hx
    ·unfold pd;simp only;rw[e1,e2,if_pos rfl,if_neg hut];omega
    · exact hold _ x hx
   ·have e1:(leg ls k).f0=t:=congrArg Prod.fst e;have e2:(leg ls k).f1=u:=congrArg Prod.snd e;refine⟨fun s=>if s=t then y u-c k else y s,fun x hx=>?_⟩;rcases List.mem_cons.mp hx with rfl|hx
    ·unfold pd;simp only;rw[e1,e2,if_pos rfl,if_neg hut];omega
    · exact hold _ x hx
theorem none_nT(hn:ls.length≤12)(hg:∀x∈ls,Good x)(h:closeL ls=[])(ax:Int):∀k∈usedL ls,nT ls ax k=0:=by
 obtain⟨y,hy⟩:=grow_pot hg (RR ls) (fun _ h=>h) (RR_ok hg).1.tr (fun k=>nT ls ax k);have hp:=pot hn hg ax y
 have hsq:tot (fun k=>nT ls ax k*nT ls ax k) (usedL ls)=0:=by
  rw[←hp];refine tot_congr (fun k hk=>?_);obtain⟨x,hx,e⟩:=List.mem_map.mp ((used_tree hg h k).mp hk);rw[←e,hy x hx]
 intro k hk;have h1:=tot_one (f:=fun k=>nT ls ax k*nT ls ax k) (l:=usedL ls) (fun k _=>sq_nonneg _) hk;have h2:=sq_nonneg (nT ls ax k);have h3:nT ls ax k*nT ls ax k=0:=by omega
 rcases Int.mul_eq_zero.mp h3 with e|e<;>exact e
end
end Go.Proofs.YtmgkbhhnchnkcaaGreatDoor.Net
namespace Go.Proofs.YtmgkbhhnchnkcaaGreatDoor.Net
open Go.RowKit YtmgkbhhnchnkcaaGreatDoorW.PrintWords Plain A
theorem specRest_eq(x:S82)(h:Good x)(axis:Int)(h0:0≤axis)(h2:axis≤2)(cs:List Int)(h8:cs.length=8)(den:Int):spec_l9Rest.f x.f0 x.f1 x.f2 x.f3 x.f4 axis cs den=some (resM x axis cs den):=by
 unfold spec_l9Rest.f;rw[measure_eq x h axis h0 h2,Option.bind_some];obtain⟨⟨a0,a8⟩,⟨d0,d8⟩,_⟩:=h;rw[if_pos (by omega),if_pos (by omega),if_pos (by omega),if_pos (by omega)];rfl
theorem specRest{ls:L}(hn:ls.length≤12)(hg:∀x∈ls,Good x)(ax:Int)(h0:0≤ax)(h2:ax≤2){i:Int}(hi:i∈usedL ls):spec_l9Rest.f (rd_T82 ls i).f0 (rd_T82 ls i).f1 (rd_T82 ls i).f2 (rd_T82 ls i).f3 (rd_T82 ls i).f4 ax (coL ls ax) (treesM ls)=some (nT ls ax i):=by
 have hr:=usedL_range ls i hi;obtain⟨m,rfl⟩:=Int.eq_ofNat_of_zero_le hr.1;have hx:Good (leg ls (m:Int)):=hg _ (leg_mem (by omega));have h:=specRest_eq (leg ls (m:Int)) hx ax h0 h2 (coL ls ax) (coL_len ls ax) (treesM ls);rw[res_all hn hg ax hi]at h;exact h
theorem squares_loop{ls:L}(hn:ls.length≤12)(hg:∀x∈ls,Good x)(ax:Int)(h0:0≤ax)(h2:ax≤2):∀(d j:Nat),j+d=(usedL ls).length →
  Ev (fun k=>spec_l9Squares.l0 k ls ax (coL ls ax) (treesM ls) (sqTo (resL ls ax) j) (usedL ls) (j:Int)) (redN (SA ls ax) (treesM ls*treesM ls),redD (SA ls ax) (treesM ls*treesM ls)):=by
 have hul:=usedL_len ls;have hrl:(resL ls ax).length=(usedL ls).length:=by unfold resL;rw[List.length_map]
 intro d
 induction d with
 |zero=>
  intro j hj;have ht1:=trees_pos hn hg;have ht2:=trees_le hn hg;have hs:=SA_bound hn hg ax;have hsq:treesM ls*treesM ls≤6561*6561:=Int.mul_le_mul ht2 ht2 (by omega) (by omega);have hsp:0<treesM ls*treesM ls:=Int.mul_pos (by omega) (by omega);have e:sqTo (resL ls ax) j=SA ls ax:=by rw[←sqTo_all hn hg ax,hrl,show j=(usedL ls).length by omega]
  rw[e];refine Ev.step (f:=fun k=>(spec_l9Reduce.f k (SA ls ax) (wrap64 (treesM ls*treesM ls))).bind fun bt=>some (bt.1,bt.2)) (fun k=>?_) ?_
  ·simp only[spec_l9Squares.l0];rw[if_neg (by omega)]
  ·rw[w64 (by omega) (by omega)];exact Ev.bind (l9Reduce_ev (SA ls ax) (treesM ls*treesM ls) hsp (by omega) (by omega) (by omega)) (Ev.now _)
 | succ d ih=>
  intro j hj;have hlt:j<(usedL ls).length:=by omega
  have h:=ih (j+1) (by omega);have hm:rd (usedL ls) (j:Int)∈usedL ls:=by rw[rd_get _ j hlt];exact List.getElem_mem hlt
  have hr:=usedL_range ls _ hm;have hs:=specRest hn hg ax h0 h2 hm
  have e:sqTo (resL ls ax) (j+1)=wrap64 (sqTo (resL ls ax) j+wrap64 (nT ls ax (rd (usedL ls) (j:Int))*nT ls ax (rd (usedL ls) (j:Int)))):=by
   rw[sqTo_step _ j (by omega)]
   have e2:rd (resL ls ax) (j:Int)=nT ls ax (rd (usedL ls) (j:Int)):=by
    rw[rd_get _ j (by omega),rd_get _ j hlt];unfold resL;rw[List.getElem_map]
   rw[e2]
  refine Ev.step (fun k=>?_) h;simp only[spec_l9Squares.l0];rw[if_pos (by omega),if_pos (by omega),if_pos hr.1,if_pos hr.2,hs,Option.bind_some,e,w64 (x:=(j:Int)+1) (by omega) (by omega)];rfl
theorem l9Squares_ev{ls:L}(hv:legsB ls=true)(ax:Int)(h0:0≤ax)(h2:ax≤2):Ev (fun k=>spec_l9Squares.f k ls ax) (redN (SA ls ax) (treesM ls*treesM ls),redD (SA ls ax) (treesM ls*treesM ls)):=by
 have h':=legsB_iff.mp hv;have ht:spec_l9Trees.f ls=some (treesM ls):=by unfold spec_l9Trees.f;rw[if_pos hv]
 have ha:spec_l9Adjust.f ls ax=some (coL ls ax):=by unfold spec_l9Adjust.f;rw[if_pos ⟨hv,h0,h2⟩]
 exact Ev.bindc ha (Ev.bindc ht (Ev.bind (l9Legs_ev h'.2 h'.1) (squares_loop h'.2 h'.1 ax h0 h2 (usedL ls).length 0 (by omega))))
end Go.Proofs.YtmgkbhhnchnkcaaGreatDoor.Net
namespace Go.Proofs.YtmgkbhhnchnkcaaGreatDoor.Net
open Go.RowKit YtmgkbhhnchnkcaaGreatDoorW.PrintWords Plain A Frac
theorem common_ev(a b:Int)(ha:0≤a)(hb:0<b):Ev (fun k=>spec_l10Common.f k a b) (Int.gcd a b:Int):=by
 obtain⟨z,hz,hs,K,hK⟩:=gcd_loop (g:=spec_l10Common.l0) (fin:=fun a=>a) (fun k a=>by
  unfold spec_l10Common.l0;rw[if_pos rfl]) (fun k a b hb=>by
  conv=>lhs;unfold spec_l10Common.l0
  rw[if_neg hb]) (b.natAbs+1) a b (by omega)
 have h0:=hs ha (by omega);rw[show((Int.gcd a b:Nat):Int)=z by omega];exact⟨K,fun k hk=>hK k hk⟩
theorem strain_step{ls:L}(hv:legsB ls=true)(ax:Int)(h0:0≤ax)(h2:ax≤2){num den N:Int}(hR:Red num den N (treesM ls))(hN:0≤N)(hN2:N≤59049000000):
  ∃num' den',Red num' den' (N+AM ls ax) (treesM ls)∧∀v,Ev (fun k=>spec_l10Strain.l0 k ls num' den' (ax+1)) v→Ev (fun k=>spec_l10Strain.l0 k ls num den ax) v:=by
 have h':=legsB_iff.mp hv;have ht:=trees_pos h'.2 h'.1;have ht2:=trees_le h'.2 h'.1;have hsp:0<treesM ls*treesM ls:=Int.mul_pos (by omega) (by omega);have hq:=squares_red h'.2 h'.1 (red_red (n:=SA ls ax) hsp);have hsq:=l9Squares_ev hv ax h0 h2;generalize redN (SA ls ax) (treesM ls*treesM ls)=a at *;generalize redD (SA ls ax) (treesM ls*treesM ls)=b at *;have hA:=AM_bound h'.2 h'.1 ax;have hb1:=Red.le (by omega) hA.1 hq;have hd1:=Red.le (by omega) hN hR;have hd:=hR.1;have hb:=hq.1;have hg:=gcd_small (n:=den) hb (by omega);have hcm:=common_ev den b (by omega) hb;generalize hgg:Int.gcd den b=g at *;have e1:den.tdiv (g:Int)*(g:Int)=den:=Int.tdiv_mul_cancel (by rw[←hgg];exact Int.gcd_dvd_left ..);have e2:b.tdiv (g:Int)*(g:Int)=b:=Int.tdiv_mul_cancel (by rw[←hgg];exact Int.gcd_dvd_right ..);have hsum:=Red.sum hd hb (g:=(g:Int)) (by omega) hR.2.2 hq.2.2 e1 e2;have q1:=tdiv_small den g (B:=6561) (by omega) (by omega);have q2:=tdiv_small b g (B:=6561) (by omega) (by omega);have p1:0≤den.tdiv (g:Int):=Int.tdiv_nonneg (by omega) (by omega);have p2:0≤b.tdiv (g:Int):=Int.tdiv_nonneg (by omega) (by omega);have w1:=wtdiv den g (by omega) (by omega);have w2:=wtdiv b g (by omega) (by omega)
 have hdp:0<den.tdiv (g:Int):=by
  rcases Int.lt_or_le 0 (den.tdiv (g:Int))with c|c
  · exact c
  ·exfalso
   rw[show den.tdiv (g:Int)=0 by omega]at e1;omega
 generalize hu:den.tdiv (g:Int)=u at *;generalize htt:b.tdiv (g:Int)=t at *;have m1:num*t≤59049000000*6561:=Int.mul_le_mul (by omega) (by omega) (by omega) (by omega);have m2:a*u≤59049000000*6561:=Int.mul_le_mul (by omega) (by omega) (by omega) (by omega);have m3:u*b≤6561*6561:=Int.mul_le_mul (by omega) (by omega) (by omega) (by omega);have n1:0≤num*t:=Int.mul_nonneg (by omega) (by omega);have n2:0≤a*u:=Int.mul_nonneg (by omega) (by omega);have n3:0<u*b:=Int.mul_pos hdp hb;have x1:wrap64 (num*t)=num*t:=w64 (by omega) (by omega);have x2:wrap64 (a*u)=a*u:=w64 (by omega) (by omega);have x3:wrap64 (u*b)=u*b:=w64 (by omega) (by omega);have x4:wrap64 (num*t+a*u)=num*t+a*u:=w64 (by omega) (by omega);have hred:=l9Reduce_ev (num*t+a*u) (u*b) n3 (by omega) (by omega) (by omega);have hR2:=Red.change (T:=treesM ls) (N:=N+AM ls ax) n3 (red_red (n:=num*t+a*u) n3) hsum;refine⟨_,_,hR2,fun v hv2=>?_⟩;have hax:wrap64 (ax+1)=ax+1:=w64 (by omega) (by omega);refine Ev.step (f:=fun k=>(spec_l9Squares.f k ls ax).bind fun bt250=>((spec_l10Common.f k den bt250.2).bind fun t252=>(if t252=0 then(none) else((spec_l10Common.f k den bt250.2).bind fun t253=>(if t253=0 then(none) else((spec_l10Common.f k den bt250.2).bind fun t254=>(if t254=0 then(none) else((spec_l9Reduce.f k (wrap64 ((wrap64 (num*(wrap64 (Int.tdiv bt250.2 t252))))+(wrap64 (bt250.1*(wrap64 (Int.tdiv den t253)))))) (wrap64 ((wrap64 (Int.tdiv den t254))*bt250.2))).bind fun bt255=>(spec_l10Strain.l0 k ls bt255.1 bt255.2 (wrap64 (ax+1))))))))))) (fun k=>?_) ?_
 ·conv=>lhs;unfold spec_l10Strain.l0
  rw[if_pos (by omega)]
 ·refine Ev.bind hsq (Ev.bind hcm (Ev.neg (by omega) (Ev.bind hcm (Ev.neg (by omega) (Ev.bind hcm (Ev.neg (by omega) ?_))))));simp only[w1,w2,htt,hu,x1,x2,x3,x4,hax];exact Ev.bind hred hv2
theorem strain_ev{ls:L}(hv:legsB ls=true):Ev (fun k=>spec_l10Strain.f k ls) (sNum ls,sDen ls):=by
 have h':=legsB_iff.mp hv;have ht:=trees_pos h'.2 h'.1;have a0:=AM_bound h'.2 h'.1 0;have a1:=AM_bound h'.2 h'.1 1;have a2:=AM_bound h'.2 h'.1 2;obtain⟨n1,d1,r1,s1⟩:=strain_step hv 0 (by decide) (by decide) (num:=0) (den:=1) (N:=0) ⟨by decide,by decide,by omega⟩ (by decide) (by decide);obtain⟨n2,d2,r2,s2⟩:=strain_step hv 1 (by decide) (by decide) r1 (by omega) (by omega);obtain⟨n3,d3,r3,s3⟩:=strain_step hv 2 (by decide) (by decide) r2 (by omega) (by omega);have hs:=sRed h'.2 h'.1;rw[show(0:Int)+AM ls 0+AM ls 1+AM ls 2=sN ls from by unfold sN;omega]at r3;obtain⟨e1,e2⟩:=Red.unique (by omega) r3 hs;rw[←e1,←e2];refine s1 _ (s2 _ (s3 _ ?_));refine Ev.step (f:=fun _=>some (n3,d3)) (fun k=>?_) (Ev.now _)
 conv=>lhs;unfold spec_l10Strain.l0
 rw[if_neg (by omega)]
end Go.Proofs.YtmgkbhhnchnkcaaGreatDoor.Net
namespace Go.Proofs.YtmgkbhhnchnkcaaGreatDoor.SpStrainWithout
open Go.RowKit YtmgkbhhnchnkcaaGreatDoorW.PrintWords Plain A
theorem less_eq(ls:Net.L)(k:Nat)(hk:k<ls.length)(hb:ls.length≤2000000):spec_l10Less.f ls (k:Int)=some (Net.less ls k):=by
 have h1:(ls.take k).length=k:=by rw[List.length_take];omega
 have h2:(ls.drop (k+1)).length=ls.length-(k+1):=List.length_drop;have hw:wrap64 ((k:Int)+1)=((k+1:Nat):Int):=by unfold wrap64;omega
 unfold spec_l10Less.f;rw[Option.bind_some,if_pos (by omega),if_pos (by omega),Option.bind_some,Int.toNat_natCast,if_pos (by simp only[List.length_nil];omega),Option.bind_some,List.nil_append,hw,if_pos (by omega),if_pos (by omega),Option.bind_some,Int.toNat_natCast,if_pos (by omega)];rfl
theorem strainWithout_ev(ls:Net.L)(i:Int)(hb:ls.length≤2000000):Ev (fun k=>spec_StrainWithout.f k ls i) (witM ls i):=by
 have hstop:Ev (fun k=>spec_StrainWithout.j0 k ls i true) (0,0,false):=
  Ev.step (f:=fun _=>some (0,0,false)) (fun k=>by simp only[spec_StrainWithout.j0,if_true]) (Ev.now _)
 have hpl:Ev (fun k=>spec_l10Placed.f k ls i) (Net.legsB ls && decide (i∈Net.usedL ls)):=by
  unfold spec_l10Placed.f;refine Ev.bind (Net.l4Legs_ev ls (by omega)) ?_;cases h:Net.legsB ls
  · exact Ev.neg (by decide) (Ev.now _)
  ·have h':=Net.legsB_iff.mp h;have hl:=Net.usedL_len ls;exact Ev.pos rfl (Ev.bind (Net.l9Legs_ev h'.2 h'.1) (Ev.bind (Net.has_ev (Net.usedL ls) i (by omega)) (Ev.now _)))
 refine Ev.bind hpl ?_;unfold witM;by_cases h:Net.legsB ls=true∧i∈Net.usedL ls
 ·have h':=Net.legsB_iff.mp h.1;have hr:=Net.usedL_range ls i h.2;refine Ev.pos (by rw[h.1,decide_eq_true h.2];rfl) ?_;obtain⟨k,rfl⟩:=Int.eq_ofNat_of_zero_le hr.1;have hk:k<ls.length:=by omega
  have hp:=((Net.mem_plcL h'.1 (k:Int)).mp h.2).2;refine Ev.bind (Net.l8Bridge_ev h'.2 h'.1 k hk hp) ?_;cases hbr:Net.bridgeB ls (k:Int)
  ·rw[if_pos ⟨h.1,h.2,rfl⟩,Int.toNat_natCast];have hv:Net.legsB (Net.less ls k)=true:=Net.legsB_iff.mpr ⟨Net.less_good h'.1 k,(by have:=Net.less_len ls k hk;have:=h'.2;omega)⟩;refine Ev.step (f:=fun k'=>(spec_l10Strain.f k' (Net.less ls k)).bind fun bt=>some (bt.1,bt.2,true)) (fun k'=>?_) (Ev.bind (Net.strain_ev hv) (Ev.now _));simp only[spec_StrainWithout.j0,Bool.false_eq_true,if_false];rw[less_eq ls k hk hb,Option.bind_some]
  ·rw[if_neg (fun e=>absurd e.2.2 (by decide))];exact hstop
 ·rw[if_neg (fun e=>h ⟨e.1,e.2.1⟩)];refine Ev.neg ?_ hstop;rw[Bool.and_eq_true,decide_eq_true_eq];exact h
end Go.Proofs.YtmgkbhhnchnkcaaGreatDoor.SpStrainWithout
namespace Go.Proofs.YtmgkbhhnchnkcaaGreatDoor.SpSuspectLeg
open Go.RowKit YtmgkbhhnchnkcaaGreatDoorW.PrintWords Plain A
theorem less_eq(ls:Net.L)(k:Nat)(hk:k<ls.length)(hb:ls.length≤2000000):spec_l10Less.f ls (k:Int)=some (Net.less ls k):=by
 have h1:(ls.take k).length=k:=by rw[List.length_take];omega
 have h2:(ls.drop (k+1)).length=ls.length-(k+1):=List.length_drop;have hw:wrap64 ((k:Int)+1)=((k+1:Nat):Int):=by unfold wrap64;omega
 unfold spec_l10Less.f;rw[Option.bind_some,if_pos (by omega),if_pos (by omega),Option.bind_some,Int.toNat_natCast,if_pos (by simp only[List.length_nil];omega),Option.bind_some,List.nil_append,hw,if_pos (by omega),if_pos (by omega),Option.bind_some,Int.toNat_natCast,if_pos (by omega)];rfl
theorem sus_loop{ls:Net.L}(hv:Net.legsB ls=true):∀(d j:Nat),j+d=(Net.usedL ls).length →
  Ev (fun k=>spec_SuspectLeg.l0 k ls (Net.usedL ls) (Net.susTo ls j).b (if(Net.susTo ls j).b<0 then 0 else Net.sNum (Net.susTo ls j).y) (if(Net.susTo ls j).b<0 then 1 else Net.sDen (Net.susTo ls j).y) (j:Int)) (if(Net.susTo ls (Net.usedL ls).length).b<0 then 0 else(Net.susTo ls (Net.usedL ls).length).b,decide ((Net.susTo ls (Net.usedL ls).length).b≥0)):=by
 have h':=Net.legsB_iff.mp hv;have hul:=Net.usedL_len ls;intro d
 induction d with
 | zero=>
  intro j hj;obtain rfl:j=(Net.usedL ls).length:=by omega
  generalize Net.susTo ls (Net.usedL ls).length=st;by_cases hb:st.b<0
  ·refine Ev.step (f:=fun _=>some (0,false)) (fun k=>?_) ?_
   ·conv=>lhs;unfold spec_SuspectLeg.l0
    rw[if_neg (by omega),if_pos hb]
   ·rw[if_pos hb,decide_eq_false (by omega)];exact Ev.now _
  ·refine Ev.step (f:=fun _=>some (st.b,true)) (fun k=>?_) ?_
   ·conv=>lhs;unfold spec_SuspectLeg.l0
    rw[if_neg (by omega),if_neg hb]
   ·rw[if_neg hb,decide_eq_true (by omega)];exact Ev.now _
 | succ d ih=>
  intro j hj;have hlt:j<(Net.usedL ls).length:=by omega
  have hrec:=ih (j+1) (by omega);have hm:rd (Net.usedL ls) (j:Int)∈Net.usedL ls:=by rw[Net.rd_get _ j hlt];exact List.getElem_mem hlt
  have hr:=Net.usedL_range ls _ hm;have hso:=Net.SOk.upto h'.2 h'.1 j (by omega);have hnx:Net.susTo ls (j+1)=Net.susS ls (Net.susTo ls j) (rd (Net.usedL ls) (j:Int)):=rfl;rw[hnx]at hrec;have hw:wrap64 ((j:Int)+1)=((j+1:Nat):Int):=by unfold wrap64;omega
  have hst:∀(k:Nat) (n d:Int),spec_SuspectLeg.l0 (k+1) ls (Net.usedL ls) (Net.susTo ls j).b n d (j:Int)=(spec_l8Bridge.f k ls (rd (Net.usedL ls) (j:Int))).bind fun t524=>(if t524=true then(spec_SuspectLeg.l0 k ls (Net.usedL ls) (Net.susTo ls j).b n d ((j+1:Nat):Int)) else((spec_l10Less.f ls (rd (Net.usedL ls) (j:Int))).bind fun t526=>((spec_l10Strain.f k t526).bind fun bt529=>(if(Net.susTo ls j).b<0 then(spec_SuspectLeg.l0 k ls (Net.usedL ls) (rd (Net.usedL ls) (j:Int)) bt529.1 bt529.2 ((j+1:Nat):Int)) else((spec_l10Compare.f k bt529.1 bt529.2 n d).bind fun t532=>(if t532<0 then(spec_SuspectLeg.l0 k ls (Net.usedL ls) (rd (Net.usedL ls) (j:Int)) bt529.1 bt529.2 ((j+1:Nat):Int)) else(spec_SuspectLeg.l0 k ls (Net.usedL ls) (Net.susTo ls j).b n d ((j+1:Nat):Int)))))))):=fun k n d=>by
   conv=>lhs;unfold spec_SuspectLeg.l0
   rw[if_pos (by omega),if_pos (by omega),hw]
  refine Ev.step (fun k=>hst k _ _) ?_;generalize Net.susTo ls j=st at *;generalize rd (Net.usedL ls) (j:Int)=kz at *;obtain⟨k,rfl⟩:=Int.eq_ofNat_of_zero_le hr.1;have hk:k<ls.length:=by omega
  have hp:=((Net.mem_plcL h'.1 (k:Int)).mp hm).2;refine Ev.bind (Net.l8Bridge_ev h'.2 h'.1 k hk hp) ?_;unfold Net.susS at hrec;rw[Int.toNat_natCast]at hrec;cases hbr:Net.bridgeB ls (k:Int)
  ·rw[hbr,if_neg (by decide)]at hrec;have hyg:=Net.less_good h'.1 k;have hyn:(Net.less ls k).length≤12:=by have:=Net.less_len ls k hk;have:=h'.2;omega
   have hvy:Net.legsB (Net.less ls k)=true:=Net.legsB_iff.mpr ⟨hyg,hyn⟩;refine Ev.neg (by decide) (Ev.bindc (less_eq ls k hk (by have:=h'.2;omega)) (Ev.bind (Net.strain_ev hvy) ?_));have hkz:¬((k:Int)<0):=by omega
   by_cases hb:st.b<0
   ·rw[if_pos (Or.inl hb)]at hrec;simp only[if_neg hkz]at hrec;exact Ev.pos hb hrec
   ·refine Ev.neg hb ?_;simp only[if_neg hb]at hrec ⊢;refine Ev.bind (Net.cmpS_ev hyg hyn (hso.good (by omega)) (hso.len (by omega))) ?_;rcases Net.sCmp_cases (Net.less ls k) st.y with q|q
    ·rw[if_pos (Or.inr q.1)]at hrec;simp only[if_neg hkz]at hrec;exact Ev.pos q.2 hrec
    ·rw[if_neg (fun e=>e.elim hb q.1)]at hrec;simp only[if_neg hb]at hrec;exact Ev.neg q.2 hrec
  ·rw[if_pos hbr]at hrec;exact Ev.pos rfl hrec
theorem suspectLeg_ev(ls:Net.L)(hb:ls.length≤140737488351232):Ev (fun k=>spec_SuspectLeg.f k ls) (susM ls):=by
 refine Ev.bind (Net.l4Legs_ev ls hb) ?_;unfold susM;by_cases hv:Net.legsB ls=true
 ·rw[if_pos hv];have h':=Net.legsB_iff.mp hv;exact Ev.pos hv (Ev.bind (Net.l9Legs_ev h'.2 h'.1) (sus_loop hv (Net.usedL ls).length 0 (by omega)))
 ·rw[if_neg hv];exact Ev.neg hv (Ev.now _)
end Go.Proofs.YtmgkbhhnchnkcaaGreatDoor.SpSuspectLeg
namespace Go.Proofs.YtmgkbhhnchnkcaaGreatDoor.SpStrainOf
open Go.RowKit YtmgkbhhnchnkcaaGreatDoorW.PrintWords Plain A
theorem strainOf_ev(ls:Net.L)(hb:ls.length≤140737488351232):Ev (fun k=>spec_StrainOf.f k ls) (strM ls):=by
 refine Ev.bind (Net.l4Legs_ev ls hb) ?_;unfold strM;by_cases hv:Net.legsB ls=true
 ·rw[if_pos hv];exact Ev.pos hv (Ev.bind (Net.strain_ev hv) (Ev.now _))
 ·rw[if_neg hv];exact Ev.neg hv (Ev.now _)
end Go.Proofs.YtmgkbhhnchnkcaaGreatDoor.SpStrainOf
namespace Go.Proofs.YtmgkbhhnchnkcaaGreatDoor.SpCompareStrains
open Go.RowKit YtmgkbhhnchnkcaaGreatDoorW.PrintWords Plain A
theorem compareStrains_ev(x y:Net.L)(hx:x.length≤140737488351232)(hy:y.length≤140737488351232):Ev (fun k=>spec_CompareStrains.f k x y) (cmpM x y):=by
 have hstop:Ev (fun k=>spec_CompareStrains.j0 k x y true) (0,false):=
  Ev.step (f:=fun _=>some (0,false)) (fun k=>by simp only[spec_CompareStrains.j0,if_true]) (Ev.now _)
 refine Ev.bind (Net.l4Legs_ev x hx) ?_;unfold cmpM;by_cases h1:Net.legsB x=true
 ·refine Ev.pos h1 (Ev.bind (Net.l4Legs_ev y hy) ?_);cases h2:Net.legsB y
  ·rw[if_neg (fun e=>absurd e.2 (by decide))];exact hstop
  ·rw[if_pos ⟨h1,rfl⟩];have g1:=Net.legsB_iff.mp h1;have g2:=Net.legsB_iff.mp h2;refine Ev.step (f:=fun k=>(spec_l10Strain.f k x).bind fun bt321=>((spec_l10Strain.f k y).bind fun bt323=>((spec_l10Compare.f k bt321.1 bt321.2 bt323.1 bt323.2).bind fun t325=>(some (t325,true))))) (fun k=>?_) (Ev.bind (Net.strain_ev h1) (Ev.bind (Net.strain_ev h2) (Ev.bind (Net.cmpS_ev g1.1 g1.2 g2.1 g2.2) (Ev.now _))));simp only[spec_CompareStrains.j0,Bool.not_true,Bool.false_eq_true,if_false]
 ·rw[if_neg (fun e=>h1 e.1)];exact Ev.neg h1 hstop
end Go.Proofs.YtmgkbhhnchnkcaaGreatDoor.SpCompareStrains
namespace Go.Proofs.YtmgkbhhnchnkcaaGreatDoor.Net
open Go.RowKit YtmgkbhhnchnkcaaGreatDoorW.PrintWords Plain A Draw
theorem iWithout_ev(l:L)(hb:l.length≤140737488351232)(i:Int):Ev (fun _=>impl_StrainWithout.f l i) (witM l i):=Ev.some fun _=>by unfold impl_StrainWithout.f;rw[if_pos hb]
theorem iCmp_ev(x y:L)(hx:x.length≤140737488351232)(hy:y.length≤140737488351232):Ev (fun _=>impl_CompareStrains.f x y) (cmpM x y):=Ev.some fun _=>by unfold impl_CompareStrains.f;rw[if_pos ⟨hx,hy⟩]
theorem iStrain_ev(l:L)(hb:l.length≤140737488351232):Ev (fun _=>impl_StrainOf.f l) (strM l):=Ev.some fun _=>by unfold impl_StrainOf.f;rw[if_pos hb]
theorem iSuspect_ev(l:L)(hb:l.length≤140737488351232):Ev (fun _=>impl_SuspectLeg.f l) (susM l):=Ev.some fun _=>by unfold impl_SuspectLeg.f;rw[if_pos hb]
theorem iCount_ev(l:L)(hb:l.length≤140737488351232):Ev (fun _=>impl_CountLoops.f l) (countM l):=Ev.some fun _=>by unfold impl_CountLoops.f;rw[if_pos hb]
theorem Fit.legs{l:L}(h:Fit l):legsB l=true:=legsB_iff.mpr ⟨h.good,h.len⟩
theorem Fit.of{l:L}(h:legsB l=true):Fit l:=⟨(legsB_iff.mp h).2,(legsB_iff.mp h).1⟩
theorem cmpM_fit{x y:L}(hx:Fit x)(hy:Fit y):cmpM x y=(sCmp x y,true):=by unfold cmpM;rw[if_pos ⟨hx.legs,hy.legs⟩]
theorem strM_fit{x:L}(hx:Fit x):strM x=(sNum x,sDen x,true):=by unfold strM;rw[if_pos hx.legs]
theorem no_loop{l:L}(h:Fit l)(hc:closeL l=[]):sNum l=0:=by
 have hz:sN l=0:=sN_zero (fun k hk ax=>none_nT h.len h.good hc ax k hk);unfold sNum;rw[hz];exact Int.zero_tdiv _
theorem j5_law(code:List Int)(hc:Bytes code)(hl:code.length≤65536):Ev (fun k=>laws_FnBlunders.j5 k code) true:=by
 obtain⟨⟨u,v⟩,hD,hn,hm⟩:=drawCmp hc hl;have hn:u.length≤9:=hn;have hm:v.length≤9:=hm;refine Ev.step (fun k=>by simp only[laws_FnBlunders.j5];rfl) ?_;refine Ev.bind hD (Ev.bind (iCmp_ev u v (by omega) (by omega)) (Ev.bind (iCmp_ev v u (by omega) (by omega)) (Ev.bind (SpCompareStrains.compareStrains_ev u v (by omega) (by omega)) (Ev.pos rfl (Ev.pos (by simp) ?_)))))
 have h1:(cmpM v u).2=(cmpM u v).2:=by
  unfold cmpM;by_cases c:legsB u=true∧legsB v=true
  · rw[if_pos c,if_pos ⟨c.2,c.1⟩]
  · rw[if_neg c,if_neg (fun e=>c ⟨e.2,e.1⟩)]
 have h2:((cmpM v u).1==wrap64 (-(cmpM u v).1))=true:=by
  rw[beq_iff_eq];unfold cmpM;by_cases c:legsB u=true∧legsB v=true
  ·rw[if_pos c,if_pos ⟨c.2,c.1⟩];simp only;rw[sCmp_swap u v,w64]<;>rcases sCmp_three u v with e|e|e<;>rw[e]<;>decide
  ·rw[if_neg c,if_neg (fun e=>c ⟨e.2,e.1⟩)];rw[w64]<;>decide
 refine Ev.pos (by rw[h1];simp) ?_;rw[h2];exact Ev.now _
theorem j2_law(code:List Int)(hc:Bytes code)(hl:code.length≤65536):Ev (fun k=>laws_FnBlunders.j2 k code) true:=by
 obtain⟨l,hD,hn⟩:=drawSuspect hc hl;have hn:l.length≤9:=hn;obtain⟨m,hE,hm⟩:=drawStrain hc hl;have hm:m.length≤9:=hm;refine Ev.step (fun k=>by simp only[laws_FnBlunders.j2];rfl) ?_;refine Ev.bind hD (Ev.bind (iSuspect_ev l (by omega)) (Ev.bind (SpSuspectLeg.suspectLeg_ev l (by omega)) (Ev.pos rfl ?_)));rw[bne_self_eq_false];refine Ev.step (fun k=>by simp only[laws_FnBlunders.j3,Bool.false_eq_true,if_false];rfl) ?_;refine Ev.bind hE (Ev.bind (iStrain_ev m (by omega)) (Ev.bind (SpStrainOf.strainOf_ev m (by omega)) (Ev.pos rfl (Ev.pos rfl ?_))));rw[bne_self_eq_false];have h5:=j5_law code hc hl;by_cases h:legsB m=true
 ·have hf:=Fit.of h;rw[strM_fit hf];have i1:=iCount_ev m (by omega);unfold countM at i1;rw[if_pos h]at i1;refine Ev.step (fun k=>by simp only[laws_FnBlunders.j4,Bool.false_eq_true,if_false,if_true];rfl) ?_;refine Ev.bind i1 (Ev.pos rfl ?_);by_cases c:((closeL m).length:Int)=0
  ·refine Ev.pos c (Ev.pos ?_ h5);exact no_loop hf (List.eq_nil_of_length_eq_zero (by omega))
  · exact Ev.neg c h5
 ·have e:(strM m).2.2=false:=by unfold strM;rw[if_neg h]
  rw[e];exact Ev.step (f:=fun k=>laws_FnBlunders.j5 k code) (fun k=>by simp only[laws_FnBlunders.j4,Bool.false_eq_true,if_false]) h5
theorem cut_less(l:L)(m:Nat)(hm:m<l.length)(hb:l.length≤100):([]++l.take ((m:Int)).toNat)++l.drop (wrap64 ((m:Int)+1)).toNat=less l m:=by
 rw[w64 (x:=(m:Int)+1) (by omega) (by omega),List.nil_append,Int.toNat_natCast,show((m:Int)+1).toNat=m+1 by omega];rfl
structure CutOk(l:L)(m:Nat):Prop where
 a0:0≤(m:Int)
 a1:(m:Int)≤(l.length:Int)
 a2:([]:L).length+(l.take ((m:Int)).toNat).length<3518437208883
 a3:0≤wrap64 ((m:Int)+1)
 a4:wrap64 ((m:Int)+1)≤(l.length:Int)
 a5:(([]:L)++l.take ((m:Int)).toNat).length+(l.drop (wrap64 ((m:Int)+1)).toNat).length<3518437208883
theorem cut_ok(l:L)(m:Nat)(hm:m<l.length)(hb:l.length≤100):CutOk l m:=by
 have ew:wrap64 ((m:Int)+1)=(m:Int)+1:=w64 (by omega) (by omega);refine⟨by omega,by omega,?_,?_,?_,?_⟩
 · rw[List.length_take,List.length_nil];clear ew;omega
 · rw[ew];clear ew;omega
 · rw[ew];clear ew;omega
 · rw[ew,List.nil_append,List.length_take,List.length_drop];clear ew;omega
theorem j1_law(code:List Int)(hc:Bytes code)(hl:code.length≤65536)(l:L)(hf:Fit l)(n:Nat)(hn:n<l.length)(b:Nat)(hb:b<l.length)(hle:sle (less l b) (less l n)):Ev (fun k=>laws_FnBlunders.j1 k code l (less l n) (b:Int) false) true:=by
 have h12:=hf.len;have e:=cut_less l b hb (by omega);have ck:=cut_ok l b hb (by omega);have hlb:=less_len l b hb;have hln:=less_len l n hn;have i1:=iCmp_ev (less l b) (less l n) (by omega) (by omega);rw[cmpM_fit (hf.less b hb) (hf.less n hn)]at i1;refine Ev.step (fun k=>by simp only[laws_FnBlunders.j1,Bool.false_eq_true,if_false];rfl) ?_;refine Ev.bindc rfl (Ev.pos ck.a0 (Ev.pos ck.a1 (Ev.bindc rfl (Ev.pos ck.a2 (Ev.bindc rfl (Ev.pos ck.a3 (Ev.pos ck.a4 (Ev.bindc rfl (Ev.pos ck.a5 ?_)))))))));rw[e];refine Ev.bind i1 (Ev.pos rfl (Ev.neg ?_ (j2_law code hc hl)));intro hgt;have:=(sCmp_gt (hf.less b hb) (hf.less n hn)).mp hgt;unfold slt at this;unfold sle at hle;omega
end Go.Proofs.YtmgkbhhnchnkcaaGreatDoor.Net
namespace Go.Proofs.YtmgkbhhnchnkcaaGreatDoor.Pure
open Go.RowKit YtmgkbhhnchnkcaaGreatDoorW.PrintWords Plain A Net Draw
theorem FnBlunders(code:List Int)(hb:code.length*1≤140737488351232)(hw:∀x∈code,(Lit.int .u8 x).wf=true):∃k,laws_FnBlunders.f k code=some true:=by
 refine Ev.rounds ?_;have hc:=Bytes.of_wf hw;refine Ev.bindc (show laws_vBig.f code=some (decide ((code.length:Int)>65536))from rfl) ?_;by_cases c:(code.length:Int)>65536
 · exact Ev.pos (decide_eq_true c) (Ev.now _)
 have hl:code.length≤65536:=by omega
 refine Ev.neg (by rw[decide_eq_false c];decide) ?_;obtain⟨⟨l,i⟩,hD,hn⟩:=drawWithout hc hl;have hn:l.length≤9:=hn;refine Ev.bind hD (Ev.bind (iWithout_ev l (by omega) i) (Ev.bind (SpStrainWithout.strainWithout_ev l i (by omega)) (Ev.pos rfl (Ev.pos rfl ?_))));rw[bne_self_eq_false];have h2:=j2_law code hc hl;by_cases h:legsB l=true∧i∈usedL l∧bridgeB l i=false
 ·have hf:=Fit.of h.1;have hr:=usedL_range l i h.2.1;obtain⟨m,rfl⟩:=Int.eq_ofNat_of_zero_le hr.1;have hm:m<l.length:=by omega
  have e:witM l (m:Int)=(sNum (less l m),sDen (less l m),true):=by unfold witM;rw[if_pos h,Int.toNat_natCast]
  rw[e];have hs:=suspect_least hf h.2.1 h.2.2;rw[Int.toNat_natCast]at hs;have hle:=sle_less hf m h.2.1 h.2.2;have ecut:=cut_less l m hm (by omega);have ck:=cut_ok l m hm (by omega);have hlm:=less_len l m hm;have i1:=iCmp_ev (less l m) l (by omega) (by omega);rw[cmpM_fit (hf.less m hm) hf]at i1;have i2:=iStrain_ev (less l m) (by omega);rw[strM_fit (hf.less m hm)]at i2;have i3:=SpSuspectLeg.suspectLeg_ev l (by omega);have hsr:=usedL_range l _ hs.2.1;obtain⟨b,hbe⟩:=Int.eq_ofNat_of_zero_le hs.1
  have e3:susM l=((b:Int),true):=by
   unfold susM;rw[if_pos h.1,if_neg (by omega),decide_eq_true hs.1,hbe]
  rw[e3]at i3;rw[hbe,Int.toNat_natCast]at hs;refine Ev.step (fun k=>by simp only[laws_FnBlunders.j0,Bool.false_eq_true,if_false,if_true];rfl) ?_;refine Ev.bindc rfl (Ev.pos ck.a0 (Ev.pos ck.a1 (Ev.bindc rfl (Ev.pos ck.a2 (Ev.bindc rfl (Ev.pos ck.a3 (Ev.pos ck.a4 (Ev.bindc rfl (Ev.pos ck.a5 (Ev.bindc rfl ?_))))))))));rw[ecut];refine Ev.bind i1 (Ev.bind i2 (Ev.bind i3 (Ev.pos rfl (Ev.neg ?_ (Ev.pos rfl (Ev.pos rfl (Ev.pos rfl ?_)))))))
  ·intro hgt;have:=(sCmp_gt (hf.less m hm) hf).mp hgt;unfold slt at this;unfold sle at hle;omega
  · exact j1_law code hc hl l hf m hm b (by omega) hs.2.2
 ·have e:(witM l i).2.2=false:=by unfold witM;rw[if_neg h]
  rw[e];exact Ev.step (f:=fun k=>laws_FnBlunders.j2 k code) (fun k=>by simp only[laws_FnBlunders.j0,Bool.false_eq_true,if_false]) h2
end Go.Proofs.YtmgkbhhnchnkcaaGreatDoor.Pure
namespace Go.Proofs.YtmgkbhhnchnkcaaGreatDoor.Opens
open Go.ChangeShapes Go.WideShapes Go.Deep Go.RowKit YtmgkbhhnchnkcaaGreatDoorW.PrintWords
theorem list_of{α:Type}{P:Nat→α→Prop}:∀(n:Nat),(∀i,i<n→∃x,P i x)→∃xs:List α,xs.length=n∧∀i x,xs[i]?=some x→P i x
 |0,_=>⟨[],rfl,fun i x h=>by simp at h⟩
 | n+1,h=>by
  obtain⟨xs,hl,hx⟩:=list_of n (fun i hi=>h i (Nat.lt_succ_of_lt hi));obtain⟨y,hy⟩:=h n (Nat.lt_succ_self n);refine⟨xs++[y],by simp[hl],fun i x hi=>?_⟩;by_cases hlt:i<xs.length
  ·rw[List.getElem?_append_left hlt]at hi;exact hx i x hi
  ·rw[List.getElem?_append_right (by omega)]at hi
   have h0:i-xs.length=0:=by
    have:=(List.getElem?_eq_some_iff.1 hi).1;simp at this;omega
   rw[h0]at hi;simp at hi;subst hi;have:i=n:=by omega
   subst this;exact hy
section
variable {H:Type} {enc:TypeId×Value→H} {P:Program} {w:World} {base:Nat} {spare:Nat→Bool} {held:Bool}
theorem open_row{α:Type}(d:Kd α){Q:α→Prop}{t e:TypeId}{a:Option Addr}{len cap:Nat}{dd:DataW H}{ps:List MemPlace}(ht:P.underlying t=some (.slice e))(hC:P.cellsOf e=d.sz)
  (hd:∀n cs y,DataW.trod enc P w base spare held n e cs=some y→∃x,d.K w x cs∧Q x)
  (h:DataW.Trod enc P w base spare held t (.slice a len cap) dd ps):∃xs:List α,xs.length=len∧len≤cap∧d.C w a len xs∧∀x∈xs,Q x:=by
 obtain⟨fuel,hf⟩:=h;rcases open_slice ht hf with⟨hcs,_⟩|⟨x,l,c,m,n,D,Pl,hcs,_,hl,hm,hmm,_,hi⟩
 ·simp[Value.cells]at hcs;obtain⟨rfl,rfl,rfl⟩:=hcs;exact⟨[],rfl,Nat.le_refl _,⟨rfl,by omega,fun h=>by omega⟩,fun x hx=>by simp at hx⟩
 ·simp[Value.cells]at hcs;obtain⟨rfl,rfl,rfl⟩:=hcs;have hle:len≤m:=by subst hmm;split<;>omega
  obtain⟨xs,hxl,hx⟩:=list_of (P:=fun i (z:α)=>Q z∧∃cs,d.K w z cs∧w.cells? base (x.add (i*d.sz)) d.sz=some cs) len (fun i hil=>by
   obtain⟨cs,h1,h2⟩:=hi i (by omega);rw[hC]at h1;obtain⟨z,h3,h4⟩:=hd _ _ _ h2
   exact⟨z,h4,cs,h3,h1⟩)
  refine⟨xs,hxl,hl,⟨hxl,(by unfold maxLen at hm;omega),fun _=>⟨x,rfl,fun j p hp=>?_⟩⟩,fun z hz=>?_⟩
  ·obtain⟨_,cs,h1,h2⟩:=hx j p hp;obtain⟨_,hlen,hat⟩:=World.cells?_some h2;refine⟨cs,hlen,h1,fun i u hu=>?_⟩;have hil:i<d.sz:=by have:=(List.getElem?_eq_some_iff.1 hu).1;omega
   rw[←Go.Deep.add_add,hat i hil,hu]
  ·obtain⟨j,hj⟩:=List.getElem?_of_mem hz;exact(hx j z hj).1
theorem sized_row{t e:TypeId}{a:Option Addr}{len cap:Nat}{d:DataW H}{ps:List MemPlace}{ts:List TypeId}{ds:List (DataW H)}{j:Nat}
  (hsz:(DataW.weightsEach P ts ds).all (· ≤reachBytes)=true) (ht:ts[j]?=some t) (hd:ds[j]?=some d) (hu:P.underlying t=some (.slice e)) {B:Nat} (hB:P.bytesOf e=B)
  (h:DataW.Trod enc P w base spare held t (.slice a len cap) d ps):len*B≤140737488351232:=by
 obtain⟨fuel,hf⟩:=h;rcases open_slice hu hf with⟨hcs,_⟩|⟨x,l,c,m,n,D,Pl,hcs,_,hl,hm,hmm,hx,hi⟩
 ·simp[Value.cells]at hcs;obtain⟨rfl,rfl,rfl⟩:=hcs;simp
 ·simp[Value.cells]at hcs;obtain⟨rfl,rfl,rfl⟩:=hcs;obtain⟨hx,_⟩:=Prod.mk.inj hx;subst hx;have z:=sized_slice hsz ht hd hu;rw[hB]at z;simp only[List.length_map,List.length_range]at z;have hle:len≤m:=by subst hmm;split<;>omega
  rw[show len+(m-len)=m by omega]at z;exact Nat.le_trans (Nat.mul_le_mul_right _ hle) z
end
end Go.Proofs.YtmgkbhhnchnkcaaGreatDoor.Opens
namespace Go.Proofs.YtmgkbhhnchnkcaaGreatDoor.fnBlunders
open Go.ChangeShapes Go.WideShapes Go.ChangeAt Go.RowKit
open Go.ChangeMaps (open_string shut_string)
open A YtmgkbhhnchnkcaaGreatDoorW.PrintWords Opens
theorem own:ownKnob Tryz.prog.godebug=none:=by kernel_rfl
theorem laidOut:laidOutB Tryz.prog=true:=by kernel_rfl
set_option maxRecDepth 100000 in
theorem lifted(os:Os)(started:os.Started)(H:Type)(enc:TypeId×Value→H):
  ReturnsInHanded {} Tryz.checked os 3 .any (fun w args=>(Rows.fnBlundersSpec.pre enc Tryz.prog Tryz.f3 [] false w args∧laidMetH Tryz.prog LaidT.list w)∧sizedMet enc Tryz.prog Tryz.f3 (OpenSpec.ofChange Rows.fnBlundersSpec) false w args) (Rows.fnBlundersSpec.post enc Tryz.prog Tryz.f3 false true false false):=by
 refine returnsInHanded_of_change_and (C:=Tryz.checked) (X:=fun w _=>laidMetH Tryz.prog LaidT.list w) (fun _ _ _ hh h=>h.of_heap hh) own started qz33 Tryz.func3
  (ChangeSpec.witness_shaped (enc:=enc) (C:=Tryz.checked) (os:=os) (X:=fun w _=>laidMetH Tryz.prog LaidT.list w) false (World.doorLaid Tryz.prog 400 os) #[.slice none 0 0] 8 rfl (World.shaped_of_RefB qz33 qz33) qz33 qz33 qz33 (LaidT.door_met os _)) ?_
 intro W base args ds gs before hval0 hW hcnd hsz0 hL _;have hsz:(DataW.weightsEach Tryz.prog (Tryz.f3.params.toList++Rows.fnBlundersSpec.plain.varTypes Tryz.prog) (ds++gs)).all (· ≤reachBytes)=true:=hsz0;have hval:∀(j:Nat) t v,Tryz.f3.params[j]?=some t→args[j]?=some v→Value.okWide Tryz.prog W .any base t v:=hval0
 have hW':=hW;obtain⟨p,q,hA0,hV,rfl,hfz,hnd⟩:=hW;have hA:DataW.TrodAll enc Tryz.prog W 0 (fun _=>true) true Tryz.f3.params.toList args.toList ds p:=hA0;rw[Tryz.params3]at hA hval hsz;obtain⟨v0,vs0,d0,ds0,p0,q0,hargs,rfl,rfl,h0,r0⟩:=trodAll_cons hA;obtain⟨rfl,rfl,rfl⟩:=trodAll_nil r0;obtain rfl:args= #[v0]:=by cases args;simp_all
 have hV2:=hV;obtain⟨_,_,_,_,gd,_,rfl,_,_,_,_,_⟩:=trodVars_one hV;have k0:=h0;have lt0:∀x∈p0,x.block<W.heap.size:=by obtain⟨m,hm⟩:=k0;exact DataW.trod_lt m _ _ _ hm
 obtain⟨a0,len0,cap0,rfl⟩:=okWide_slice Tryz.underlying22 (hval 0 22 v0 rfl rfl);obtain⟨l0,hl0,hc0,hr0,hw0⟩:=Opens.open_row (Kd.int .u8) (Q:=fun x=>(Lit.int .u8 x).wf=true) (e:=5) Tryz.underlying22 qz33 (fun _ _ _ h=>by obtain⟨x,rfl,_,hw⟩:=DataW.trod_int Tryz.underlying5 h;exact⟨x,rfl,hw⟩) h0;have y0:len0*1≤140737488351232:=Opens.sized_row hsz (j:=0) (t:=22) rfl rfl Tryz.underlying22 qz33 h0;subst hl0;clear hA0 hval0 hsz0 hsz;obtain⟨k,hk⟩:=Pure.FnBlunders l0 y0 hw0;refine(laws_FnBlunders.calls k _ _ l0 true W hr0 hc0 hk (LaidT.of_laid hL)).mono fun e W' ⟨he,hb⟩=>?_
 have bel:Below W.heap.size W W':=hb;subst he;exact⟨_,rfl,_,_,_,[],_,_,hW',trodAll_mk1 (shut_bool Tryz.underlying4 _),(trodAll_cons_mk (Below.trod laidOut qz33 (of_decide_eq_true qz33) k0 bel lt0) trodAll_mk0),Below.trodVars laidOut bel qz33 hV2,bel.frame _,fun h=>by cases h⟩
theorem over:Rows.fnBlundersRow.holds Tryz.pinned (OpenSpec.ofChange Rows.fnBlundersSpec):=
 OpenClaim.holds_of_wide 3 Tryz.f3 rfl rfl rfl rfl rfl rfl rfl ⟨rfl,rfl,rfl,rfl,rfl⟩ rfl rfl rfl rfl rfl qz33 Tryz.func3 qz33
  (of_decide_eq_true qz33) (by unfold Func.isWrapper;first|(rw[if_pos (by decide +kernel)];kernel_rfl)|(rw[if_neg (by decide +kernel)];exact⟨rfl,rfl⟩))
  (fun os started H enc _=>lifted os started H enc)
theorem card_holds:Rows.FnBlundersCardSaid:=
 Claim7.holds_tied_plain_at .later [] [.data] true (true, "29deea75730f3437510c702634a5acfdaa12a18c696fd8fe3cdf4bc032b8d754") false
  over (fun _ h=>by cases h) qz33 (fun _ h=>by cases h) fnBlunders_row_tie rfl ⟨rfl,rfl⟩ qz33 rfl
  (fun f fn hf hfn=>by
   obtain rfl : f = 3 := Option.some.inj ((show Tryz.prog.funcNamed "loop.example/g00933/laws.FnBlunders" = some 3 by kernel_rfl).symm.trans hf) |>.symm
   obtain rfl:fn=Tryz.f3:=(Option.some.inj (Tryz.func3.symm.trans hfn)).symm
   exact⟨by kernel_rfl,fun j t ht=>by
    rw[Tryz.params3]at ht;have hm:t∈[22]:=by simpa using Array.mem_of_getElem? ht
    have hall:([22].all fun u=>!Tryz.prog.wantsStandIn u)=true:=by kernel_rfl
    exact(show Tryz.prog.wantsStandIn t=false by simpa using List.all_eq_true.1 hall t hm)⟩)
  qz33
#print axioms card_holds
end Go.Proofs.YtmgkbhhnchnkcaaGreatDoor.fnBlunders
namespace Go.Proofs.YtmgkbhhnchnkcaaGreatDoor
theorem fnBlunders_holds:Rows.FnBlundersCardSaid:=fnBlunders.card_holds
end Go.Proofs.YtmgkbhhnchnkcaaGreatDoor
