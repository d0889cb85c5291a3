/- Plain lemmas on integers that wrap at 64 bits, on answers that come after enough rounds, on tests over all indexes of a list. No program stands here. -/
import Derived.Outline
import Derived.Test.YtcafgpincnkcdaaDoorRows
import Derived.ProofKit
import Derived.LaidMore
import Derived.OpenShut
import Derived.LaidLaws
import Derived.LaidHandle
import Derived.MakeChecks
import Derived.Stop.Joined
import Derived.Test.YtcafgpincnkcdaaDoorKFnPlaces4
set_option maxHeartbeats 2000000
set_option maxRecDepth 100000
set_option linter.unusedSimpArgs false
set_option linter.unusedVariables false
namespace Go.Proofs.YtcafgpincnkcdaaDoor
namespace Net
open Go.RowKit YtcafgpincnkcdaaDoorW.PrintWords YtcafgpincnkcdaaDoorW.PrintLast YtcafgpincnkcdaaDoorW.PrintMore A
def Sine.tab:List Int:=[0,17,35,52,70,87,105,122,139,156,174,191,208,225,242,259,276,292,309,326,342,358,375,391,407,423,438,454,469,485,500,515,530,545,559,574,588,602,616,629,643,656,669,682,695,707,719,731,743,755,766,777,788,799,809,819,829,839,848,857,866,875,883,891,899,906,914,921,927,934,940,946,951,956,961,966,970,974,978,982,985,988,990,993,995,996,998,999,999,1000,1000]
def Sine.Laid(w:World):Prop:=∀i:Nat,i<91→w.cell? ⟨0,i,none⟩=some (.int .i64 (Sine.tab.getD i 0))
def Sine.s(d:Int):Int:=if d≤90 then Sine.tab.getD d.toNat 0 else Sine.tab.getD (180-d).toNat 0
theorem Sine.getD_bound(i:Nat):0≤Sine.tab.getD i 0∧Sine.tab.getD i 0≤1000:=by
  have h:∀x∈Sine.tab,0≤x∧x≤1000:=by decide
  by_cases hi:i<Sine.tab.length
  · rw[List.getD_eq_getElem?_getD,List.getElem?_eq_getElem hi]
    exact h _ (List.getElem_mem hi)
  · rw[List.getD_eq_getElem?_getD,List.getElem?_eq_none (by omega)]
    decide
theorem Sine.s_bound(d:Int):0≤Sine.s d∧Sine.s d≤1000:=by
  unfold Sine.s;split<;>exact Sine.getD_bound _
theorem Sine.keepc{w W:World}{a:Addr}{v:Value}(h:w.cell? a=some v)(hb:Below w.heap.size w W):W.cell? a=some v:=(hb.cell (World.block_lt_of_cell? w _ h)).trans h
theorem Sine.Laid.keep{w W:World}(h:Sine.Laid w)(hb:Below w.heap.size w W):Sine.Laid W:=fun i hi=>Sine.keepc (h i hi) hb
theorem Sine.low(d:Int)(w:World)(hL:Sine.Laid w)(h0:0≤d)(h1:d≤180):
    Calls Tryd.prog 134 #[.int .i64 d] w fun e w'=>e= .returned (.int .i64 (Sine.s d))∧Below w.heap.size w w':=by
  unfold Sine.s;by_cases hd:d≤90
  · rw[if_pos hd]
    have hm:d % 360=d:=by omega
    have hb0:(0:Int)≤d:=h0;have hb1:d<91:=by omega
    have h:=hL d.toNat (by omega);generalize Sine.tab.getD d.toNat 0=x at *;go_enter Tryd.func134,Tryd.ntmps134;go_wp2;go_ret;exact⟨rfl,(by repeat(first|exact Below.refl _ _|apply below_alloc))⟩
  · rw[if_neg hd]
    have hm:d % 360=d:=by omega
    have hb0:(0:Int)≤180-d:=by omega
    have hb1:180-d<91:=by omega
    have h:=hL (180-d).toNat (by omega);generalize Sine.tab.getD (180-d).toNat 0=x at *;go_enter Tryd.func134,Tryd.ntmps134;go_wp2;go_ret;exact⟨rfl,(by repeat(first|exact Below.refl _ _|apply below_alloc))⟩
def Sine.f(a:Int):Int:=if a % 360≤180 then Sine.s (a % 360) else-Sine.s (a % 360-180)
theorem Sine.calls(a:Int)(w:World)(hL:Sine.Laid w)(h0: -1000000≤a)(h1:a≤1000000):
    Calls Tryd.prog 134 #[.int .i64 a] w fun e w'=>e= .returned (.int .i64 (Sine.f a))∧Below w.heap.size w w':=by
  have hmod:impl_modulo.f a 360=some (a % 360):=by
    unfold impl_modulo.f;rw[if_neg (by decide)]
    have e0:Int.tmod a 360=a % 360∨Int.tmod a 360=a % 360-360:=by
      rw[Int.tmod_eq_emod];split
      · left;omega
      · right;simp
    have e1:wrap64 (Int.tmod a 360+360)=Int.tmod a 360+360:=by unfold wrap64;omega
    rw[e1,Int.tmod_eq_emod_of_nonneg (by omega)]
    congr 1
    omega
  have HM:=ak hmod;have HL:=ak hL;have g0:0≤a % 360:=by omega
  have g1:a % 360<360:=by omega
  clear hmod hL;unfold Sine.f;generalize a % 360=d at *;have keep:∀W,Below w.heap.size w W→Sine.Laid W:=fun W hb=>HL.out.keep hb
  have HK:=ak keep;clear keep HL;by_cases hd:d≤180
  · rw[if_pos hd]
    unfold Sine.s;by_cases hd9:d≤90
    · rw[if_pos hd9]
      have hb1:d<91:=by omega
      have HT:=ak (fun W hb=>HK.out W hb d.toNat (by omega));generalize Sine.tab.getD d.toNat 0=x at *;go_enter Tryd.func134,Tryd.ntmps134;go_wp2_with (go_at_call 136;(with_reducible refine(impl_modulo.calls _ _ _ _ HM.out).mono ?_);rintro e w' ⟨rfl,hq⟩;have HQ:=ak (show Below w.heap.size w w' from hq.below);have hcell:=HT.out w' HQ.out;clear hq);go_ret;exact⟨rfl,HQ.out⟩
    · rw[if_neg hd9]
      have hb0:(0:Int)≤180-d:=by omega
      have hb1:180-d<91:=by omega
      have HT:=ak (fun W hb=>HK.out W hb (180-d).toNat (by omega));generalize Sine.tab.getD (180-d).toNat 0=x at *;go_enter Tryd.func134,Tryd.ntmps134;go_wp2_with (go_at_call 136;(with_reducible refine(impl_modulo.calls _ _ _ _ HM.out).mono ?_);rintro e w' ⟨rfl,hq⟩;have HQ:=ak (show Below w.heap.size w w' from hq.below);have hcell:=HT.out w' HQ.out;clear hq);go_ret;exact⟨rfl,HQ.out⟩
  · rw[if_neg hd]
    have hb0:(0:Int)≤d-180:=by omega
    have hb1:d-180≤180:=by omega
    go_enter Tryd.func134,Tryd.ntmps134;go_wp2_with (first|(go_at_call 136;(with_reducible refine(impl_modulo.calls _ _ _ _ HM.out).mono ?_);rintro e w' ⟨rfl,hq⟩;have HQ:=ak (show Below w.heap.size w w' from hq.below);clear hq)|(go_at_call 134;(with_reducible refine(Sine.low (d-180) _ (HK.out _ HQ.out) hb0 hb1).mono ?_);rintro e w' ⟨rfl,hw⟩));go_ret;have hs:=Sine.s_bound (d-180);have hn:wrap64 (- Sine.s (d-180))= - Sine.s (d-180):=by unfold wrap64;omega
    exact⟨(by first|rfl|(simp only[hn];rfl)|(simp[hn];rfl)),below_step HQ.out hw⟩
end Net
namespace LaidT
open Go.ChangeShapes Go.WideShapes Go.RowKit Net
set_option maxRecDepth 100000
def list : List (String × DataW Unit) := [("loop.example/g00933/impl.sines", Rows.laid_loop_example_g00933_impl_sines)]
theorem gN : Tryd.prog.globalNamed "loop.example/g00933/impl.sines" = some 0 := by kernel_rfl
theorem gT:(Tryd.prog.globals[0]?).map (·.type)=some 106:=by kernel_rfl
theorem datum_eq:(Rows.laid_loop_example_g00933_impl_sines:DataW Unit)= .agg (Sine.tab.map fun v=> .lit (.int .i64 v)):=rfl
theorem door_met(os:Os)(args:Array Value):laidMetH Tryd.prog list ((World.doorLaid Tryd.prog 400 os).forCall (fun _ _=>0) ⟨#[],args,[]⟩).memory:=
  laidMetH_of_parts3 (fuel:=8) (laidMet_of_run' 8 qz51 qz51) qz51 qz51
theorem of_laid{W:World}(h:laidMetH Tryd.prog list W):Sine.Laid W:=by
  rw[MakeChecks.laidMetH_plain _ _ _ qz51]at h;obtain⟨ps,⟨g0,t0,cs0,f0,p0,q0,hg0,ht0,hv0,hd0,_,_⟩,_,_⟩:=h;obtain rfl:=Option.some.inj (gN.symm.trans hg0);obtain rfl:=Option.some.inj (gT.symm.trans ht0);obtain⟨xs,m,rfl,hx,hlen,hn,hel⟩:=DataW.trod_array Tryd.underlying106 hd0;intro i hi;have h0:=hel i hi;have c1:Tryd.prog.cellsOf 3=1:=by kernel_rfl
  obtain⟨x,hxi⟩:∃x,xs[i]?=some x:=⟨_,List.getElem?_eq_getElem (by omega)⟩
  rw[hxi,c1]at h0;obtain⟨k,e1,e2,_⟩:=DataW.trod_int Tryd.underlying3 h0
  have hL:Sine.tab.map (fun v=>(.lit (.int .i64 v):DataW Unit))=xs.map (·.1):=by
    have:=(Prod.mk.inj hx).1;rw[datum_eq]at this;exact DataW.agg.inj this
  have hk:=congrArg (fun l=>l[i]?) hL;simp only[List.getElem?_map,hxi,Option.map_some]at hk;have htab:i<Sine.tab.length:=hi;rw[List.getElem?_eq_getElem htab,Option.map_some,e2]at hk;have hk2:Sine.tab[i]=k:=by simpa using hk
  have hcell:=World.var?_cell hg0 hv0 i
  have e3:cs0.toList[i]?=some (.int .i64 k):=by
    have:=congrArg (fun l=>l[0]?) e1;simpa[List.getElem?_take,List.getElem?_drop]using this
  rw[hcell,←Array.getElem?_toList,e3,List.getD_eq_getElem?_getD,List.getElem?_eq_getElem htab,Option.getD_some,hk2]
end LaidT
namespace Net
open Go.RowKit YtcafgpincnkcdaaDoorW.PrintWords YtcafgpincnkcdaaDoorW.PrintLast YtcafgpincnkcdaaDoorW.PrintMore A
theorem Sine.f_bound(a:Int): -1000≤Sine.f a∧Sine.f a≤1000:=by
  unfold Sine.f;split
  · have:=Sine.s_bound (a % 360);omega
  · have:=Sine.s_bound (a % 360-180);omega
def rnd(a:Int):Int:=if a<0 then-((2*(- a)+1000)/2000) else(2*a+1000)/2000
theorem rounded_eq(a:Int)(h0: -1000000000000≤a)(h1:a≤1000000000000):impl_rounded.f 2 a 1000=some (rnd a):=by
  have pos:∀k b:Int,0≤b→b≤1000000000000→∀n:Nat,impl_rounded.f (n+1) b 1000=some ((2*b+1000)/2000):=by
    intro k b hb0 hb1 n;have e1:wrap64 (2*b)=2*b:=by unfold wrap64;omega
    have e2:wrap64 (2*b+1000)=2*b+1000:=by unfold wrap64;omega
    have e3:wrap64 (2*1000)=2000:=by unfold wrap64;omega
    have e4:Int.tdiv (2*b+1000) 2000=(2*b+1000)/2000:=Int.tdiv_eq_ediv_of_nonneg (by omega);have e5:wrap64 ((2*b+1000)/2000)=(2*b+1000)/2000:=by unfold wrap64;omega
    have n0:¬b<0:=by omega
    simp only[impl_rounded.f,if_neg n0,e1,e2,e3,e4,e5];simp
  unfold rnd;by_cases h:a<0
  · have e1:wrap64 (-a)= -a:=by unfold wrap64;omega
    have e5:wrap64 (-((2*(- a)+1000)/2000))= -((2*(- a)+1000)/2000):=by unfold wrap64;omega
    rw[if_pos h];simp only[impl_rounded.f,if_pos h,e1];have:=pos 0 (-a) (by omega) (by omega) 0;simp only[Nat.zero_add,impl_rounded.f]at this;simp only[this,Option.bind_some,e5]
  · rw[if_neg h]
    exact pos 0 a (by omega) h1 1
theorem cosine(a:Int)(w:World)(hL:Sine.Laid w)(h0: -100000≤a)(h1:a≤100000):
    Calls Tryd.prog 133 #[.int .i64 a] w fun e w'=>e= .returned (.int .i64 (Sine.f (a+90)))∧Below w.heap.size w w':=by
  have b0: -1000000≤a+90:=by omega
  have b1:a+90≤1000000:=by omega
  have HL:=ak hL;clear hL;go_enter Tryd.func133,Tryd.ntmps133;go_wp2_with (go_at_call 134;(with_reducible refine(Sine.calls (a+90) _ ?s1 b0 b1).mono ?_);(case s1=>exact HL.out.keep (by repeat(first|exact Below.refl _ _|apply below_alloc|apply below_drew1)));rintro e w' ⟨rfl,hw⟩);go_ret;exact⟨rfl,(by first|exact hw|exact below_step (by repeat(first|exact Below.refl _ _|apply below_alloc|apply below_drew1)) hw)⟩
def part(l a:Int):Int×Int:=(rnd (l*Sine.f (a+90)),rnd (l*Sine.f a))
theorem prod_bound(l a:Int)(h0: -100000≤l)(h1:l≤100000): -100000000≤l*Sine.f a∧l*Sine.f a≤100000000:=by
  have hs:=Sine.f_bound a;generalize Sine.f a=s at *;have a1:(l+100000)*(1000-s)≥0:=Int.mul_nonneg (by omega) (by omega);have a2:(l+100000)*(s+1000)≥0:=Int.mul_nonneg (by omega) (by omega);have a3:(100000-l)*(1000-s)≥0:=Int.mul_nonneg (by omega) (by omega);have a4:(100000-l)*(s+1000)≥0:=Int.mul_nonneg (by omega) (by omega);simp only[Int.add_mul,Int.mul_add,Int.sub_mul,Int.mul_sub]at a1 a2 a3 a4;omega
theorem partOf(l a:Int)(w:World)(hL:Sine.Laid w)(h0: -100000≤l)(h1:l≤100000)(h2: -10000≤a)(h3:a≤10000):
    Calls Tryd.prog 124 #[.int .i64 l,.int .i64 a] w fun e w'=>e= .returned (.tuple #[.int .i64 (part l a).1,.int .i64 (part l a).2])∧Below w.heap.size w w':=by
  have b0: -100000≤a:=by omega
  have b1:a≤100000:=by omega
  have b2: -1000000≤a:=by omega
  have b3:a≤1000000:=by omega
  have p1:=prod_bound l (a+90) h0 h1;have p2:=prod_bound l a h0 h1;have e1:wrap64 (l*Sine.f (a+90))=l*Sine.f (a+90):=by unfold wrap64;omega
  have e2:wrap64 (l*Sine.f a)=l*Sine.f a:=by unfold wrap64;omega
  have R1:=ak (rounded_eq (l*Sine.f (a+90)) (by omega) (by omega));have R2:=ak (rounded_eq (l*Sine.f a) (by omega) (by omega));have HL:=ak hL;unfold part;clear hL p1 p2 h0 h1 h2 h3;have HB:=ak (Below.refl w.heap.size w);go_enter Tryd.func124,Tryd.ntmps124
  go_wp2_with (first
    |(go_at_call 133;(with_reducible refine(cosine a _ ?s1 b0 b1).mono ?_);(case s1=>exact HL.out.keep qz56);rintro e w' ⟨rfl,hw⟩;replace HB:=ak (below_step qz56 hw);clear hw)
    |(go_at_call 134;(with_reducible refine(Sine.calls a _ ?s1 b2 b3).mono ?_);(case s1=>exact HL.out.keep qz56);rintro e w' ⟨rfl,hw⟩;replace HB:=ak (below_step qz56 hw);clear hw)
    |(go_at_call 132;(first|(with_reducible refine(impl_rounded.calls 2 _ _ _ _ R1.out).mono ?_)|(with_reducible refine(impl_rounded.calls 2 _ _ _ _ R2.out).mono ?_));rintro e w' ⟨rfl,hq⟩;have hw:=hq.below;clear hq;replace HB:=ak (below_step qz56 hw);clear hw))
  exact bodyPost_ret (v:= .tuple #[.int .i64 (rnd (l*Sine.f (a+90))),.int .i64 (rnd (l*Sine.f a))]) (by simp[results,Tryd.results124,go_sem]) rfl ⟨rfl,qz56⟩
theorem mul_bound(l s b:Int)(h0: -b≤l)(h1:l≤b)(hs: -1000≤s∧s≤1000): -(1000*b)≤l*s∧l*s≤1000*b:=by
  have a1:(l+b)*(1000-s)≥0:=Int.mul_nonneg (by omega) (by omega);have a2:(l+b)*(s+1000)≥0:=Int.mul_nonneg (by omega) (by omega);have a3:(b-l)*(1000-s)≥0:=Int.mul_nonneg (by omega) (by omega);have a4:(b-l)*(s+1000)≥0:=Int.mul_nonneg (by omega) (by omega);simp only[Int.add_mul,Int.mul_add,Int.sub_mul,Int.mul_sub]at a1 a2 a3 a4;have c:=Int.mul_comm b s;omega
theorem rnd_bound(x b:Int)(h0: -(1000*b)≤x)(h1:x≤1000*b): -b≤rnd x∧rnd x≤b:=by
  unfold rnd;split<;>omega
theorem part_bound(l a b:Int)(h0: -b≤l)(h1:l≤b):(-b≤(part l a).1∧(part l a).1≤b)∧(-b≤(part l a).2∧(part l a).2≤b):=by
  unfold part;have h2:=mul_bound l _ b h0 h1 (Sine.f_bound (a+90));have h3:=mul_bound l _ b h0 h1 (Sine.f_bound a);exact⟨rnd_bound _ b h2.1 h2.2,rnd_bound _ b h3.1 h3.2⟩
def Good(x:S49):Prop:=(0≤x.f0∧x.f0<8)∧(0≤x.f1∧x.f1<8)∧x.f0≠x.f1∧(1≤x.f2∧x.f2≤500)∧(0≤x.f3∧x.f3≤359)∧(-90≤x.f4∧x.f4≤90)
def shift(x:S49):S31:=⟨(part (part x.f2 x.f4).1 x.f3).2,(part (part x.f2 x.f4).1 x.f3).1,(part x.f2 x.f4).2⟩
theorem shift_bound(x:S49)(h:Good x):(-500≤(shift x).f0∧(shift x).f0≤500)∧(-500≤(shift x).f1∧(shift x).f1≤500)∧(-500≤(shift x).f2∧(shift x).f2≤500):=by
  obtain⟨_,_,_,h2,h3,h4⟩:=h;have a:=part_bound x.f2 x.f4 500 (by omega) (by omega);have b:=part_bound (part x.f2 x.f4).1 x.f3 500 a.1.1 a.1.2;exact⟨b.2,b.1,a.2⟩
theorem keepz{w W:World}{a:Addr}{v:Value}(h:w.cell? a=some v)(hf:w.frozen? a=false)(hb:Below w.heap.size w W):W.frozen? a=false:=(hb.frozen (World.block_lt_of_cell? w _ h)).trans hf
theorem legShift(x:S49)(w:World)(hL:Sine.Laid w)(h:Good x):
    Calls Tryd.prog 103 #[.agg #[.int .i64 x.f0,.int .i64 x.f1,.int .i64 x.f2,.int .i64 x.f3,.int .i64 x.f4]] w fun e w'=>e= .returned (.agg #[.int .i64 (shift x).f0,.int .i64 (shift x).f1,.int .i64 (shift x).f2])∧Below w.heap.size w w':=by
  obtain⟨_,_,_,h2,h3,h4⟩:=h;have a:=part_bound x.f2 x.f4 500 (by omega) (by omega);have P1:=fun W hl=>ak (partOf x.f2 x.f4 W hl (by omega) (by omega) (by omega) (by omega))
  have P2:=fun W hl=>ak (partOf (part x.f2 x.f4).1 x.f3 W hl (by omega) (by omega) (by omega) (by omega))
  have HL:=ak hL;have HB:=ak (Below.refl w.heap.size w);clear hL a h2 h3 h4;unfold shift;generalize part x.f2 x.f4=p at *;generalize part p.1 x.f3=r at *;go_enter Tryd.func103,Tryd.ntmps103
  go_wp2_with (first
    | (go_at_call 124;(first|(with_reducible refine(P1 _ ?s1).out.mono ?_)|(with_reducible refine(P2 _ ?s1).out.mono ?_));(case s1=>exact HL.out.keep qz56);rintro e w' ⟨rfl,hw⟩;replace HB:=ak (below_step qz56 hw)
       have k2:w'.cell? ⟨w.heap.size,2,none⟩=some (.int .i64 x.f2):=Sine.keepc qz34 hw;have k3:w'.cell? ⟨w.heap.size,3,none⟩=some (.int .i64 x.f3):=Sine.keepc qz34 hw;have k4:w'.cell? ⟨w.heap.size,4,none⟩=some (.int .i64 x.f4):=Sine.keepc qz34 hw;have g0:w'.cell? ⟨w.heap.size+1,0,none⟩=some (.int .i64 0):=Sine.keepc qz34 hw;have g1:w'.cell? ⟨w.heap.size+1,1,none⟩=some (.int .i64 0):=Sine.keepc qz34 hw;have g2:w'.cell? ⟨w.heap.size+1,2,none⟩=some (.int .i64 0):=Sine.keepc qz34 hw;have z0:w'.frozen? ⟨w.heap.size+1,0,none⟩=false:=keepz (v:= .int .i64 0) qz34 qz34 hw;have z1:w'.frozen? ⟨w.heap.size+1,1,none⟩=false:=keepz (v:= .int .i64 0) qz34 qz34 hw;have z2:w'.frozen? ⟨w.heap.size+1,2,none⟩=false:=keepz (v:= .int .i64 0) qz34 qz34 hw
       clear hw))
  refine bodyPost_ret (v:= .agg #[.int .i64 r.2,.int .i64 r.1,.int .i64 p.2]) (by simp[results,Tryd.results103,go_sem,g0,g1,g2]) rfl ⟨rfl,(by repeat(first|exact HB.out|apply below_alloc|apply below_drew1|(refine below_set ?_ (by omega))))⟩
end Net
namespace Tree
variable {V E:Type}
def verts(r:V)(q:List (E×V×V)):List V:=r::q.map (fun x=>x.2.2)
def legs(q:List (E×V×V)):List E:=q.map (fun x=>x.1)
inductive Tr (r:V):List (E×V×V)→Prop
  |nil:Tr r []
  |cons {q i u s}:Tr r q→u∈verts r q→s∉verts r q→i∉legs q→Tr r ((i,u,s)::q)
def Joins(q:List (E×V×V))(i:E)(a b:V):Prop:=(i,a,b)∈q∨(i,b,a)∈q
inductive Walk (q:List (E×V×V)):V→Option E→List E→V→Prop
  |nil {a o}:Walk q a o [] a
  |cons {a o i c l b}:Joins q i a c→o≠some i→Walk q c (some i) l b→Walk q a o (i::l) b
def W[DecidableEq V]:List (E×V×V)→V→V→List E
  |[],_,_=>[]
  |(i,u,s)::q,a,b=>if a=s then(if b=s then[] else i::W q u b) else if b=s then W q a u++[i] else W q a b
theorem joins_verts{r:V}{q:List (E×V×V)}(t:Tr r q){i a c}(h:Joins q i a c):a∈verts r q∧c∈verts r q∧i∈legs q:=by
  induction t with
  |nil=>simp[Joins]at h
  | cons t hu hs hi ih=>
    simp only[Joins,List.mem_cons,Prod.mk.injEq]at h
    have up:∀{x:V} {q:List (E×V×V)} {y},x∈verts r q→x∈verts r (y::q):=by
      intro x q y hx;simp only[verts,List.map_cons,List.mem_cons]at hx ⊢;rcases hx with h|h
      · exact Or.inl h
      · exact Or.inr (Or.inr h)
    rcases h with(⟨rfl,rfl,rfl⟩|h)|(⟨rfl,rfl,rfl⟩|h)
    · exact⟨up hu,(by simp[verts]),(by simp[legs])⟩
    · obtain⟨p,q',l⟩:=ih (Or.inl h)
      exact⟨up p,up q',(by simp only[legs,List.map_cons,List.mem_cons]at l ⊢;exact Or.inr l)⟩
    · exact⟨(by simp[verts]),up hu,(by simp[legs])⟩
    · obtain⟨p,q',l⟩:=ih (Or.inr h)
      exact⟨up p,up q',(by simp only[legs,List.map_cons,List.mem_cons]at l ⊢;exact Or.inr l)⟩
theorem W_len [DecidableEq V] (q:List (E×V×V)) (a b:V):(W q a b).length≤q.length:=by
  induction q generalizing a b with
  |nil=>simp[W]
  | cons x q ih=>
    obtain⟨i,u,s⟩:=x;simp only[W,List.length_cons];split
    · split
      · simp
      · have:=ih u b
        simp only[List.length_cons];omega
    · split
      · have:=ih a u
        simp only[List.length_append,List.length_cons,List.length_nil];omega
      · have:=ih a b
        omega
theorem Walk.snoc{q:List (E×V×V)}{i:E}{a o l u s}(h:Walk q a o l u)(hj:Joins q i u s)(hi:i∉l)(ho:o≠some i):Walk q a o (l++[i]) s:=by
  induction h with
  |nil=>exact .cons hj ho .nil
  | cons hj1 ho1 _ ih=>
    exact .cons hj1 ho1 (ih hj (fun h=>hi (List.mem_cons_of_mem _ h)) (fun e=>hi (by injection e with e;rw[e];exact List.mem_cons_self)))
end Tree
namespace Conn
variable {V:Type}
inductive Conn (R:V→V→Prop) (x:V):V→Prop
  |refl:Conn R x x
  |step {y z}:Conn R x y→R y z→Conn R x z
theorem Conn.one{R:V→V→Prop}{x y:V}(h:R x y):Conn R x y:= .step .refl h
theorem Conn.trans{R:V→V→Prop}{x y z:V}(h:Conn R x y)(h':Conn R y z):Conn R x z:=by
  induction h' with
  |refl=>exact h
  |step _ r ih=>exact .step ih r
theorem Conn.symm{R:V→V→Prop}(hs:∀a b,R a b→R b a){x y:V}(h:Conn R x y):Conn R y x:=by
  induction h with
  |refl=>exact .refl
  |step _ r ih=>exact(Conn.one (hs _ _ r)).trans ih
theorem Conn.map{R Q:V→V→Prop}(hr:∀a b,R a b→Conn Q a b){x y:V}(h:Conn R x y):Conn Q x y:=by
  induction h with
  |refl=>exact .refl
  |step _ r ih=>exact ih.trans (hr _ _ r)
theorem round{R Q:V→V→Prop}(hs:∀a b,Q a b→Q b a){a b o:V}(hr:∀x y,R x y→Q x y∨(x=a∧y=b)∨(x=b∧y=a))
    (ho:Conn R o a):Conn Q a b↔(Conn Q o a∧Conn Q o b):=by
  constructor
  · intro h
    have up:Conn Q o a:=ho.map (fun x y r=>by
      rcases hr x y r with q|⟨rfl,rfl⟩|⟨rfl,rfl⟩
      · exact .one q
      · exact h
      · exact h.symm hs)
    exact⟨up,up.trans h⟩
  · rintro⟨h1,h2⟩
    exact(h1.symm hs).trans h2
end Conn
namespace Grow
open Tree Conn
abbrev Q:=List (Int×Int×Int)
variable (e:Int→Int×Int)
def step(q:Q)(i:Int):Q:=
  if(e i).1∈verts 0 q∧(e i).2∉verts 0 q then(i,(e i).1,(e i).2)::q
  else if(e i).2∈verts 0 q∧(e i).1∉verts 0 q then(i,(e i).2,(e i).1)::q
  else q
def sweep:Nat→Int→Q→Q
  |0,_,q=>q
  |m+1,a,q=>sweep m (a+1) (step e q a)
def grow(n:Nat):Nat→Q→Q
  |0,q=>q
  |k+1,q=>if(sweep e n 0 q).length=q.length then q else grow n k (sweep e n 0 q)
structure Ok(n:Nat)(q:Q):Prop where
  tr:Tr (0:Int) q
  ends:∀x∈q,(e x.1=(x.2.1,x.2.2)∨e x.1=(x.2.2,x.2.1))∧0≤x.1∧x.1<n
theorem Ok.nil(n:Nat):Ok e n []:=⟨.nil,by simp⟩
theorem Ok.legs_ends{n:Nat}{q:Q}(h:Ok e n q){i}(hi:i∈legs q):(e i).1∈verts 0 q∧(e i).2∈verts 0 q∧Joins q i (e i).1 (e i).2∧0≤i∧i<n:=by
  simp only[legs,List.mem_map]at hi;obtain⟨⟨j,u,s⟩,hx,rfl⟩:=hi;obtain⟨he,h0⟩:=h.ends _ hx;have hj:Joins q j u s:=Or.inl hx;have hv:=joins_verts h.tr hj;simp only at he h0 ⊢;rcases he with he|he<;>rw[he]
  · exact⟨hv.1,hv.2.1,hj,h0⟩
  · exact⟨hv.2.1,hv.1,Or.inr hx,h0⟩
theorem Ok.step{n:Nat}{q:Q}(h:Ok e n q){i:Int}(h0:0≤i)(h1:i<n):Ok e n (step e q i):=by
  unfold Grow.step;split
  · rename_i c
    refine⟨.cons h.tr c.1 c.2 (fun hi=>c.2 (h.legs_ends e hi).2.1),?_⟩;intro x hx;rcases List.mem_cons.mp hx with rfl|hx
    · exact⟨Or.inl rfl,h0,h1⟩
    · exact h.ends x hx
  · split
    · rename_i c
      refine⟨.cons h.tr c.1 c.2 (fun hi=>c.2 (h.legs_ends e hi).1),?_⟩;intro x hx;rcases List.mem_cons.mp hx with rfl|hx
      · exact⟨Or.inr rfl,h0,h1⟩
      · exact h.ends x hx
    · exact h
theorem Ok.sweep{n:Nat}:∀{m:Nat} {a:Int} {q:Q},Ok e n q→0≤a→a+m≤n→Ok e n (sweep e m a q)
  |0,_,_,h,_,_=>h
  |m+1,a,_,h,h0,h1=>Ok.sweep (m:=m) (h.step e h0 (by omega)) (by omega) (by omega)
theorem step_len(q:Q)(i:Int):q.length≤(step e q i).length:=by
  unfold step;split
  · simp
  · split<;>simp
theorem sweep_len:∀(m:Nat) (a:Int) (q:Q),q.length≤(sweep e m a q).length
  |0,_,_=>Nat.le_refl _
  |m+1,a,q=>Nat.le_trans (step_len e q a) (sweep_len m (a+1) (step e q a))
theorem step_same{q:Q}{i:Int}(h:(step e q i).length=q.length):step e q i=q∧((e i).1∈verts 0 q↔(e i).2∈verts 0 q):=by
  unfold step at h ⊢;split at h
  · simp at h
  · rename_i c
    split at h
    · simp at h
    · rename_i c2
      rw[if_neg c,if_neg c2];refine⟨rfl,?_⟩;by_cases p:(e i).1∈verts 0 q<;>by_cases p2:(e i).2∈verts 0 q<;>simp_all
theorem sweep_same:∀{m:Nat} {a:Int} {q:Q},(sweep e m a q).length=q.length →
    sweep e m a q=q∧∀i:Int,a≤i→i<a+m→((e i).1∈verts 0 q↔(e i).2∈verts 0 q)
  |0,a,q,_=>⟨rfl,fun i h0 h1=>by omega⟩
  | m+1,a,q,h=>by
    have l1:=step_len e q a;have l2:=sweep_len e m (a+1) (step e q a);simp only[sweep]at h ⊢;obtain⟨s1,s2⟩:=step_same e (q:=q) (i:=a) (by omega);rw[s1]at h ⊢;obtain⟨t1,t2⟩:=sweep_same (m:=m) (a:=a+1) h;refine⟨t1,fun i h0 h1=>?_⟩;by_cases hi:i=a
    · subst hi;exact s2
    · exact t2 i (by omega) (by omega)
theorem nodup{q:Q}(t:Tr (0:Int) q):(verts 0 q).Nodup:=by
  induction t with
  |nil=>simp[verts]
  | cons _ _ hs _ ih=>
    simp only[verts,List.map_cons,List.nodup_cons,List.mem_cons,not_or]at ih hs ⊢;exact⟨⟨fun h=>hs.1 h.symm,ih.1⟩,hs.2,ih.2⟩
theorem in_range{n:Nat}{q:Q}(h:Ok e n q)(hr:∀i:Int,0≤i→i<n→0≤(e i).1∧(e i).1<8∧0≤(e i).2∧(e i).2<8):∀s∈verts 0 q,0≤s∧s<8:=by
  intro s hs;simp only[verts,List.mem_cons,List.mem_map]at hs;rcases hs with rfl|⟨x,hx,rfl⟩
  · omega
  · obtain⟨he,h0,h1⟩:=h.ends x hx
    have:=hr _ h0 h1;rcases he with he|he<;>rw[he]at this<;>simp only at this<;>omega
theorem nodup_len:∀{m:Nat} {l:List Int},l.Nodup→(∀s∈l,0≤s∧s<m)→l.length≤m
  | 0,l,_,h=>by
    cases l with
    |nil=>simp
    |cons a l=>have:=h a List.mem_cons_self;omega
  | m + 1,l,hn,h=>by
    by_cases hm:(m:Int)∈l
    · have:=nodup_len (m:=m) (l:=l.erase m) (hn.erase _) (fun s hs=>by
        have h1:=h s (List.mem_of_mem_erase hs);have h2:s≠m:=fun e=>by subst e;exact(List.Nodup.not_mem_erase hn) hs
        omega)
      rw[List.length_erase_of_mem hm]at this;omega
    · have:=nodup_len (m:=m) (l:=l) hn (fun s hs=>by
        have h1:=h s hs;have h2:s≠m:=fun e=>hm (e▸hs)
        omega)
      omega
theorem Ok.len{n:Nat}{q:Q}(h:Ok e n q)(hr:∀i:Int,0≤i→i<n→0≤(e i).1∧(e i).1<8∧0≤(e i).2∧(e i).2<8):q.length≤7:=by
  have:=nodup_len (m:=8) (nodup h.tr) (in_range e h hr);simp only[verts,List.length_cons,List.length_map]at this;omega
theorem grow_end{n:Nat}(hr:∀i:Int,0≤i→i<n→0≤(e i).1∧(e i).1<8∧0≤(e i).2∧(e i).2<8):
    ∀ (k:Nat) (q:Q),Ok e n q→8≤k+q.length→Ok e n (grow e n k q)∧sweep e n 0 (grow e n k q)=grow e n k q ∧
      ∀i:Int,0≤i→i<n→((e i).1∈verts 0 (grow e n k q)↔(e i).2∈verts 0 (grow e n k q))
  |0,q,h,hk=>by have:=h.len e hr;omega
  | k +1,q,h,hk=>by
    simp only[grow];have hs:Ok e n (sweep e n 0 q):=h.sweep e (by omega) (by omega);split
    · rename_i c
      obtain⟨s1,s2⟩:=sweep_same e c;exact⟨h,s1,fun i h0 h1=>s2 i h0 (by omega)⟩
    · rename_i c
      have:=sweep_len e n 0 q;exact grow_end hr k _ hs (by omega)
end Grow
namespace Bfs
open Tree Conn Grow
variable (e:Int→Int×Int) (use:Int→Bool) (r:Int)
def other(i a:Int):Int:=(e i).1+(e i).2-a
def look(a:Int)(q:Q)(i:Int):Q:=
  if((e i).1≠a∧(e i).2≠a)∨use i=false then q
  else if other e i a∈verts r q then q else(i,a,other e i a)::q
def scan(a:Int):Nat→Int→Q→Q
  |0,_,q=>q
  |m+1,b,q=>scan a m (b+1) (look e use r a q b)
def queue(q:Q):List Int:=r::(q.map (fun x=>x.2.2)).reverse
def run(n:Nat):Nat→Nat→Q→Q
  |0,_,q=>q
  |f+1,k,q=>if k<(queue r q).length then run n f (k+1) (scan e use r ((queue r q).getD k 0) n 0 q) else q
structure Ok(n:Nat)(q:Q):Prop where
  tr:Tr r q
  ends:∀x∈q,(e x.1=(x.2.1,x.2.2)∨e x.1=(x.2.2,x.2.1))∧(0≤x.1∧x.1<n)∧use x.1=true
theorem Ok.nil(n:Nat):Ok e use r n []:=⟨.nil,by simp⟩
theorem look_cases{a i:Int}(h:¬(((e i).1≠a∧(e i).2≠a)∨use i=false)):
    use i=true∧(e i=(a,other e i a)∨e i=(other e i a,a)):=by
  have hu:use i=true:=by
    cases hb:use i
    · exact absurd (Or.inr hb) h
    · rfl
  refine⟨hu,?_⟩;by_cases h1:(e i).1=a
  · left
    ext
    · exact h1
    · simp only[other];omega
  · by_cases h2:(e i).2=a
    · right
      ext
      · simp only[other];omega
      · exact h2
    · exact absurd (Or.inl ⟨h1,h2⟩) h
theorem Ok.legs_ends{n:Nat}{q:Q}(h:Ok e use r n q){i}(hi:i∈legs q):(e i).1∈verts r q∧(e i).2∈verts r q:=by
  simp only[legs,List.mem_map]at hi;obtain⟨⟨j,u,s⟩,hx,rfl⟩:=hi;obtain⟨he,h0⟩:=h.ends _ hx;have hj:Joins q j u s:=Or.inl hx;have hv:=joins_verts h.tr hj;simp only at he h0 ⊢;rcases he with he|he<;>rw[he]
  · exact⟨hv.1,hv.2.1⟩
  · exact⟨hv.2.1,hv.1⟩
theorem Ok.look {n:Nat} {q:Q} (h:Ok e use r n q) {a i:Int} (ha:a∈verts r q) (h0:0≤i) (h1:i<n):Ok e use r n (look e use r a q i):=by
  unfold Bfs.look;split
  · exact h
  · rename_i c
    obtain⟨hu,he⟩:=look_cases e use c;split
    · exact h
    · rename_i c2
      refine⟨.cons h.tr ha c2 (fun hi=>?_),?_⟩
      · have:=h.legs_ends e use r hi
        rcases he with he|he<;>rw[he]at this
        · exact c2 this.2
        · exact c2 this.1
      · intro x hx
        rcases List.mem_cons.mp hx with rfl|hx
        · exact⟨he,⟨h0,h1⟩,hu⟩
        · exact h.ends x hx
def Ext(q q':Q):Prop:=∃p,q'=p++q
theorem Ext.refl(q:Q):Ext q q:=⟨[],rfl⟩
theorem Ext.trans{a b c:Q}(h:Ext a b)(h':Ext b c):Ext a c:=by
  obtain⟨p,rfl⟩:=h;obtain⟨p',rfl⟩:=h';exact⟨p'++p,(by rw[List.append_assoc])⟩
theorem look_ext(a:Int)(q:Q)(i:Int):Ext q (look e use r a q i):=by
  unfold look;split
  · exact .refl q
  · split
    · exact .refl q
    · exact⟨[_],rfl⟩
theorem Ext.verts{q q':Q}(h:Ext q q'){s:Int}(hs:s∈Tree.verts r q):s∈Tree.verts r q':=by
  obtain⟨p,rfl⟩:=h;simp only[Tree.verts,List.map_append,List.mem_cons,List.mem_append]at hs ⊢;rcases hs with h|h
  · exact Or.inl h
  · exact Or.inr (Or.inr h)
theorem Ext.queue{q q':Q}(h:Ext q q'):∃t,Bfs.queue r q'=Bfs.queue r q++t:=by
  obtain⟨p,rfl⟩:=h;exact⟨(p.map (fun x=>x.2.2)).reverse,(by simp[Bfs.queue])⟩
theorem nodup{q:Q}(t:Tr r q):(verts r q).Nodup:=by
  induction t with
  |nil=>simp[verts]
  | cons _ _ hs _ ih=>
    simp only[verts,List.map_cons,List.nodup_cons,List.mem_cons,not_or]at ih hs ⊢;exact⟨⟨fun h=>hs.1 h.symm,ih.1⟩,hs.2,ih.2⟩
theorem Ok.len{n:Nat}{q:Q}(h:Ok e use r n q)(h0:0≤r∧r<8)(hr:∀i:Int,0≤i→i<n→0≤(e i).1∧(e i).1<8∧0≤(e i).2∧(e i).2<8):q.length≤7:=by
  have:=nodup_len (m:=8) (nodup r h.tr) (by
    intro s hs;simp only[verts,List.mem_cons,List.mem_map]at hs;rcases hs with rfl|⟨x,hx,rfl⟩
    · exact h0
    · obtain⟨he,⟨h0,h1⟩,_⟩:=h.ends x hx
      have:=hr _ h0 h1
      rcases he with he|he<;>rw[he]at this<;>simp only at this<;>omega)
  simp only[verts,List.length_cons,List.length_map]at this;omega
theorem queue_len(q:Q):(queue r q).length=q.length+1:=by simp[queue]
def back:Q→Int→List Int
  |[],_=>[]
  |(i,u,s)::q,a=>if a=s then i::back q u else back q a
theorem back_eq{q:Q}(t:Tr r q):∀{a},a∈verts r q→back q a=W q a r:=by
  induction t with
  |nil=>intro a _;rfl
  | cons t hu hs hi ih=>
    rename_i q i u s
    intro a ha;have hr:¬r=s:=fun e=>hs (by simp[verts,e])
    simp only[back,W];by_cases c:a=s
    · rw[if_pos c,if_pos c,if_neg hr,ih hu]
    · rw[if_neg c,if_neg c,if_neg hr]
      refine ih ?_;simp only[verts,List.map_cons,List.mem_cons]at ha ⊢;rcases ha with h|h|h
      · exact Or.inl h
      · exact absurd h c
      · exact Or.inr h
end Bfs
namespace Way
open Tree Conn Grow
theorem Walk.map{q q':Q}(hj:∀i a b,Joins q i a b→Joins q' i a b){a:Int}{o:Option Int}{l:List Int}{b:Int}(h:Walk q a o l b):Walk q' a o l b:=by
  induction h with
  |nil=>exact .nil
  |cons h1 h2 _ ih=>exact .cons (hj _ _ _ h1) h2 ih
variable (e:Int→Int×Int)
end Way
namespace Dfs
open Tree Grow
theorem Walk.ext{q:Q}{i:Int}{a:Int}{o:Option Int}{l:List Int}{b c:Int}(h:Walk q a o l b)(hj:Joins q i b c)(hi:l.getLast?.or o≠some i):Walk q a o (l++[i]) c:=by
  induction h with
  |nil=>exact .cons hj hi .nil
  | cons h1 h2 h3 ih=>
    rename_i a o j d l b
    refine .cons h1 h2 (ih hj ?_);rw[List.getLast?_cons]at hi
    cases hl:l.getLast? with
    |none=>rw[hl]at hi;simpa using hi
    |some z=>rw[hl]at hi;simpa using hi
variable (e:Int→Int×Int)
mutual
def dfs(tree:List Int)(dst:Int):Nat→Int→Int→Option (List Int×Bool)
  |0,_,_=>none
  |f+1,fr,last=>if fr=dst then some ([],true) else try_ tree dst f fr last tree
  termination_by f=>(f,0)
def try_ (tree:List Int) (dst:Int) (f:Nat) (fr last:Int):List Int→Option (List Int×Bool)
  |[]=>some ([],false)
  | i::t=>if i=last∨((e i).1≠fr∧(e i).2≠fr)then try_ tree dst f fr last t
    else(dfs tree dst f ((e i).1+(e i).2-fr) i).bind fun x=>if x.2=true then some (i::x.1,true) else try_ tree dst f fr last t
  termination_by l=>(f,l.length+1)
end
end Dfs
namespace Sum
open Tree Grow
variable (e:Int→Int×Int) (sh:Int→Int)
def pl:Q→Int→Int
  |[],_=>0
  |(i,u,s)::q,x=>if x=s then(if(e i).1=u then pl q u+sh i else pl q u-sh i) else pl q x
theorem pl_leg{n:Nat}{q:Q}(h:Ok e n q){i a b:Int}(hj:Joins q i a b)(he:e i=(a,b)):
    pl e sh q b=pl e sh q a+sh i:=by
  obtain⟨t,hx⟩:=h
  induction t generalizing a b with
  |nil=>simp[Joins]at hj
  | cons t hu hs hi ih=>
    rename_i q j u s
    have hv:∀{a b},Joins q i a b→a≠s∧b≠s:=fun h=>by
      have:=joins_verts t h;exact⟨fun e=>hs (e▸this.1),fun e=>hs (e▸this.2.1)⟩
    have ih':=fun{a b}=> @ih a b (hx:=fun x h=>hx x (List.mem_cons_of_mem _ h))
    obtain⟨hb,h0,h1⟩:=hx (j,u,s) List.mem_cons_self;have us:u≠s:=fun e=>hs (e▸hu)
    simp only[Joins,List.mem_cons,Prod.mk.injEq]at hj;simp only[pl];rcases hj with(⟨rfl,rfl,rfl⟩|hj)|(⟨rfl,rfl,rfl⟩|hj)
    · rw[if_pos rfl,if_neg us,he];simp
    · have:=hv (Or.inl hj)
      rw[if_neg this.1,if_neg this.2];exact ih' (Or.inl hj) he
    · rw[if_neg us,if_pos rfl,he]
      simp only;rw[if_neg (fun e=>us e.symm)];omega
    · have:=hv (Or.inr hj)
      rw[if_neg this.1,if_neg this.2];exact ih' (Or.inr hj) he
variable (w:Int→Int) (hr:∀x,(w x-x) % 18446744073709551616=0) (hc:∀x y,(x-y) % 18446744073709551616=0→w x=w y)
end Sum
end Go.Proofs.YtcafgpincnkcdaaDoor
namespace Go.Proofs.YtcafgpincnkcdaaDoor.Sort
def Asc(l:List Int):Prop:=l.Pairwise (· < ·)
def put:List Int→Int→List Int
  |[],n=>[n]
  |x::l,n=>if x<n then x::put l n else if x=n then x::l else n::x::l
theorem mem_put (l:List Int) (n s:Int):s∈put l n↔s=n∨s∈l:=by
  induction l with
  |nil=>simp[put]
  | cons x l ih=>
    simp only[put];split
    · simp only[List.mem_cons,ih]
      constructor
      · rintro(h|h|h)<;>simp[h]
      · rintro(h|h|h)<;>simp[h]
    · split
      · rename_i h;subst h
        simp only[List.mem_cons]
        constructor
        · rintro(h|h)<;>simp[h]
        · rintro(h|h|h)<;>simp[h]
      · simp only[List.mem_cons]
theorem asc_put {l:List Int} (h:Asc l) (n:Int):Asc (put l n):=by
  induction l with
  |nil=>simp[put,Asc]
  | cons x l ih=>
    have h':=List.pairwise_cons.mp h;simp only[put];split
    · rename_i c
      refine List.pairwise_cons.mpr ⟨fun s hs=>?_,ih h'.2⟩;rcases(mem_put l n s).mp hs with rfl|hs
      · exact c
      · exact h'.1 s hs
    · split
      · exact h
      · refine List.pairwise_cons.mpr ⟨fun s hs=>?_,h⟩
        rcases List.mem_cons.mp hs with rfl|hs
        · omega
        · have:=h'.1 s hs;omega
theorem ext:∀{l m:List Int},Asc l→Asc m→(∀s,s∈l↔s∈m)→l=m
  |[],[],_,_,_=>rfl
  |[],y::m,_,_,h=>by have:=(h y).mpr List.mem_cons_self;simp at this
  |x::l,[],_,_,h=>by have:=(h x).mp List.mem_cons_self;simp at this
  | x ::l,y::m,hl,hm,h=>by
    have hl':=List.pairwise_cons.mp hl;have hm':=List.pairwise_cons.mp hm
    have e:x=y:=by
      have h1:=(h x).mp List.mem_cons_self;have h2:=(h y).mpr List.mem_cons_self;rcases List.mem_cons.mp h1 with h1|h1
      · exact h1
      · rcases List.mem_cons.mp h2 with h2|h2
        · exact h2.symm
        · have a:=hm'.1 x h1;have b:=hl'.1 y h2;omega
    subst e;rw[ext hl'.2 hm'.2 (fun s=>?_)];have:=h s;simp only[List.mem_cons]at this
    constructor
    · intro hs
      rcases this.mp (Or.inr hs)with rfl|h1
      · have:=hl'.1 s hs;omega
      · exact h1
    · intro hs
      rcases this.mpr (Or.inr hs)with rfl|h1
      · have:=hm'.1 s hs;omega
      · exact h1
end Go.Proofs.YtcafgpincnkcdaaDoor.Sort
namespace Go.Proofs.YtcafgpincnkcdaaDoor
namespace Net
open Go.RowKit YtcafgpincnkcdaaDoorW.PrintWords YtcafgpincnkcdaaDoorW.PrintLast YtcafgpincnkcdaaDoorW.PrintMore A
open Tree (verts legs)
open Grow (Q)
abbrev L:=List S49
def leg(ls:L)(i:Int):S49:=rd_T49 ls i
def ends(ls:L)(i:Int):Int×Int:=((leg ls i).f0,(leg ls i).f1)
def plus(a b:S31)(k:Int):S31:=⟨wrap64 (a.f0+wrap64 (k*b.f0)),wrap64 (a.f1+wrap64 (k*b.f1)),wrap64 (a.f2+wrap64 (k*b.f2))⟩
def plq(ls:L):Q→Int→S31
  |[],_=>z31
  |(i,u,s)::q,x=>if x=s then plus (plq ls q u) (shift (leg ls i)) (if(ends ls i).1=u then 1 else -1) else plq ls q x
theorem shiftPlus(a b:S31)(k:Int)(w:World):
    Calls Tryd.prog 102 #[.agg #[.int .i64 a.f0,.int .i64 a.f1,.int .i64 a.f2],.agg #[.int .i64 b.f0,.int .i64 b.f1,.int .i64 b.f2],.int .i64 k] w fun e w'=>e= .returned (.agg #[.int .i64 (plus a b k).f0,.int .i64 (plus a b k).f1,.int .i64 (plus a b k).f2])∧Below w.heap.size w w':=
  (impl_Shift_plus.calls a.f0 a.f1 a.f2 b.f0 b.f1 b.f2 k _ _ _ w rfl).mono fun e w' h=>⟨h.1,h.2⟩
theorem info4:(Tryd.prog.info? 4).map (fun i=>(i.zero,i.size,i.bytes))=some (some (.bool false),1,1):=by kernel_rfl
theorem makeBools(n:Nat)(hn:n≤12)(w:World):(Instr.makeSlice 56 (.int .i64 (n:Int)) (.int .i64 (n:Int))).run Tryd.prog w= .ok (.slice (some ⟨w.heap.size,0,none⟩) n n) (w.alloc (.cells (madeCells #[.bool false] n) 4)):=by
  obtain⟨i0,hi,hzz⟩:=Option.map_eq_some_iff.1 info4;simp only[Prod.mk.injEq]at hzz;obtain⟨hz0,hz1,hz2⟩:=hzz;have h:=run_make (P:=Tryd.prog) w 56 4 i0 (.bool false) Tryd.underlying56 hi hz0 .i64 .i64 (n:Int) (n:Int) (by omega) (Int.le_refl _) (by rw[hz2];omega) (by omega);rw[hz1]at h;simpa[Value.cells]using h
structure St(n:Nat)(T g:Nat)(P:Nat→Bool)(X:Nat→S31)(B:Nat→Bool)(cl:Value)(W:World):Prop where
  pb:∀s:Nat,s<8→W.cell? ⟨g,s,none⟩=some (.bool (P s))
  px:∀s:Nat,s<8→W.cell? ⟨g,8+s*3,none⟩=some (.int .i64 (X s).f0)
  py:∀s:Nat,s<8→W.cell? ⟨g,8+s*3+1,none⟩=some (.int .i64 (X s).f1)
  pz:∀s:Nat,s<8→W.cell? ⟨g,8+s*3+2,none⟩=some (.int .i64 (X s).f2)
  tc:W.cell? ⟨g,32,none⟩=some (.slice (some ⟨T,0,none⟩) n n)
  cc:W.cell? ⟨g,33,none⟩=some cl
  tb:∀i:Nat,i<n→W.cell? ⟨T,i,none⟩=some (.bool (B i))
  fg:∀j,W.frozen? ⟨g,j,none⟩=false
  ft:∀j,W.frozen? ⟨T,j,none⟩=false
  ne:g≠T
  ge:T<W.heap.size
section
variable {n:Nat} {T g:Nat} {P P':Nat→Bool} {X X':Nat→S31} {B B':Nat→Bool} {cl:Value} {w W:World}
theorem St.keep(h:St n T g P X B cl w)(hb:Below w.heap.size w W):St n T g P X B cl W:=
  have hg:g<w.heap.size:=World.block_lt_of_cell? w _ h.tc
  ⟨fun s hs=>Sine.keepc (h.pb s hs) hb,fun s hs=>Sine.keepc (h.px s hs) hb,fun s hs=>Sine.keepc (h.py s hs) hb,fun s hs=>Sine.keepc (h.pz s hs) hb,Sine.keepc h.tc hb,Sine.keepc h.cc hb,
    fun i hi=>Sine.keepc (h.tb i hi) hb,fun j=>(hb.frozen (p:=⟨g,j,none⟩) hg).trans (h.fg j),fun j=>(hb.frozen (p:=⟨T,j,none⟩) h.ge).trans (h.ft j),h.ne,Nat.lt_of_lt_of_le h.ge hb.size⟩
theorem St.blocks(h:St n T g P X B cl w)(hg:W.heap[g]?=w.heap[g]?)(hT:W.heap[T]?=w.heap[T]?)(hs:w.heap.size≤W.heap.size):St n T g P X B cl W:=
  have c:∀{i:Nat} {v:Value},w.cell? ⟨g,i,none⟩=some v→W.cell? ⟨g,i,none⟩=some v:=fun h=>(World.cell?_of_block hg).trans h
  ⟨fun s hs=>c (h.pb s hs),fun s hs=>c (h.px s hs),fun s hs=>c (h.py s hs),fun s hs=>c (h.pz s hs),c h.tc,c h.cc,fun i hi=>(World.cell?_of_block (a:=⟨T,i,none⟩) hT).trans (h.tb i hi),
    fun j=>(World.frozen?_of_block (a:=⟨g,j,none⟩) hg).trans (h.fg j),fun j=>(World.frozen?_of_block (a:=⟨T,j,none⟩) hT).trans (h.ft j),h.ne,Nat.lt_of_lt_of_le h.ge hs⟩
theorem St.congr(h:St n T g P X B cl W)(hP:∀s,s<8→P' s=P s)(hX:∀s,s<8→X' s=X s)(hB:∀i,i<n→B' i=B i):St n T g P' X' B' cl W:=
  ⟨fun s hs=>hP s hs▸h.pb s hs,fun s hs=>hX s hs▸h.px s hs,fun s hs=>hX s hs▸h.py s hs,fun s hs=>hX s hs▸h.pz s hs,h.tc,h.cc,fun i hi=>hB i hi▸h.tb i hi,h.fg,h.ft,h.ne,h.ge⟩
theorem far{a b:Addr}{v u:Value}(h:W.cell? b=some u)(hne:a≠b):(W.setCell a v).cell? b=some u:=by rw[World.cell?_setCell_other (h:=hne)];exact h
theorem cdrew{a:Addr}{u:Value}(h:W.cell? a=some u):W.drew.cell? a=some u:=h
theorem St.drew(h:St n T g P X B cl W):St n T g P X B cl W.drew:=h.keep (below_drew1 (Below.refl _ _))
theorem same{a:Addr}{v u:Value}(h:W.cell? a=some u):(W.setCell a v).cell? a=some v:=World.cell?_setCell_same' W a v (by rw[h];rfl)
theorem offne{g i j:Nat}(h:i≠j):(⟨g,i,none⟩:Addr)≠⟨g,j,none⟩:=fun e=>h (by injection e)
theorem blkne{g k i j:Nat}(h:g≠k):(⟨g,i,none⟩:Addr)≠⟨k,j,none⟩:=fun e=>h (by injection e)
theorem frz(a:Addr)(v:Value)(p:Addr):(W.setCell a v).frozen? p=W.frozen? p:=by go_simp
theorem St.setP(h:St n T g P X B cl W){s:Nat}(hs:s<8):St n T g (fun i=>if i=s then true else P i) X B cl (W.setCell ⟨g,s,none⟩ (.bool true)):=by
  refine⟨fun i hi=>?_,fun i hi=>far (h.px i hi) (offne (by omega)),fun i hi=>far (h.py i hi) (offne (by omega)),fun i hi=>far (h.pz i hi) (offne (by omega)),far h.tc (offne (by omega)),far h.cc (offne (by omega)),
    fun i hi=>far (h.tb i hi) (blkne h.ne),fun j=>(frz _ _ _).trans (h.fg j),fun j=>(frz _ _ _).trans (h.ft j),h.ne,by simpa using h.ge⟩
  by_cases e:i=s
  · subst e;rw[if_pos rfl];exact same (h.pb i hi)
  · rw[if_neg e];exact far (h.pb i hi) (offne (fun e'=>e e'.symm))
theorem St.setB(h:St n T g P X B cl W){s:Nat}(hs:s<n):St n T g P X (fun i=>if i=s then true else B i) cl (W.setCell ⟨T,s,none⟩ (.bool true)):=by
  have hn:=fun e=>h.ne (Eq.symm e)
  refine⟨fun i hi=>far (h.pb i hi) (blkne hn),fun i hi=>far (h.px i hi) (blkne hn),fun i hi=>far (h.py i hi) (blkne hn),fun i hi=>far (h.pz i hi) (blkne hn),far h.tc (blkne hn),far h.cc (blkne hn),
    fun i hi=>?_,fun j=>(frz _ _ _).trans (h.fg j),fun j=>(frz _ _ _).trans (h.ft j),h.ne,by simpa using h.ge⟩
  by_cases e:i=s
  · subst e;simp only[if_true];exact same (h.tb i hi)
  · rw[if_neg e];exact far (h.tb i hi) (offne (fun e'=>e e'.symm))
theorem St.setC(h:St n T g P X B cl W)(v:Value):St n T g P X B v (W.setCell ⟨g,33,none⟩ v):=
  ⟨fun i hi=>far (h.pb i hi) (offne (by omega)),fun i hi=>far (h.px i hi) (offne (by omega)),fun i hi=>far (h.py i hi) (offne (by omega)),fun i hi=>far (h.pz i hi) (offne (by omega)),far h.tc (offne (by omega)),same h.cc,
    fun i hi=>far (h.tb i hi) (blkne h.ne),fun j=>(frz _ _ _).trans (h.fg j),fun j=>(frz _ _ _).trans (h.ft j),h.ne,by simpa using h.ge⟩
theorem St.setX(h:St n T g P X B cl W){s:Nat}(hs:s<8)(v:S31):St n T g P (fun i=>if i=s then v else X i) B cl
    (((W.setCell ⟨g,8+s*3,none⟩ (.int .i64 v.f0)).setCell ⟨g,8+s*3+1,none⟩ (.int .i64 v.f1)).setCell ⟨g,8+s*3+2,none⟩ (.int .i64 v.f2)):=by
  have f3:∀{b:Addr} {u:Value} {x y z:Value},W.cell? b=some u→(⟨g,8+s*3,none⟩:Addr)≠b→(⟨g,8+s*3+1,none⟩:Addr)≠b→(⟨g,8+s*3+2,none⟩:Addr)≠b →
      (((W.setCell ⟨g,8+s*3,none⟩ x).setCell ⟨g,8+s*3+1,none⟩ y).setCell ⟨g,8+s*3+2,none⟩ z).cell? b=some u:=fun h h1 h2 h3=>far (far (far h h1) h2) h3
  refine⟨fun i hi=>f3 (h.pb i hi) (offne (by omega)) (offne (by omega)) (offne (by omega)),fun i hi=>?_,fun i hi=>?_,fun i hi=>?_,f3 h.tc (offne (by omega)) (offne (by omega)) (offne (by omega)),f3 h.cc (offne (by omega)) (offne (by omega)) (offne (by omega)),
    fun i hi=>f3 (h.tb i hi) (blkne h.ne) (blkne h.ne) (blkne h.ne),fun j=>(frz _ _ _).trans ((frz _ _ _).trans ((frz _ _ _).trans (h.fg j))),fun j=>(frz _ _ _).trans ((frz _ _ _).trans ((frz _ _ _).trans (h.ft j))),h.ne,by simpa using h.ge⟩
  · by_cases e:i=s
    · subst e;simp only[if_true];exact far (far (same (h.px i hi)) (offne (by omega))) (offne (by omega))
    · rw[if_neg e];exact f3 (h.px i hi) (offne (by omega)) (offne (by omega)) (offne (by omega))
  · by_cases e:i=s
    · subst e;simp only[if_true];exact far (same (far (h.py i hi) (offne (by omega)))) (offne (by omega))
    · rw[if_neg e];exact f3 (h.py i hi) (offne (by omega)) (offne (by omega)) (offne (by omega))
  · by_cases e:i=s
    · subst e;simp only[if_true];exact same (far (far (h.pz i hi) (offne (by omega))) (offne (by omega)))
    · rw[if_neg e];exact f3 (h.pz i hi) (offne (by omega)) (offne (by omega)) (offne (by omega))
end
def Pq(q:Q)(s:Nat):Bool:=decide ((s:Int)∈verts 0 q)
def Xq(ls:L)(q:Q)(s:Nat):S31:=plq ls q s
def Bq(q:Q)(i:Nat):Bool:=decide ((i:Int)∈legs q)
theorem Pq_cons(k u s i:Nat)(q:Q):Pq (((k:Int),(u:Int),(s:Int))::q) i=if i=s then true else Pq q i:=by
  unfold Pq;by_cases h:i=s
  · subst h;simp[verts]
  · rw[if_neg h,decide_eq_decide]
    simp only[verts,List.map_cons,List.mem_cons]
    constructor
    · rintro(h1|h1|h1)
      · exact Or.inl h1
      · omega
      · exact Or.inr h1
    · rintro(h1|h1)
      · exact Or.inl h1
      · exact Or.inr (Or.inr h1)
theorem Bq_cons(k u s i:Nat)(q:Q):Bq (((k:Int),(u:Int),(s:Int))::q) i=if i=k then true else Bq q i:=by
  unfold Bq;by_cases h:i=k
  · subst h;simp[legs]
  · rw[if_neg h,decide_eq_decide]
    simp only[legs,List.map_cons,List.mem_cons]
    constructor
    · rintro(h1|h1)
      · omega
      · exact h1
    · exact Or.inr
theorem Xq_fore{ls:L}{k a d:Nat}{q:Q}{x:S49}(he:ends ls k=((a:Int),(d:Int)))(hx:leg ls k=x)(i:Nat):Xq ls (((k:Int),(a:Int),(d:Int))::q) i=if i=d then plus (Xq ls q a) (shift x) 1 else Xq ls q i:=by
  unfold Xq;simp only[plq,he,hx,if_true];by_cases h:i=d
  · subst h;simp
  · rw[if_neg h,if_neg (by omega)]
theorem Xq_back{ls:L}{k a d:Nat}{q:Q}{x:S49}(he:ends ls k=((a:Int),(d:Int)))(had:(a:Int)≠d)(hx:leg ls k=x)(i:Nat):Xq ls (((k:Int),(d:Int),(a:Int))::q) i=if i=a then plus (Xq ls q d) (shift x) (-1) else Xq ls q i:=by
  unfold Xq;simp only[plq,he,hx,if_neg had];by_cases h:i=a
  · subst h;simp
  · rw[if_neg h,if_neg (by omega)]
theorem St.start (ls:L) (w:World):St ls.length w.heap.size (w.heap.size+1) (Pq []) (Xq ls []) (Bq []) (.slice none 0 0) ((w.alloc (Obj.cells (madeCells #[Value.bool false] ls.length) 4)).alloc
      (Obj.cells
        #[Value.bool true,Value.bool false,Value.bool false,Value.bool false,Value.bool false,Value.bool false,
          Value.bool false,Value.bool false,Value.int IntKind.i64 0,Value.int IntKind.i64 0,Value.int IntKind.i64 0,
          Value.int IntKind.i64 0,Value.int IntKind.i64 0,Value.int IntKind.i64 0,Value.int IntKind.i64 0,
          Value.int IntKind.i64 0,Value.int IntKind.i64 0,Value.int IntKind.i64 0,Value.int IntKind.i64 0,
          Value.int IntKind.i64 0,Value.int IntKind.i64 0,Value.int IntKind.i64 0,Value.int IntKind.i64 0,
          Value.int IntKind.i64 0,Value.int IntKind.i64 0,Value.int IntKind.i64 0,Value.int IntKind.i64 0,
          Value.int IntKind.i64 0,Value.int IntKind.i64 0,Value.int IntKind.i64 0,Value.int IntKind.i64 0,
          Value.int IntKind.i64 0,
          Value.slice (some {block:=w.heap.size,off:=0}) (List.length ls) (List.length ls),Value.slice none 0 0]
        58)):=by
  refine⟨?_,?_,?_,?_,?_,?_,?_,?_,?_,by omega,qz90⟩
  · intro s hs
    have:s=0∨s=1∨s=2∨s=3∨s=4∨s=5∨s=6∨s=7:=by omega
    rcases this with rfl|rfl|rfl|rfl|rfl|rfl|rfl|rfl<;>go_simp<;>first|rfl|simp[verts,Pq]
  · intro s hs
    have:s=0∨s=1∨s=2∨s=3∨s=4∨s=5∨s=6∨s=7:=by omega
    rcases this with rfl|rfl|rfl|rfl|rfl|rfl|rfl|rfl<;>go_simp<;>first|rfl|simp[verts,Pq]
  · intro s hs
    have:s=0∨s=1∨s=2∨s=3∨s=4∨s=5∨s=6∨s=7:=by omega
    rcases this with rfl|rfl|rfl|rfl|rfl|rfl|rfl|rfl<;>go_simp<;>first|rfl|simp[verts,Pq]
  · intro s hs
    have:s=0∨s=1∨s=2∨s=3∨s=4∨s=5∨s=6∨s=7:=by omega
    rcases this with rfl|rfl|rfl|rfl|rfl|rfl|rfl|rfl<;>go_simp<;>first|rfl|simp[verts,Pq]
  · go_simp
  · go_simp
  · intro i hi
    go_simp;simp[madeCells,legs,Bq,hi,Nat.mod_one]
  · intro j
    go_simp
  · intro j
    go_simp
end Net
namespace Net
open Go.RowKit YtcafgpincnkcdaaDoorW.PrintWords YtcafgpincnkcdaaDoorW.PrintLast YtcafgpincnkcdaaDoorW.PrintMore A
open Tree (verts legs)
open Grow (Q sweep grow)
def closeTo(ls:L)(R:Q):Nat→List Int
  |0=>[]
  |k+1=>if Pq R (leg ls k).f0.toNat=true∧Bq R k=false then closeTo ls R k++[(k:Int)] else closeTo ls R k
theorem closeTo_len(ls:L)(R:Q):∀k,(closeTo ls R k).length≤k
  |0=>by simp[closeTo]
  | k+1=>by
    have:=closeTo_len ls R k;unfold closeTo;split
    · simp;omega
    · omega
def Placed(ls:L)(R:Q)(w:World)(e:Ending)(w':World):Prop:=∃g T cl,e= .returned (.pointer (some ⟨g,0,none⟩))∧St ls.length T g (Pq R) (Xq ls R) (Bq R) cl w'∧Kd.R (Kd.int .i64) 3 w' w.heap.size (fun k=>k≠g∧k≠T) cl (closeTo ls R ls.length)∧Below w.heap.size w w'
def Left(ls:L)(R:Q)(k:Nat)(b:Bool)(q:Q):Prop:=Grow.Ok (ends ls) ls.length q∧(b=true→∃f,k=f+1∧8≤f+q.length∧grow (ends ls) ls.length f q=R)∧(b=false→q=R)
def Part(ls:L)(q:Q)(k:Nat)(b:Bool)(p:Q):Prop:=Grow.Ok (ends ls) ls.length p∧sweep (ends ls) (ls.length-k) k p=sweep (ends ls) ls.length 0 q∧q.length≤p.length∧b=decide (q.length<p.length)
theorem Part.start{ls:L}{q:Q}(h:Grow.Ok (ends ls) ls.length q):Part ls q 0 false q:=⟨h,by simp,Nat.le_refl _,by simp⟩
theorem Part.next{ls:L}{q p:Q}{k:Nat}{b:Bool}(h:Part ls q k b p)(hk:k<ls.length):Part ls q (k+1) (decide (q.length<(Grow.step (ends ls) p k).length)) (Grow.step (ends ls) p k):=by
  obtain⟨h1,h2,h3,h4⟩:=h;refine⟨h1.step _ (by omega) (by omega),?_,Nat.le_trans h3 (Grow.step_len _ _ _),rfl⟩;rw[←h2,show ls.length-k=(ls.length-(k+1))+1 by omega];rfl
theorem Part.skip{ls:L}{q p:Q}{k a d:Nat}{b:Bool}(h:Part ls q k b p)(hk:k<ls.length)(he:ends ls k=((a:Int),(d:Int)))(hs:Pq p a=Pq p d):Part ls q (k+1) b p:=by
  have h':=h.next hk
  have e:Grow.step (ends ls) p k=p:=by
    unfold Grow.step;simp only[Pq,decide_eq_decide]at hs;rw[he,if_neg (fun c=>c.2 (hs.mp c.1)),if_neg (fun c=>c.2 (hs.mpr c.1))]
  rw[e,←h.2.2.2]at h';exact h'
theorem Part.fore{ls:L}{q p:Q}{k a d:Nat}{b:Bool}(h:Part ls q k b p)(hk:k<ls.length)(he:ends ls k=((a:Int),(d:Int)))(ha:Pq p a=true)(hd:Pq p d=false):Part ls q (k+1) true ((k,a,d)::p):=by
  have h':=h.next hk
  have e:Grow.step (ends ls) p k=((k:Int),(a:Int),(d:Int))::p:=by
    unfold Grow.step;simp only[Pq,decide_eq_true_eq,decide_eq_false_iff_not]at ha hd;rw[he,if_pos ⟨ha,hd⟩]
  have:=h.2.2.1;rw[e,decide_eq_true qz90]at h';exact h'
theorem Part.back{ls:L}{q p:Q}{k a d:Nat}{b:Bool}(h:Part ls q k b p)(hk:k<ls.length)(he:ends ls k=((a:Int),(d:Int)))(ha:Pq p a=false)(hd:Pq p d=true):Part ls q (k+1) true ((k,d,a)::p):=by
  have h':=h.next hk
  have e:Grow.step (ends ls) p k=((k:Int),(d:Int),(a:Int))::p:=by
    unfold Grow.step;simp only[Pq,decide_eq_true_eq,decide_eq_false_iff_not]at ha hd;rw[he,if_neg (fun c=>ha c.1),if_pos ⟨hd,ha⟩]
  have:=h.2.2.1;rw[e,decide_eq_true qz90]at h';exact h'
theorem ends_range{ls:L}(hg:∀x∈ls,Good x):∀i:Int,0≤i→i<ls.length→0≤(ends ls i).1∧(ends ls i).1<8∧0≤(ends ls i).2∧(ends ls i).2<8:=by
  intro i h0 h1;obtain⟨k,rfl⟩:=Int.eq_ofNat_of_zero_le h0
  have h:=hg (leg ls (k:Int)) (by
    unfold leg rd_T49;rw[Int.toNat_natCast,List.getD_eq_getElem?_getD,List.getElem?_eq_getElem (show k<ls.length by omega)]
    exact List.getElem_mem _)
  exact⟨h.1.1,h.1.2,h.2.1.1,h.2.1.2⟩
theorem Left.next{ls:L}(hg:∀x∈ls,Good x){R q p:Q}{f:Nat}{b:Bool}(h:Left ls R (f+1) true q)(hp:Part ls q ls.length b p):Left ls R f b p:=by
  obtain⟨ok,h1,_⟩:=h;obtain⟨f',hf,h8,hR⟩:=h1 rfl;obtain rfl:f=f':=by omega
  obtain⟨okp,hs,hl,hb⟩:=hp;rw[Nat.sub_self]at hs;have hs:p=sweep (ends ls) ls.length 0 q:=hs;have h7:=ok.len _ (ends_range hg);obtain⟨g,rfl⟩:∃g,f=g+1:=⟨f-1,by omega⟩
  rw[grow,←hs]at hR;refine⟨okp,fun e=>?_,fun e=>?_⟩
  · rw[e]at hb
    have hb:=of_decide_eq_true hb.symm;rw[if_neg (by omega)]at hR;exact⟨g,rfl,by omega,hR⟩
  · rw[e]at hb
    have hb:=of_decide_eq_false hb.symm;rw[if_pos (by omega)]at hR;have:=(Grow.sweep_same (ends ls) (m:=ls.length) (a:=0) (q:=q) (by rw[←hs];omega)).1;rw[hs,this,hR]
theorem leg_mem{ls:L}{k:Nat}(h:k<ls.length):rd_T49 ls (k:Int)∈ls:=by
  unfold rd_T49;rw[Int.toNat_natCast,List.getD_eq_getElem?_getD,List.getElem?_eq_getElem h];exact List.getElem_mem h
theorem place (A:Option Addr) (c:Nat) (ls:L) (w:World) (hL:Sine.Laid w) (hr0:Kd.C k49 w A ls.length ls) (hc0:ls.length≤c) (hn:ls.length≤12) (hg:∀x∈ls,Good x) (R:Q) (hR:grow (ends ls) ls.length 8 []=R):
    Calls Tryd.prog 63 #[.slice A ls.length c] w (Placed ls R w):=by
  have HL:=ak hL;have HR:=ak hr0;have HG:=ak hg;have HB:=ak (Below.refl w.heap.size w);have hmk:=makeBools ls.length hn w;have HS:=ak (St.start ls w);have HQ:=ak (show Left ls R 9 true []from⟨Grow.Ok.nil _ _,fun _=>⟨8,rfl,by simp,hR⟩,fun h=>by cases h⟩);clear hL hr0 hg hR;go_enter Tryd.func63,Tryd.ntmps63;go_wp2;clear hmk
  go_loopg [4] 9 (fun kq v4 w'=>∃(b:Bool) (q:Q),v4= .bool b∧Aside0 (Left ls R kq b q)∧Aside0 (St ls.length w.heap.size (w.heap.size+1) (Pq q) (Xq ls q) (Bq q) (.slice none 0 0) w')∧Aside0 (Below w.heap.size w w'))
  case atStart=>exact⟨true,[],rfl,HQ,HS,⟨qz56⟩⟩
  case round=>
    obtain⟨b,q,rfl,HA,HS1,HB1⟩:=hrel;clear HS HQ HB
    cases b with
    | false =>
      go_wp2;have hq:=HA.out.2.2 rfl;subst hq
      go_loopw [101] (fun v101 w'=>∃(k:Nat) (cl:Value),k≤ls.length∧v101= .int .i64 k∧Aside0 (St ls.length w.heap.size (w.heap.size+1) (Pq q) (Xq ls q) (Bq q) cl w')∧Aside0 (Kd.R (Kd.int .i64) 3 w' w.heap.size (fun k=>k≠w.heap.size+1∧k≠w.heap.size) cl (closeTo ls q k))∧Aside0 (Below w.heap.size w w')) (fun v101 _=>ls.length-(intOf v101).toNat)
      case atStart=>exact⟨0,.slice none 0 0,Nat.zero_le _,rfl,HS1,⟨Kd.R_nil _ _ _ _ _⟩,HB1⟩
      case round=>
        obtain⟨k,cl,hk,rfl,HS,HO,HB⟩:=hrel;clear HS1 HB1;by_cases hlt:k<ls.length
        · obtain⟨_,e2,h0,h1,h2,h3,h4⟩:=at_T49 HR.out (k:Int) (by omega) (by omega)
          cases e2;have HX:Aside0 (Good (leg ls (k:Int))):=⟨HG.out _ (leg_mem hlt)⟩;have ek:rd_T49 ls (k:Int)=leg ls k:=rfl;rw[Int.toNat_natCast]at h0 h1 h2 h3 h4;rw[ek]at h0 h1 h2 h3 h4;have HC:=ak (show closeTo ls q (k+1)=if Pq q (leg ls k).f0.toNat=true∧Bq q k=false then closeTo ls q k++[(k:Int)] else closeTo ls q k from rfl);generalize leg ls (k:Int)=x at *;obtain⟨a,ha⟩:=Int.eq_ofNat_of_zero_le HX.out.1.1;have ha8:(a:Int)<8:=by have:=HX.out.1.2;omega
          rw[ha]at h0;rw[ha,Int.toNat_natCast]at HC;replace h0:=Sine.keepc h0 HB.out;replace h1:=Sine.keepc h1 HB.out;replace h2:=Sine.keepc h2 HB.out;replace h3:=Sine.keepc h3 HB.out;replace h4:=Sine.keepc h4 HB.out;go_wp2;have B1:=below_alloc (Below.refl wr.heap.size wr) (Obj.cells #[Value.int IntKind.i64 ↑a,Value.int IntKind.i64 x.f1,Value.int IntKind.i64 x.f2,Value.int IntKind.i64 x.f3,Value.int IntKind.i64 x.f4] 49);replace HB:=ak (below_step HB.out B1);replace HS:=ak (HS.out.keep B1);replace HO:=ak (Kd.R_alloc HO.out (Obj.cells #[Value.int IntKind.i64 ↑a,Value.int IntKind.i64 x.f1,Value.int IntKind.i64 x.f2,Value.int IntKind.i64 x.f3,Value.int IntKind.i64 x.f4] 49));clear B1 h0 h1 h2 h3 h4;have h0:(wr.alloc (Obj.cells #[Value.int IntKind.i64 ↑a,Value.int IntKind.i64 x.f1,Value.int IntKind.i64 x.f2,Value.int IntKind.i64 x.f3,Value.int IntKind.i64 x.f4] 49)).cell? ⟨wr.heap.size,0,none⟩=some (.int .i64 (a:Int)):=by go_simp
          generalize wr.alloc (Obj.cells #[Value.int IntKind.i64 ↑a,Value.int IntKind.i64 x.f1,Value.int IntKind.i64 x.f2,Value.int IntKind.i64 x.f3,Value.int IntKind.i64 x.f4] 49)=W1 at *;generalize wr.heap.size=X at *;have pa:=HS.out.pb a (by omega);have tc:=HS.out.tc;have cc:=HS.out.cc;have zc:=HS.out.fg 33;have tk:=HS.out.tb k hlt;have k0:(0:Int)≤(k:Int):=by omega
          have k1:(k:Int)<(ls.length:Int):=by omega
          by_cases hpa:Pq q a=true
          · rw[hpa]at pa
            by_cases hbk:Bq q k=true
            · rw[hbk]at tk
              go_quiet (fail)
              go_wp2;exact⟨⟨k+1,cl,by omega,by go_num,⟨HS.out.keep (pw_below_drewN (Below.refl _ _) _)⟩,⟨(by rw[HC.out,if_neg (by simp[hbk])];exact Kd.R_drewN HO.out _)⟩,⟨pw_below_drewN HB.out _⟩⟩,qz82⟩
            · have hbk':Bq q k=false:=by simpa using hbk
              rw[hbk']at tk;have hTs:w.heap.size+1<W1.heap.size:=World.block_lt_of_cell? _ _ tc;have hcl:=closeTo_len ls q k;have HN1:Aside0 (∀b,cl.ownBlock=some b→b≠w.heap.size+1∧b≠w.heap.size):=⟨HO.out.1⟩;obtain⟨cA,cC,ecl⟩:=Kd.R_slice HO.out;subst ecl
              go_quiet (fail)
              go_wp2_with ((with_reducible refine gate_builtin (b:= .append) (xs:= #[.tmp 127,.tmp 129]) rfl ?_);at_builtin;refine Kd.R_append (Kd.int .i64) (w0:=w) w.heap.size rfl (.tmp 127) (.tmp 129) 26 3 (.int .i64 0) 8 rfl Tryd.underlying26 info3 rfl (by decide) (by omega) (.slice cA (closeTo ls q k).length cC) (closeTo ls q k) (k:Int) [.int .i64 (k:Int)] (fun b=>b≠w.heap.size+1∧b≠w.heap.size) (fun _=>False) rfl rfl ?aP (fun _ hk=>hk.elim) ?aF ?aO ?aB ?aS ?aL ?_
                           (case aP=>exact rfl);(case aF=>exact(by intro b hb;simp only[World.heap_drewN]at hb;omega));(case aO=>exact Kd.R_drewN HO.out _);(case aB=>exact pw_below_drewN HB.out _);(case aS=>exact(by simp only[World.heap_drewN];omega));(case aL=>omega);intro v1 w1 ho hb hg hat;obtain⟨A1,c1,ev1⟩:=Kd.R_slice ho;subst ev1;rw[show(closeTo ls q k++[(k:Int)]).length=(closeTo ls q k).length+1 from by simp]at ho hat;have HS5:=ak ((HS.out.keep (W:=W1.drewN nq) (pw_below_drewN (Below.refl _ _) _)).blocks (W:=w1) (hg.block _ (by simp only[World.heap_drewN];omega) (fun e=>(HN1.out _ e.symm).1 rfl)) (hg.block _ (by simp only[World.heap_drewN];omega) (fun e=>(HN1.out _ e.symm).2 rfl)) hg.size);have HB5:=ak hb;have HO5:=ak ho;clear ho hb hg hat HO;have cc5:=HS5.out.cc
                           have zc5:=HS5.out.fg 33)
              exact⟨⟨k+1,_,by omega,by go_num,⟨HS5.out.setC _⟩,⟨(by rw[HC.out,if_pos ⟨hpa,hbk'⟩];exact Kd.R_far HO5.out (p:=⟨w.heap.size+1,33,none⟩) (fun b hb=>hb.1) _)⟩,⟨below_set HB5.out (by omega)⟩⟩,qz82⟩
          · have hpa':Pq q a=false:=by simpa using hpa
            rw[hpa']at pa
            go_quiet (fail)
            go_wp2;exact⟨⟨k+1,cl,by omega,by go_num,⟨HS.out.keep (pw_below_drewN (Below.refl _ _) _)⟩,⟨(by rw[HC.out,if_neg (by simp[hpa'])];exact Kd.R_drewN HO.out _)⟩,⟨pw_below_drewN HB.out _⟩⟩,qz82⟩
        · obtain rfl:k=ls.length:=by omega
          go_wp2;go_ret;exact⟨_,_,cl,rfl,HS.out,HO.out,HB.out⟩
    | true=>
      go_wp2
      go_loopw [4,21] (fun v4 v21 w'=>∃(k:Nat) (b:Bool) (p:Q),k≤ls.length∧v4= .bool b∧v21= .int .i64 k∧Aside0 (Part ls q k b p)∧Aside0 (St ls.length w.heap.size (w.heap.size+1) (Pq p) (Xq ls p) (Bq p) (.slice none 0 0) w')∧Aside0 (Below w.heap.size w w')) (fun _ v21 _=>ls.length-(intOf v21).toNat)
      case atStart=>exact⟨0,false,q,Nat.zero_le _,rfl,rfl,⟨Part.start HA.out.1⟩,HS1,HB1⟩
      case round=>
        obtain⟨k,b,p,hk,rfl,rfl,HP,HS,HB⟩:=hrel;clear HS1 HB1;by_cases hlt:k<ls.length
        · obtain ⟨_, e2,h0,h1,h2,h3,h4⟩:=at_T49 HR.out (k:Int) (by omega) (by omega)
          cases e2;have HX:Aside0 (Good (leg ls (k:Int))):=⟨HG.out _ (leg_mem hlt)⟩;have ek:rd_T49 ls (k:Int)=leg ls k:=rfl;have HE:=ak (show ends ls k=((leg ls k).f0,(leg ls k).f1)from rfl);rw[Int.toNat_natCast]at h0 h1 h2 h3 h4;rw[ek]at h0 h1 h2 h3 h4;generalize hxe:leg ls (k:Int)=x at *;have HXE:=ak hxe;clear hxe ek;obtain⟨a,ha⟩:=Int.eq_ofNat_of_zero_le HX.out.1.1;obtain⟨d,hd⟩:=Int.eq_ofNat_of_zero_le HX.out.2.1.1;have ha8:(a:Int)<8:=by have:=HX.out.1.2;omega
          have hd8:(d:Int)<8:=by have:=HX.out.2.1.2;omega
          have had:=HX.out.2.2.1;rw[ha,hd]at had;have LS:=fun W (hl:Sine.Laid W)=>legShift x W hl HX.out
          rw[ha,hd]at LS;have HLS:=ak LS;clear LS;rw[ha]at h0 HE;rw[hd]at h1 HE;replace h0:=Sine.keepc h0 HB.out;replace h1:=Sine.keepc h1 HB.out;replace h2:=Sine.keepc h2 HB.out;replace h3:=Sine.keepc h3 HB.out;replace h4:=Sine.keepc h4 HB.out;go_wp2;have B1:=below_alloc (Below.refl wr.heap.size wr) (Obj.cells #[Value.int IntKind.i64 ↑a,Value.int IntKind.i64 ↑d,Value.int IntKind.i64 x.f2,Value.int IntKind.i64 x.f3,Value.int IntKind.i64 x.f4] 49);replace HB:=ak (below_step HB.out B1);have HSo:=HS;replace HS:=ak (HS.out.keep B1);clear B1 h0 h1 h2 h3 h4;have h0:(wr.alloc (Obj.cells #[Value.int IntKind.i64 ↑a,Value.int IntKind.i64 ↑d,Value.int IntKind.i64 x.f2,Value.int IntKind.i64 x.f3,Value.int IntKind.i64 x.f4] 49)).cell? ⟨wr.heap.size,0,none⟩=some (.int .i64 (a:Int)):=by go_simp
          have h1:(wr.alloc (Obj.cells #[Value.int IntKind.i64 ↑a,Value.int IntKind.i64 ↑d,Value.int IntKind.i64 x.f2,Value.int IntKind.i64 x.f3,Value.int IntKind.i64 x.f4] 49)).cell? ⟨wr.heap.size,1,none⟩=some (.int .i64 (d:Int)):=by go_simp
          have h2:(wr.alloc (Obj.cells #[Value.int IntKind.i64 ↑a,Value.int IntKind.i64 ↑d,Value.int IntKind.i64 x.f2,Value.int IntKind.i64 x.f3,Value.int IntKind.i64 x.f4] 49)).cell? ⟨wr.heap.size,2,none⟩=some (.int .i64 x.f2):=by go_simp
          have h3:(wr.alloc (Obj.cells #[Value.int IntKind.i64 ↑a,Value.int IntKind.i64 ↑d,Value.int IntKind.i64 x.f2,Value.int IntKind.i64 x.f3,Value.int IntKind.i64 x.f4] 49)).cell? ⟨wr.heap.size,3,none⟩=some (.int .i64 x.f3):=by go_simp
          have h4:(wr.alloc (Obj.cells #[Value.int IntKind.i64 ↑a,Value.int IntKind.i64 ↑d,Value.int IntKind.i64 x.f2,Value.int IntKind.i64 x.f3,Value.int IntKind.i64 x.f4] 49)).cell? ⟨wr.heap.size,4,none⟩=some (.int .i64 x.f4):=by go_simp
          generalize wr.alloc (Obj.cells #[Value.int IntKind.i64 ↑a,Value.int IntKind.i64 ↑d,Value.int IntKind.i64 x.f2,Value.int IntKind.i64 x.f3,Value.int IntKind.i64 x.f4] 49)=W1 at *;have hgX:w.heap.size+1≠wr.heap.size:=fun e=>by have:=World.block_lt_of_cell? _ _ HSo.out.tc;simp only at this;omega
          clear HSo;generalize wr.heap.size=X at *;have pa:=HS.out.pb a (by omega);have pd:=HS.out.pb d (by omega);by_cases hpa:Pq p a=true
          · rw [hpa] at pa
            by_cases hpd:Pq p d=true
            · rw[hpd]at pd
              go_quiet (fail)
              go_wp2;exact⟨⟨k+1,b,p,by omega,rfl,by go_num,⟨HP.out.skip hlt HE.out (hpa.trans hpd.symm)⟩,⟨HS.out.keep (pw_below_drewN (Below.refl _ _) _)⟩,⟨pw_below_drewN HB.out _⟩⟩,qz82⟩
            · have hpd':Pq p d=false:=by simpa using hpd
              rw[hpd']at pd;have x0:=HS.out.px a (by omega);have x1:=HS.out.py a (by omega);have x2:=HS.out.pz a (by omega);have y0:=HS.out.px d (by omega);have y1:=HS.out.py d (by omega);have y2:=HS.out.pz d (by omega)
              go_quiet (fail)
              go_wp2
              go_quiet (fail)
              go_wp2_with fail
              go_region_held3 (fun w'=>w'.cell? ⟨X,0,none⟩=some (.int .i64 (a:Int))∧w'.cell? ⟨X,1,none⟩=some (.int .i64 (d:Int))∧w'.cell? ⟨X,2,none⟩=some (.int .i64 x.f2)∧w'.cell? ⟨X,3,none⟩=some (.int .i64 x.f3)∧w'.cell? ⟨X,4,none⟩=some (.int .i64 x.f4)
                  ∧w'.cell? ⟨w.heap.size+1,8+a*3,none⟩=some (.int .i64 (Xq ls p a).f0)∧w'.cell? ⟨w.heap.size+1,8+a*3+1,none⟩=some (.int .i64 (Xq ls p a).f1)∧w'.cell? ⟨w.heap.size+1,8+a*3+2,none⟩=some (.int .i64 (Xq ls p a).f2))
                ((repeat' refine And.intro ?_ ?_)<;>first
                  |((with_reducible refine far (far (far ?_ ?_) ?_) ?_)<;>first|exact blkne hgX|exact offne (by omega)|exact Sine.keepc (w:=W1) qz89 qz27)
                  |exact Sine.keepc (w:=W1) qz89 qz27)
                (first
                  |(go_at_call 103;(with_reducible refine(HLS.out _ ?s1).mono ?_);(case s1=>exact HL.out.keep qz27);rintro e w' ⟨rfl,hw1⟩)
                  | (go_at_call 102;(with_reducible refine(shiftPlus (Xq ls p a) (shift x) 1 _).mono ?_);rintro e w' ⟨rfl,hw2⟩
                     have HS2:=ak (HS.out.keep (W:=w') qz27);have HB2:Aside0 (Below w.heap.size w w'):=⟨qz27⟩;have y0:=HS2.out.px d (by omega);have y1:=HS2.out.py d (by omega);have y2:=HS2.out.pz d (by omega);have z0:=HS2.out.fg (8+d*3);have z1:=HS2.out.fg (8+d*3+1)
                     have z2:=HS2.out.fg (8+d*3+2)))
              have h1':=far (far (far (Sine.keepc (w:=W1) h1 (show Below W1.heap.size W1 w' from by(repeat(first|exact Below.refl _ _|apply pw_below_drewN|apply below_drew1|exact HB.out|refine below_step ?_ qz89));done)) (v:= .int .i64 (plus (Xq ls p a) (shift x) 1).f0) (blkne (i:=8+d*3) hgX)) (v:= .int .i64 (plus (Xq ls p a) (shift x) 1).f1) (blkne (i:=8+d*3+1) hgX)) (v:= .int .i64 (plus (Xq ls p a) (shift x) 1).f2) (blkne (i:=8+d*3+2) hgX);have HS3:=ak (HS2.out.setX (s:=d) (by omega) (plus (Xq ls p a) (shift x) 1));have HB3:=ak (below_set (below_set (below_set HB2.out (j:=8+d*3) (v:= .int .i64 (plus (Xq ls p a) (shift x) 1).f0) (g:=w.heap.size+1) (by omega)) (j:=8+d*3+1) (v:= .int .i64 (plus (Xq ls p a) (shift x) 1).f1) (g:=w.heap.size+1) (by omega)) (j:=8+d*3+2) (v:= .int .i64 (plus (Xq ls p a) (shift x) 1).f2) (g:=w.heap.size+1) (by omega));clear HS2 HB2 y0 y1 y2 z0 z1 z2 x0 x1 x2 h0 h1 h2 h3 h4 pa pd;generalize ((w'.setCell {block:=w.heap.size+1,off:=8+d*3} (Value.int IntKind.i64 (plus (Xq ls p a) (shift x) 1).f0)).setCell {block:=w.heap.size+1,off:=8+d*3+1} (Value.int IntKind.i64 (plus (Xq ls p a) (shift x) 1).f1)).setCell {block:=w.heap.size+1,off:=8+d*3+2} (Value.int IntKind.i64 (plus (Xq ls p a) (shift x) 1).f2)=W3 at *;have pd:=HS3.out.pb d (by omega);have zd:=HS3.out.fg d;go_wp2_with fail
              go_region_held3 (fun w'=>w'.cell? ⟨X,1,none⟩=some (.int .i64 (d:Int)))
                (first
                  |((with_reducible refine cdrew (far ?_ ?_))<;>first|exact blkne hgX|exact h1')
                  |exact Sine.keepc (w:=W3) h1' qz27)
                (first|fail)
              have HS4:=ak (HS3.out.setP (s:=d) (by omega)).drew;have HB4:=ak (below_drew1 (below_set HB3.out (j:=d) (v:= .bool true) (g:=w.heap.size+1) (by omega)));clear HS3 HB3 pd zd h1';generalize (W3.setCell {block:=w.heap.size+1,off:=d} (Value.bool true)).drew=W4 at *;have tc:=HS4.out.tc;have tk:=HS4.out.tb k hlt;have zk:=HS4.out.ft k;have k0:(0:Int)≤(k:Int):=by omega
              have k1:(k:Int)<(ls.length:Int):=by omega
              go_wp2;exact⟨⟨k+1,true,((k:Int),(a:Int),(d:Int))::p,by omega,rfl,by go_num,⟨HP.out.fore hlt HE.out hpa hpd'⟩,⟨(HS4.out.setB hlt).congr (fun s _=>Pq_cons k a d s p) (fun s _=>Xq_fore HE.out HXE.out s) (fun i _=>Bq_cons k a d i p)⟩,⟨below_set HB4.out (by omega)⟩⟩,qz82⟩
          · have hpa':Pq p a=false:=by simpa using hpa
            rw[hpa']at pa;by_cases hpd:Pq p d=true
            · rw [hpd]at pd
              have x0:=HS.out.px d (by omega);have x1:=HS.out.py d (by omega);have x2:=HS.out.pz d (by omega);have y0:=HS.out.px a (by omega);have y1:=HS.out.py a (by omega);have y2:=HS.out.pz a (by omega)
              go_quiet (fail)
              go_wp2
              go_quiet (fail)
              go_wp2_with fail
              go_region_held3 (fun w'=>w'.cell? ⟨X,0,none⟩=some (.int .i64 (a:Int))∧w'.cell? ⟨X,1,none⟩=some (.int .i64 (d:Int))∧w'.cell? ⟨X,2,none⟩=some (.int .i64 x.f2)∧w'.cell? ⟨X,3,none⟩=some (.int .i64 x.f3)∧w'.cell? ⟨X,4,none⟩=some (.int .i64 x.f4)
                  ∧w'.cell? ⟨w.heap.size+1,8+d*3,none⟩=some (.int .i64 (Xq ls p d).f0)∧w'.cell? ⟨w.heap.size+1,8+d*3+1,none⟩=some (.int .i64 (Xq ls p d).f1)∧w'.cell? ⟨w.heap.size+1,8+d*3+2,none⟩=some (.int .i64 (Xq ls p d).f2))
                ((repeat' refine And.intro ?_ ?_)<;>first
                  |((with_reducible refine far (far (far ?_ ?_) ?_) ?_)<;>first|exact blkne hgX|exact offne (by omega)|exact Sine.keepc (w:=W1) qz89 qz27)
                  |exact Sine.keepc (w:=W1) qz89 qz27)
                (first
                  |(go_at_call 103;(with_reducible refine(HLS.out _ ?s1).mono ?_);(case s1=>exact HL.out.keep qz27);rintro e w' ⟨rfl,hw1⟩)
                  | (go_at_call 102;(with_reducible refine(shiftPlus (Xq ls p d) (shift x) (-1) _).mono ?_);rintro e w' ⟨rfl,hw2⟩
                     have HS2:=ak (HS.out.keep (W:=w') qz27);have HB2:Aside0 (Below w.heap.size w w'):=⟨qz27⟩;have y0:=HS2.out.px a (by omega);have y1:=HS2.out.py a (by omega);have y2:=HS2.out.pz a (by omega);have z0:=HS2.out.fg (8+a*3);have z1:=HS2.out.fg (8+a*3+1)
                     have z2:=HS2.out.fg (8+a*3+2)))
              have h0':=far (far (far (Sine.keepc (w:=W1) h0 (show Below W1.heap.size W1 w' from by(repeat(first|exact Below.refl _ _|apply pw_below_drewN|apply below_drew1|exact HB.out|refine below_step ?_ qz89));done)) (v:= .int .i64 (plus (Xq ls p d) (shift x) (-1)).f0) (blkne (i:=8+a*3) hgX)) (v:= .int .i64 (plus (Xq ls p d) (shift x) (-1)).f1) (blkne (i:=8+a*3+1) hgX)) (v:= .int .i64 (plus (Xq ls p d) (shift x) (-1)).f2) (blkne (i:=8+a*3+2) hgX);have HS3:=ak (HS2.out.setX (s:=a) (by omega) (plus (Xq ls p d) (shift x) (-1)));have HB3:=ak (below_set (below_set (below_set HB2.out (j:=8+a*3) (v:= .int .i64 (plus (Xq ls p d) (shift x) (-1)).f0) (g:=w.heap.size+1) (by omega)) (j:=8+a*3+1) (v:= .int .i64 (plus (Xq ls p d) (shift x) (-1)).f1) (g:=w.heap.size+1) (by omega)) (j:=8+a*3+2) (v:= .int .i64 (plus (Xq ls p d) (shift x) (-1)).f2) (g:=w.heap.size+1) (by omega));clear HS2 HB2 y0 y1 y2 z0 z1 z2 x0 x1 x2 h0 h1 h2 h3 h4 pd pa;generalize ((w'.setCell {block:=w.heap.size+1,off:=8+a*3} (Value.int IntKind.i64 (plus (Xq ls p d) (shift x) (-1)).f0)).setCell {block:=w.heap.size+1,off:=8+a*3+1} (Value.int IntKind.i64 (plus (Xq ls p d) (shift x) (-1)).f1)).setCell {block:=w.heap.size+1,off:=8+a*3+2} (Value.int IntKind.i64 (plus (Xq ls p d) (shift x) (-1)).f2)=W3 at *;have pa:=HS3.out.pb a (by omega);have zd:=HS3.out.fg a;go_wp2_with fail
              go_region_held3 (fun w'=>w'.cell? ⟨X,0,none⟩=some (.int .i64 (a:Int)))
                (first
                  |((with_reducible refine cdrew (far ?_ ?_))<;>first|exact blkne hgX|exact h0')
                  |exact Sine.keepc (w:=W3) h0' qz27)
                (first|fail)
              have HS4:=ak (HS3.out.setP (s:=a) (by omega)).drew;have HB4:=ak (below_drew1 (below_set HB3.out (j:=a) (v:= .bool true) (g:=w.heap.size+1) (by omega)));clear HS3 HB3 pa zd h0';generalize (W3.setCell {block:=w.heap.size+1,off:=a} (Value.bool true)).drew=W4 at *;have tc:=HS4.out.tc;have tk:=HS4.out.tb k hlt;have zk:=HS4.out.ft k;have k0:(0:Int)≤(k:Int):=by omega
              have k1:(k:Int)<(ls.length:Int):=by omega
              go_wp2;exact⟨⟨k+1,true,((k:Int),(d:Int),(a:Int))::p,by omega,rfl,by go_num,⟨HP.out.back hlt HE.out hpa' hpd⟩,⟨(HS4.out.setB hlt).congr (fun s _=>Pq_cons k d a s p) (fun s _=>Xq_back HE.out had HXE.out s) (fun i _=>Bq_cons k d a i p)⟩,⟨below_set HB4.out (by omega)⟩⟩,qz82⟩
            · have hpd':Pq p d=false:=by simpa using hpd
              rw[hpd']at pd
              go_quiet (fail)
              go_wp2;exact⟨⟨k+1,b,p,by omega,rfl,by go_num,⟨HP.out.skip hlt HE.out (hpa'.trans hpd'.symm)⟩,⟨HS.out.keep (pw_below_drewN (Below.refl _ _) _)⟩,⟨pw_below_drewN HB.out _⟩⟩,qz82⟩
        · obtain rfl:k=ls.length:=by omega
          go_wp2;obtain⟨f,hf,_⟩:=HA.out.2.1 rfl;subst hf;have HN:=ak (HA.out.next HG.out HP.out);go_roundg f;(case measure=>omega);(case rel=>exact⟨b,p,rfl,HN,HS,HB⟩)
end Net
namespace Plain
open Go.RowKit YtcafgpincnkcdaaDoorW.PrintWords
theorem w64{x:Int}(h1: -9223372036854775808≤x)(h2:x≤9223372036854775807):wrap64 x=x:=by
  unfold wrap64;omega
theorem mul_bound{x y:Int}(A B:Int)(h1: -A≤x)(h2:x≤A)(h3: -B≤y)(h4:y≤B): -(A*B)≤x*y∧x*y≤A*B:=by
  have e1:0≤(A-x)*(B-y):=Int.mul_nonneg (by omega) (by omega);have e2:0≤(A+x)*(B+y):=Int.mul_nonneg (by omega) (by omega);have e3:0≤(A-x)*(B+y):=Int.mul_nonneg (by omega) (by omega);have e4:0≤(A+x)*(B-y):=Int.mul_nonneg (by omega) (by omega);simp only[Int.sub_mul,Int.mul_sub,Int.add_mul,Int.mul_add]at e1 e2 e3 e4;omega
theorem Ev.some{α:Type}{g:Nat→Option α}{r:α}(h:∀k,g k=some r):Ev g r:=⟨0,fun k _=>h k⟩
theorem Ev.ite{α:Type}{c:Prop}[Decidable c]{g f:Nat→Option α}{r q:α}(h:c→Ev g r)(k:¬c→Ev f q):Ev (fun n=>if c then g n else f n) (if c then r else q):=by
  by_cases hc:c
  · obtain⟨K,hK⟩:=h hc
    exact⟨K,fun n hn=>by simp only[if_pos hc];exact hK n hn⟩
  · obtain⟨K,hK⟩:=k hc
    exact⟨K,fun n hn=>by simp only[if_neg hc];exact hK n hn⟩
theorem Ev.pos{α:Type}{c:Prop}[Decidable c]{g f:Nat→Option α}{r:α}(hc:c)(h:Ev g r):Ev (fun n=>if c then g n else f n) r:=by
  obtain⟨K,hK⟩:=h;exact⟨K,fun n hn=>by simp only[if_pos hc];exact hK n hn⟩
theorem Ev.neg{α:Type}{c:Prop}[Decidable c]{g f:Nat→Option α}{r:α}(hc:¬c)(h:Ev f r):Ev (fun n=>if c then g n else f n) r:=by
  obtain⟨K,hK⟩:=h;exact⟨K,fun n hn=>by simp only[if_neg hc];exact hK n hn⟩
theorem Ev.bindc{α β:Type}{o:Option α}{f:Nat→α→Option β}{a:α}{r:β}(h:o=Option.some a)(k:Ev (fun n=>f n a) r):Ev (fun n=>o.bind (f n)) r:=by
  obtain⟨K,hK⟩:=k;exact⟨K,fun n hn=>by rw[h];exact hK n hn⟩
def allFrom(P:Nat→Bool):Nat→Nat→Bool
  |_,0=>true
  |i,d+1=>P i && allFrom P (i+1) d
theorem allFrom_iff (P:Nat→Bool):∀(d i:Nat),allFrom P i d=true↔∀j,i≤j→j<i+d→P j=true
  |0,i=>⟨fun _ j h1 h2=>by omega,fun _=>rfl⟩
  | d + 1,i=>by
    rw[allFrom,Bool.and_eq_true,allFrom_iff P d (i+1)]
    constructor
    · rintro⟨h0,h1⟩ j hj hj2
      by_cases e:j=i
      · subst e
        exact h0
      · exact h1 j (by omega) (by omega)
    · intro h
      exact⟨h i (by omega) (by omega),fun j hj hj2=>h j (by omega) (by omega)⟩
theorem allFrom_all{α:Type}(l:List α)(d:α)(p:α→Bool):allFrom (fun i=>p (l.getD i d)) 0 l.length=l.all p:=by
  rw[Bool.eq_iff_iff,allFrom_iff,List.all_eq_true]
  constructor
  · intro h x hx
    obtain⟨j,hj,rfl⟩:=List.getElem_of_mem hx;have:=h j (by omega) (by omega);simpa[List.getD,hj]using this
  · intro h j _ hj
    have hj':j<l.length:=by omega
    have:=h l[j] (List.getElem_mem hj');simpa[List.getD,hj']using this
theorem eq_loop{α:Type}(L:Nat→List α→List α→Int→Option Bool)
    (hL:∀k x0 x4,0≤x4→L (k+1) x0 x0 x4=if x4<(x0.length:Int)then L k x0 x0 (wrap64 (x4+1)) else some true)
    (x0:List α) (hb:x0.length≤140737488351232):∀(d k i:Nat),i+d=x0.length→d<k→L k x0 x0 (i:Int)=some true
  | 0,k,i,hi,hk=>by
    obtain⟨k,rfl⟩:∃m,k=m+1:=⟨k-1,by omega⟩
    rw[hL _ _ _ (by omega),if_neg (by omega)]
  | d+1,k,i,hi,hk=>by
    obtain⟨k,rfl⟩:∃m,k=m+1:=⟨k-1,by omega⟩
    rw[hL _ _ _ (by omega),if_pos (by omega),w64 (by omega) (by omega),show((i:Int)+1)=((i+1:Nat):Int) by omega];exact eq_loop L hL x0 hb d k (i+1) (by omega) (by omega)
theorem eq_all{α:Type}(L:Nat→List α→List α→Int→Option Bool)
    (hL:∀k x0 x4,0≤x4→L (k+1) x0 x0 x4=if x4<(x0.length:Int)then L k x0 x0 (wrap64 (x4+1)) else some true)
    (x0:List α) (hb:x0.length≤140737488351232):Ev (fun k=>L k x0 x0 0) true:=
  ⟨x0.length+1,fun k hk=>eq_loop L hL x0 hb x0.length k 0 (by omega) (by omega)⟩
theorem all_loop(P:Nat→Bool)(n:Nat)(hn:n≤140737488351232)(L:Nat→Int→Option Bool)(fin:Option Bool)
    (hL:∀k i,i<n→L (k+1) (i:Int)=if P i=true then L k (wrap64 (i+1)) else some false) (hend:∀k,L (k+1) (n:Int)=fin):
    ∀(d k i:Nat),i+d=n→d<k→L k (i:Int)=if allFrom P i d=true then fin else some false
  | 0,k,i,hi,hk=>by
    obtain⟨k,rfl⟩:∃m,k=m+1:=⟨k-1,by omega⟩
    obtain rfl:i=n:=by omega
    rw[hend,allFrom,if_pos rfl]
  | d+1,k,i,hi,hk=>by
    obtain⟨k,rfl⟩:∃m,k=m+1:=⟨k-1,by omega⟩
    rw[hL _ _ (by omega),w64 (by omega) (by omega),show((i:Int)+1)=((i+1:Nat):Int) by omega,all_loop P n hn L fin hL hend d k (i+1) (by omega) (by omega),allFrom];cases P i<;>simp
theorem all_ev(P:Nat→Bool)(n:Nat)(hn:n≤140737488351232)(L:Nat→Int→Option Bool)(fin:Option Bool)
    (hL:∀k i,i<n→L (k+1) (i:Int)=if P i=true then L k (wrap64 (i+1)) else some false) (hend:∀k,L (k+1) (n:Int)=fin):
    ∃K,∀k,K≤k→L k 0=if allFrom P 0 n=true then fin else some false:=
  ⟨n+1,fun k hk=>all_loop P n hn L fin hL hend n k 0 (by omega) (by omega)⟩
end Plain
end Go.Proofs.YtcafgpincnkcdaaDoor
