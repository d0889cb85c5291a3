/- The smallest and the greatest coordinates of all places, and the deepest station, in plain: the reference's answers. -/
import Derived.Maps.OwnSet
import Derived.Test.YtmgkbhhnchnkcaaGreatDoorKFnResidualsU4
set_option maxHeartbeats 8000000
set_option maxRecDepth 100000
set_option linter.unusedSimpArgs false
set_option linter.unusedVariables false
namespace Go.Proofs.YtmgkbhhnchnkcaaGreatDoor
open Go.RowKit YtmgkbhhnchnkcaaGreatDoorW.PrintWords
namespace A
open Go.Proofs.YtmgkbhhnchnkcaaGreatDoor YtmgkbhhnchnkcaaGreatDoorW.PrintLast YtmgkbhhnchnkcaaGreatDoorW.PrintMore
attribute [local go_sem] max2_int min2_int max_two min_two max_three min_three max_four min_four
def spec_AdjustedDepth.l0:Nat→List (S82)→List Int→Int→Int→Int→Option (Int×Int×Bool)
 |0,_,_,_,_,_=>none
 |k+1,x0,x5,x6,x7,x8=>if x8<(x5.length:Int)then(if 0≤x8 then((spec_l1Least.f x6 (rd x5 x8)).bind fun t638=>((spec_l1Most.f x7 (rd x5 x8)).bind fun t640=>(spec_AdjustedDepth.l0 k x0 x5 t638 t640 (wrap64 (x8+1))))) else(none)) else((spec_l9Trees.f x0).bind fun t641=>((spec_l9Reduce.f k (wrap64 (x7-x6)) t641).bind fun bt642=>(some (bt642.1,bt642.2,true))))
def spec_AdjustedDepth.f(k:Nat)(l0:List (S82)):Option (Int×Int×Bool):=(spec_l4Legs.f k l0).bind fun t633=>(if t633=true then((spec_l9Adjust.f l0 2).bind fun t634=>(spec_AdjustedDepth.l0 k l0 t634 0 0 0)) else(some (0,0,false)))
theorem spec_AdjustedDepth.calls(k:Nat)(A0:Option Addr)(c0:Nat)(l0:List (S82))(r1:Int)(r2:Int)(r3:Bool)(w:World)(hr0:Kd.C k82 w A0 l0.length l0)(hc0:l0.length≤c0)(h:spec_AdjustedDepth.f k l0=some (r1,r2,r3))(hL:Net.Sine.Laid w):
  Calls Tryz.prog 46 #[.slice A0 l0.length c0] w fun e w'=>e= .returned (.tuple #[.int .i64 r1,.int .i64 r2,.bool r3])∧Below w.heap.size w w':=by
 have HL:=ak hL;clear hL;have HR0:=ak hr0;have HC0:=ak hc0;clear hr0 hc0;have HB:=ak (Below.refl w.heap.size w);have H:=h;clear h;unfold spec_AdjustedDepth.f at H;obtain⟨t633,A2,H⟩:=ob H;(try dsimp only at H);by_cases c3:t633=true
 ·subst c3;rw[if_pos rfl]at H;obtain⟨t634,A4,H⟩:=ob H;(try dsimp only at H);have H':=ak H;clear H;go_enter Tryz.func46,Tryz.ntmps46;go_wp2_with (first|((with_reducible refine gate_callee (f:=63) rfl ?_);refine gL (some 12) Tryz.func63 #[.slice A0 l0.length c0] ?_;(with_reducible refine(spec_l4Legs.calls k _ _ l0 true _ ?side1 ?side2 A2.out).mono ?_);(case side1=>exact qz18);(case side2=>exact HC0.out);rintro e w5 ⟨rfl,hb⟩;refine⟨_,rfl,?_⟩;replace HB:=ak (below_step qz0 hb);clear hb)|((with_reducible refine gate_callee (f:=86) rfl ?_);refine gL (some 15) Tryz.func86 #[.slice A0 l0.length c0,.int .i64 2] ?_;(with_reducible refine(spec_l9Adjust.calls _ _ l0 2 t634 _ ?side1 ?side2 A4.out ?sideL).mono ?_);(case sideL=>exact HL.out.keep qz8);(case side1=>exact qz14);(case side2=>exact HC0.out);rintro e w6 ⟨v635,rfl,ho0,hb⟩;refine⟨_,rfl,?_⟩;replace HO636:=ak (Kd.R_lower ho0 (below_size qz0));replace HB:=ak (below_step qz0 hb);clear hb ho0))
  go_loopg [6,7,8] k (fun kq v6 v7 v8 w'=>∃(x6_1:Int) (x7_1:Int) (x8_1:Int),v6= .int .i64 x6_1∧v7= .int .i64 x7_1∧v8= .int .i64 x8_1∧Aside0 (spec_AdjustedDepth.l0 kq l0 t634 x6_1 x7_1 x8_1=some (r1,r2,r3))∧Aside0 (kq≤k)∧Aside0 (Kd.R (Kd.int .i64) 3 w' w.heap.size (fun _=>True) v635 t634)∧Aside0 (Below w.heap.size w w'))
  case atStart=>exact⟨(0),(0),(0),qz6,qz6,qz6,H',⟨Nat.le_refl _⟩,⟨(qx0 HO636.out)⟩,⟨qz0⟩⟩
  case round=>
   clear H';(try clear p2);(try clear c3);(try clear c4);(try clear c6);obtain⟨x6_1,x7_1,x8_1,rfl,rfl,rfl,HA,HK1,HO_5,HB⟩:=hrel
   cases gk with
   |zero=>exact absurd HA.out (by simp[spec_AdjustedDepth.l0])
   | succ k1=>
    have H:=HA.out;clear HA;simp only[spec_AdjustedDepth.l0]at H;by_cases c7:x8_1<(t634.length:Int)
    ·rw[if_pos c7]at H;have c7b0:decide (x8_1<(t634.length:Int))=true:=decide_eq_true c7;clear c7;by_cases c8:0≤x8_1
     ·rw[if_pos c8]at H;have c8b0:decide (0≤x8_1)=true:=decide_eq_true c8;clear c8;obtain⟨t638,A9,H⟩:=ob H;(try dsimp only at H);obtain⟨t640,A10,H⟩:=ob H;(try dsimp only at H);have H':=ak H;clear H;obtain⟨Ao11,co11,eo11⟩:=Kd.R_slice HO_5.out;subst eo11;have p637:0≤(x8_1:Int):=of_decide_eq_true qz4;have q637:x8_1<(t634.length:Int):=of_decide_eq_true qz4;obtain⟨ad637,e637,hx637_0⟩:=Kd.at_int (Kd.R_reads' HO_5.out).2.2 x8_1 p637 q637;cases e637;replace p637:=eq_true p637;replace q637:=eq_true q637;go_wp2_with (first|((with_reducible refine gate_callee (f:=96) rfl ?_);refine gL (some 27) Tryz.func96 #[.int .i64 x6_1,.int .i64 (rd t634 x8_1)] ?_;(with_reducible refine(spec_l1Least.calls x6_1 (rd t634 x8_1) t638 _ A9.out).mono ?_);rintro e w' ⟨rfl,⟨nd,rfl⟩⟩;refine⟨_,rfl,?_⟩;have p639:0≤(x8_1:Int):=of_decide_eq_true qz4;have q639:x8_1<(t634.length:Int):=of_decide_eq_true qz4;obtain⟨ad639,e639,hx639_0⟩:=Kd.at_int (Kd.R_reads' HO_5.out).2.2 x8_1 p639 q639;obtain rfl:ad637=ad639:=(by injection e639);replace p639:=eq_true p639;replace q639:=eq_true q639)|((with_reducible refine gate_callee (f:=88) rfl ?_);refine gL (some 33) Tryz.func88 #[.int .i64 x7_1,.int .i64 (rd t634 x8_1)] ?_;(with_reducible refine(spec_l1Most.calls x7_1 (rd t634 x8_1) t640 _ A10.out).mono ?_);rintro e w' ⟨rfl,⟨nd,rfl⟩⟩;refine⟨_,rfl,?_⟩));go_roundg k1;(case measure=>have:=HK1.out;omega);(case rel=>exact⟨(t638),(t640),(wrap64 (x8_1+1)),qz6,qz6,qz6,H',⟨qz50⟩,⟨(qx0 HO_5.out)⟩,⟨qz0⟩⟩)
     ·rw[if_neg c8]at H;exact absurd H (by simp)
    ·rw[if_neg c7]at H;have c7b0:decide (x8_1<(t634.length:Int))=false:=decide_eq_false c7;clear c7;obtain⟨t641,A12,H⟩:=ob H;(try dsimp only at H);obtain⟨⟨t642,t643⟩,A13,H⟩:=ob H;(try dsimp only at H);simp only[Option.some.injEq,Prod.mk.injEq]at H;obtain⟨rfl,rfl,rfl⟩:=H;obtain⟨Ao14,co14,eo14⟩:=Kd.R_slice HO_5.out;subst eo14;go_wp2_with (first|((with_reducible refine gate_callee (f:=85) rfl ?_);refine gL (some 39) Tryz.func85 #[.slice A0 l0.length c0] ?_;(with_reducible refine(spec_l9Trees.calls _ _ l0 t641 _ ?side1 ?side2 A12.out ?sideL).mono ?_);(case sideL=>exact HL.out.keep qz8);(case side1=>exact qz14);(case side2=>exact HC0.out);rintro e w15 ⟨rfl,hb⟩;refine⟨_,rfl,?_⟩;replace HO_5:=ak (Kd.R_below (qx0 HO_5.out) hb);replace HB:=ak (below_step qz0 hb);clear hb)|((with_reducible refine gate_callee (f:=97) rfl ?_);refine gL (some 40) Tryz.func97 #[.int .i64 (wrap64 (x7_1-x6_1)),.int .i64 t641] ?_;(with_reducible refine(spec_l9Reduce.calls k1 (wrap64 (x7_1-x6_1)) t641 t642 t643 _ A13.out).mono ?_);rintro e w' ⟨rfl,⟨nd,rfl⟩⟩;refine⟨_,rfl,?_⟩))
     go_ret3
     exact⟨qz5,qz0⟩
 ·replace c3:=Bool.eq_false_iff.mpr c3;subst c3;rw[if_neg nft]at H;simp only[Option.some.injEq,Prod.mk.injEq]at H;obtain⟨rfl,rfl,rfl⟩:=H;go_enter Tryz.func46,Tryz.ntmps46;go_wp2_with (first|((with_reducible refine gate_callee (f:=63) rfl ?_);refine gL (some 12) Tryz.func63 #[.slice A0 l0.length c0] ?_;(with_reducible refine(spec_l4Legs.calls k _ _ l0 false _ ?side1 ?side2 A2.out).mono ?_);(case side1=>exact qz18);(case side2=>exact HC0.out);rintro e w16 ⟨rfl,hb⟩;refine⟨_,rfl,?_⟩;replace HB:=ak (below_step qz0 hb);clear hb))
  go_ret3
  exact⟨qz5,qz0⟩
end A
namespace A
open Go.Proofs.YtmgkbhhnchnkcaaGreatDoor YtmgkbhhnchnkcaaGreatDoorW.PrintLast YtmgkbhhnchnkcaaGreatDoorW.PrintMore
attribute [local go_sem] max2_int min2_int max_two min_two max_three min_three max_four min_four
def spec_TreeCount.f(k:Nat)(l0:List (S82)):Option (Int×Bool):=(spec_l4Legs.f k l0).bind fun t647=>(if t647=true then((spec_l9Trees.f l0).bind fun t648=>(some (t648,true))) else(some (0,false)))
theorem spec_TreeCount.calls(k:Nat)(A0:Option Addr)(c0:Nat)(l0:List (S82))(r1:Int)(r2:Bool)(w:World)(hr0:Kd.C k82 w A0 l0.length l0)(hc0:l0.length≤c0)(h:spec_TreeCount.f k l0=some (r1,r2))(hL:Net.Sine.Laid w):
  Calls Tryz.prog 50 #[.slice A0 l0.length c0] w fun e w'=>e= .returned (.tuple #[.int .i64 r1,.bool r2])∧Below w.heap.size w w':=by
 have HL:=ak hL;clear hL;have HR0:=ak hr0;have HC0:=ak hc0;clear hr0 hc0;have HB:=ak (Below.refl w.heap.size w);have H:=h;clear h;unfold spec_TreeCount.f at H;obtain⟨t647,A2,H⟩:=ob H;(try dsimp only at H);by_cases c3:t647=true
 ·subst c3;rw[if_pos rfl]at H;obtain⟨t648,A4,H⟩:=ob H;(try dsimp only at H);simp only[Option.some.injEq,Prod.mk.injEq]at H;obtain⟨rfl,rfl⟩:=H;go_enter Tryz.func50,Tryz.ntmps50;go_wp2_with (first|((with_reducible refine gate_callee (f:=63) rfl ?_);refine gL (some 5) Tryz.func63 #[.slice A0 l0.length c0] ?_;(with_reducible refine(spec_l4Legs.calls k _ _ l0 true _ ?side1 ?side2 A2.out).mono ?_);(case side1=>exact qz18);(case side2=>exact HC0.out);rintro e w5 ⟨rfl,hb⟩;refine⟨_,rfl,?_⟩;replace HB:=ak (below_step qz0 hb);clear hb)|((with_reducible refine gate_callee (f:=85) rfl ?_);refine gL (some 8) Tryz.func85 #[.slice A0 l0.length c0] ?_;(with_reducible refine(spec_l9Trees.calls _ _ l0 t648 _ ?side1 ?side2 A4.out ?sideL).mono ?_);(case sideL=>exact HL.out.keep qz8);(case side1=>exact qz14);(case side2=>exact HC0.out);rintro e w6 ⟨rfl,hb⟩;refine⟨_,rfl,?_⟩;replace HB:=ak (below_step qz0 hb);clear hb))
  go_ret2
  exact⟨qz5,qz0⟩
 ·replace c3:=Bool.eq_false_iff.mpr c3;subst c3;rw[if_neg nft]at H;simp only[Option.some.injEq,Prod.mk.injEq]at H;obtain⟨rfl,rfl⟩:=H;go_enter Tryz.func50,Tryz.ntmps50;go_wp2_with (first|((with_reducible refine gate_callee (f:=63) rfl ?_);refine gL (some 5) Tryz.func63 #[.slice A0 l0.length c0] ?_;(with_reducible refine(spec_l4Legs.calls k _ _ l0 false _ ?side1 ?side2 A2.out).mono ?_);(case side1=>exact qz18);(case side2=>exact HC0.out);rintro e w7 ⟨rfl,hb⟩;refine⟨_,rfl,?_⟩;replace HB:=ak (below_step qz0 hb);clear hb))
  go_ret2
  exact⟨qz5,qz0⟩
end A
namespace Net
open YtmgkbhhnchnkcaaGreatDoorW.PrintLast YtmgkbhhnchnkcaaGreatDoorW.PrintMore A Plain
open Tree (verts legs W)
open Dfs (dfs try_)
open Grow (Q sweep grow)
theorem rd_at(l:List Int)(i:Nat)(h:i<l.length):rd l (i:Int)=l[i]:=by
  unfold rd;rw[Int.toNat_natCast,List.getD_eq_getElem?_getD,List.getElem?_eq_getElem h];rfl
section
variable (ls:L) (hg:∀x∈ls,Good x) (tree:List Int) (ht:∀i∈tree,0≤i∧i<(ls.length:Int)) (hl:tree.length≤1000) (dst:Int)
include hg ht hl
end
theorem mem_closeTo (ls:L) (q:Q):∀(n:Nat) (i:Int),i∈closeTo ls q n↔∃k:Nat,i=k∧k<n∧Pq q (leg ls k).f0.toNat=true∧Bq q k=false
  |0,i=>by simp[closeTo]
  | n + 1,i=>by
    have ih:=mem_closeTo ls q n i;unfold closeTo;split
    · rename_i c
      rw[List.mem_append,ih,List.mem_singleton]
      constructor
      · rintro(⟨k,h1,h2,h3⟩|rfl)
        · exact⟨k,h1,by omega,h3⟩
        · exact⟨n,rfl,by omega,c⟩
      · rintro⟨k,h1,h2,h3⟩
        by_cases e:k=n
        · exact Or.inr (by rw[h1,e])
        · exact Or.inl ⟨k,h1,by omega,h3⟩
    · rename_i c
      rw[ih]
      constructor
      · rintro⟨k,h1,h2,h3⟩
        exact⟨k,h1,by omega,h3⟩
      · rintro⟨k,h1,h2,h3⟩
        by_cases e:k=n
        · exact absurd (e▸h3) c
        · exact⟨k,h1,by omega,h3⟩
theorem mem_closeL{ls:L}(hg:∀x∈ls,Good x){i:Int}(h:i∈closeL ls):0≤i∧i<(ls.length:Int)∧(ends ls i).1∈verts 0 (RR ls)∧(ends ls i).2∈verts 0 (RR ls)∧i∉legs (RR ls):=by
  obtain⟨k,rfl,h1,h2,h3⟩:=(mem_closeTo ls (RR ls) ls.length i).mp h;have hk:=(leg_good hg k h1).1.1
  have hv:(ends ls k).1∈verts 0 (RR ls):=by
    have:=of_decide_eq_true h2
    rwa [Int.toNat_of_nonneg hk]at this
  exact⟨by omega,by omega,hv,((RR_ok hg).2 k (by omega) (by omega)).mp hv,of_decide_eq_false h3⟩
theorem pl_bound{ls:L}(sh:Int→Int)(hs:∀i,0≤i→i<(ls.length:Int)→ -500≤sh i∧sh i≤500):∀{q:Q},(∀x∈q,0≤x.1∧x.1<(ls.length:Int))→∀x,-(500*(q.length:Int))≤Sum.pl (ends ls) sh q x∧Sum.pl (ends ls) sh q x≤500*(q.length:Int)
  |[],_,x=>by simp[Sum.pl]
  | (i,u,s)::q,h,x=>by
    have hi:=hs i (h _ List.mem_cons_self).1 (h _ List.mem_cons_self).2;have ih:=pl_bound sh hs (q:=q) (fun x hx=>h x (List.mem_cons_of_mem _ hx));have h1:=ih u;have h2:=ih x;simp only[Sum.pl,List.length_cons];split
    · split<;>omega
    · omega
theorem plus_exact{a b:S72}(ha:(-1000000≤a.f0∧a.f0≤1000000)∧(-1000000≤a.f1∧a.f1≤1000000)∧(-1000000≤a.f2∧a.f2≤1000000))(hb:(-1000000≤b.f0∧b.f0≤1000000)∧(-1000000≤b.f1∧b.f1≤1000000)∧(-1000000≤b.f2∧b.f2≤1000000)):
    plus a b 1=⟨a.f0+b.f0,a.f1+b.f1,a.f2+b.f2⟩∧plus a b (-1)=⟨a.f0-b.f0,a.f1-b.f1,a.f2-b.f2⟩:=by
  unfold plus
  constructor
  · rw[Int.one_mul,Int.one_mul,Int.one_mul,w64 (x:=b.f0) (by omega) (by omega),w64 (x:=b.f1) (by omega) (by omega),w64 (x:=b.f2) (by omega) (by omega),w64 (by omega) (by omega),w64 (by omega) (by omega),w64 (by omega) (by omega)]
  · rw[w64 (x:= -1*b.f0) (by omega) (by omega),w64 (x:= -1*b.f1) (by omega) (by omega),w64 (x:= -1*b.f2) (by omega) (by omega),w64 (by omega) (by omega),w64 (by omega) (by omega),w64 (by omega) (by omega)]
    congr 1<;>omega
def sh0(ls:L)(i:Int):Int:=(shift (leg ls i)).f0
def sh1(ls:L)(i:Int):Int:=(shift (leg ls i)).f1
def sh2(ls:L)(i:Int):Int:=(shift (leg ls i)).f2
theorem sh_bound{ls:L}(hg:∀x∈ls,Good x)(i:Int)(h0:0≤i)(h1:i<(ls.length:Int)):(-500≤sh0 ls i∧sh0 ls i≤500)∧(-500≤sh1 ls i∧sh1 ls i≤500)∧(-500≤sh2 ls i∧sh2 ls i≤500):=by
  obtain⟨k,rfl⟩:=Int.eq_ofNat_of_zero_le h0;exact shift_bound _ (leg_good hg k (Int.ofNat_lt.mp h1))
theorem plq_pl {ls:L} (hg:∀x∈ls,Good x):∀{q:Q},q.length≤100→(∀x∈q,0≤x.1∧x.1<(ls.length:Int))→∀x,plq ls q x=⟨Sum.pl (ends ls) (sh0 ls) q x,Sum.pl (ends ls) (sh1 ls) q x,Sum.pl (ends ls) (sh2 ls) q x⟩
  |[],_,_,x=>rfl
  | (i, u,s)::q,hl,h,x=>by
    have hi:=sh_bound hg i (h _ List.mem_cons_self).1 (h _ List.mem_cons_self).2;have hr:=fun x hx=>h x (List.mem_cons_of_mem (i,u,s) hx)
    have hl':q.length≤100:=by simp only[List.length_cons]at hl;omega
    have ih:=plq_pl hg hl' hr;have b0:=pl_bound (sh0 ls) (fun i a b=>(sh_bound hg i a b).1) hr u;have b1:=pl_bound (sh1 ls) (fun i a b=>(sh_bound hg i a b).2.1) hr u;have b2:=pl_bound (sh2 ls) (fun i a b=>(sh_bound hg i a b).2.2) hr u;simp only[plq,Sum.pl];by_cases c:x=s
    · simp only[if_pos c]
      rw[ih u];have ex:=plus_exact (a:=⟨Sum.pl (ends ls) (sh0 ls) q u,Sum.pl (ends ls) (sh1 ls) q u,Sum.pl (ends ls) (sh2 ls) q u⟩) (b:=shift (leg ls i)) ⟨qz42,qz42,qz42⟩ ⟨(by have:=hi.1;unfold sh0 at this;omega),(by have:=hi.2.1;unfold sh1 at this;omega),(by have:=hi.2.2;unfold sh2 at this;omega)⟩;by_cases c2:(ends ls i).1=u
      · simp only[if_pos c2]
        rw[ex.1];rfl
      · simp only[if_neg c2]
        rw[ex.2];rfl
    · simp only[if_neg c]
      exact ih x
end Net
namespace Net
open YtmgkbhhnchnkcaaGreatDoorW.PrintLast YtmgkbhhnchnkcaaGreatDoorW.PrintMore A Plain
def Gate(ls:L)(b:Bool)(w:World)(e:Ending)(w':World):Prop:=∃g T cA cC,e= .returned (.tuple #[.pointer (some ⟨g,0,none⟩),.bool b])∧St ls.length T g (Pq (RR ls)) (Xq ls (RR ls)) (Bq (RR ls)) (.slice cA (closeL ls).length cC) w'∧Kd.R (Kd.int .i64) 3 w' w.heap.size (fun k=>k≠g∧k≠T) (.slice cA (closeL ls).length cC) (closeL ls)∧Below w.heap.size w w'
theorem placedLeg(A:Option Addr)(c:Nat)(ls:L)(i:Int)(w:World)(hL:Sine.Laid w)(hr0:Kd.C k82 w A ls.length ls)(hc:ls.length≤c)(hv:legsB ls=true)(h0:0≤i)(h1:i<ls.length):
    Calls Tryz.prog 53 #[.slice A ls.length c,.int .i64 i] w (Gate ls (Pq (RR ls) (leg ls i).f0.toNat) w):=by
  have hv':=legsB_iff.mp hv;have hn:=hv'.2;obtain⟨K,hK⟩:=areLegs_ev ls (by omega);have HA:=ak (hK K (Nat.le_refl _));rw[hv]at HA;have HW:Aside0 (impl_within.f i 0 ((ls.length:Int)-1)=some true):=⟨(by rw[within_eq,decide_eq_true (by omega)])⟩;obtain⟨k,rfl⟩:=Int.eq_ofNat_of_zero_le h0;have hg:=leg_good hv'.1 k (by omega);obtain⟨a,ha⟩:=Int.eq_ofNat_of_zero_le hg.1.1;have ha8:(a:Int)<8:=by have:=hg.1.2;omega
  rw[ha,Int.toNat_natCast];obtain⟨_,e2,h2,_⟩:=at_T82 hr0 (k:Int) h0 h1;cases e2;rw[Int.toNat_natCast,show rd_T82 ls (k:Int)=leg ls k from rfl,ha]at h2;have H2:=ak h2;have HG:=ak hv'.1;have HR:=ak hr0;have HL:=ak hL;have HB:=ak (Below.refl w.heap.size w);clear hK hr0 hL hv hv' hg ha h2;go_enter Tryz.func53,Tryz.ntmps53
  go_wp2_with (first
    |(go_at_call 61;(with_reducible refine(impl_areLegs.calls K _ _ ls true _ ?s1 ?s2 HA.out).mono ?_);(case s1=>exact Kd.C_below HR.out qz15);(case s2=>exact hc);rintro e w' ⟨rfl,hw⟩;replace HB:=ak (below_step (show Below w.heap.size w _ from by(repeat(first|exact HB.out|exact Below.refl _ _|apply below_alloc|apply pw_below_drewN|apply below_drew1));done) hw);clear hw)
    |(go_at_call 101;(with_reducible refine(impl_within.calls _ _ _ _ _ HW.out).mono ?_);rintro e w' ⟨rfl,⟨nd,rfl⟩⟩;replace HB:=ak (pw_below_drewN HB.out nd))
    |((go_at_call 66;(with_reducible refine(place _ c ls _ ?s1 ?s2 hc hn HG.out (RR ls) rfl).mono ?_);(case s1=>exact HL.out.keep qz15);(case s2=>exact Kd.C_below HR.out qz15);rintro e w' ⟨g,T,cl,rfl,hst,ho,hw⟩;have HO:Aside0 (Kd.R (Kd.int .i64) 3 w' w.heap.size (fun k=>k≠g∧k≠T) cl (closeL ls)):=⟨Kd.R_lower ho (below_size (show Below w.heap.size w _ from by(repeat(first|exact HB.out|exact Below.refl _ _|apply below_alloc|apply pw_below_drewN|apply below_drew1));done))⟩;replace HB:=ak (below_step (show Below w.heap.size w _ from by(repeat(first|exact HB.out|exact Below.refl _ _|apply below_alloc|apply pw_below_drewN|apply below_drew1));done) hw);have HS:=ak hst;clear hst ho hw;obtain⟨cA,cC,ecl⟩:=Kd.R_slice HO.out;subst ecl);have h2:=Sine.keepc H2.out HB.out;have pa:=HS.out.pb a (by omega)))
  go_quiet (fail)
  go_wp2
  go_ret2
  exact⟨g,T,cA,cC,rfl,HS.out.keep (pw_below_drewN (Below.refl _ _) _),Kd.R_drewN HO.out _,pw_below_drewN HB.out _⟩
theorem placedLeg_no(A:Option Addr)(c:Nat)(ls:L)(i:Int)(w:World)(hr0:Kd.C k82 w A ls.length ls)(hc:ls.length≤c)(hb:ls.length≤140737488351232)(hv:legsB ls=true→¬(0≤i∧i<ls.length)):
    Calls Tryz.prog 53 #[.slice A ls.length c,.int .i64 i] w fun e w'=>e= .returned (.tuple #[.pointer none,.bool false])∧Below w.heap.size w w':=by
  obtain⟨K,hK⟩:=areLegs_ev ls hb;have HA:=ak (hK K (Nat.le_refl _));have HR:=ak hr0;have HB:=ak (Below.refl w.heap.size w);clear hK hr0;cases hq:legsB ls
  · rw[hq]at HA
    clear hq hv;go_enter Tryz.func53,Tryz.ntmps53;go_wp2_with (go_at_call 61;(with_reducible refine(impl_areLegs.calls K _ _ ls false _ ?s1 ?s2 HA.out).mono ?_);(case s1=>exact Kd.C_below HR.out qz15);(case s2=>exact hc);rintro e w' ⟨rfl,hw⟩;replace HB:=ak (below_step (show Below w.heap.size w _ from by(repeat(first|exact HB.out|exact Below.refl _ _|apply below_alloc|apply pw_below_drewN|apply below_drew1));done) hw);clear hw)
    go_ret2
    exact⟨rfl,HB.out⟩
  · rw[hq]at HA
    have hv2:=hv hq;have HW:Aside0 (impl_within.f i 0 ((ls.length:Int)-1)=some false):=⟨(by rw[within_eq,decide_eq_false (by omega)])⟩;clear hq hv;go_enter Tryz.func53,Tryz.ntmps53
    go_wp2_with (first
      |(go_at_call 61;(with_reducible refine(impl_areLegs.calls K _ _ ls true _ ?s1 ?s2 HA.out).mono ?_);(case s1=>exact Kd.C_below HR.out qz15);(case s2=>exact hc);rintro e w' ⟨rfl,hw⟩;replace HB:=ak (below_step (show Below w.heap.size w _ from by(repeat(first|exact HB.out|exact Below.refl _ _|apply below_alloc|apply pw_below_drewN|apply below_drew1));done) hw);clear hw)
      |(go_at_call 101;(with_reducible refine(impl_within.calls _ _ _ _ _ HW.out).mono ?_);rintro e w' ⟨rfl,⟨nd,rfl⟩⟩;replace HB:=ak (pw_below_drewN HB.out nd)))
    go_ret2
    exact⟨rfl,HB.out⟩
end Net
namespace Net
open YtmgkbhhnchnkcaaGreatDoorW.PrintLast YtmgkbhhnchnkcaaGreatDoorW.PrintMore A Plain
open Tree (verts legs W)
open Grow (Q sweep grow)
end Net
namespace Net
open Plain
end Net
namespace Net
open Go Go.Maps Go.WideElems Go.ChangeShapes YtmgkbhhnchnkcaaGreatDoorW.PrintLast YtmgkbhhnchnkcaaGreatDoorW.PrintMore A Plain
open Tree (verts legs W)
open Grow (Q)
theorem keyed3:Maps.Keyed Tryz.prog 3:=Maps.int_keyed Tryz.underlying3
theorem zero3(w:World):(zeroValue 3).run Tryz.prog w= .ok (.int .i64 0) w:=by kernel_rfl
def MapAt(w:World)(b:Nat)(n:Nat)(F:Int→Option Int):Prop:=∃D:DataW Unit,w.ownsMap Tryz.prog 3 (plainElem Tryz.prog 3) b n D∧∀x:Int,0≤x→x<100→Maps.has D (.int .i64 x)=(F x).isSome∧D.atKey (.int .i64 x) (.lit (.int .i64 0))= .lit (.int .i64 ((F x).getD 0))
theorem wf_small{x:Int}(h0: -100≤x)(h1:x<1000):(Lit.int .i64 x).wf=true:=by
  simp only[Lit.wf,IntKind.min,IntKind.max,IntKind.signed,IntKind.bits,Bool.and_eq_true,decide_eq_true_eq,if_true];omega
theorem MapAt.kept{w w':World}{b n:Nat}{F:Int→Option Int}{row:Option Nat}(h:MapAt w b n F)(hg:w.grownBy w' row)(hne:some b≠row):MapAt w' b n F:=by
  obtain⟨D,h1,h2⟩:=h;exact⟨D,h1.kept hg hne,h2⟩
theorem MapAt.lt{w:World}{b n:Nat}{F:Int→Option Int}(h:MapAt w b n F):b<w.heap.size:=by
  obtain⟨D,h1,h2⟩:=h;exact h1.lt
theorem MapAt.below{w w':World}{b n:Nat}{F:Int→Option Int}(h:MapAt w b n F)(hb:Below w.heap.size w w'):MapAt w' b n F:=by
  obtain⟨D,h1,h2⟩:=h;have hlt:=h1.lt;obtain⟨es,clock,hh,F',hs,hD⟩:=h1;exact⟨D,⟨es,clock,(hb.block b hlt).trans hh,F',hs,hD⟩,h2⟩
theorem MapAt.look{w:World}{b n:Nat}{F:Int→Option Int}(h:MapAt w b n F)(x:Int)(h0:0≤x)(h1:x<100):
    (Instr.lookup 121 (.map (some b)) (.int .i64 x) true).run Tryz.prog w= .ok (.tuple #[.int .i64 ((F x).getD 0),.bool (F x).isSome]) w ∧
    (Instr.lookup 121 (.map (some b)) (.int .i64 x) false).run Tryz.prog w= .ok (.int .i64 ((F x).getD 0)) w:=by
  obtain⟨D,hown,hF⟩:=h;obtain⟨hh,hat⟩:=hF x h0 h1;have hkey:=keyOf_int_mk Tryz.underlying3 (wf_small (x:=x) (by omega) (by omega));have hz0:(Lit.int .i64 0).wf=true:=by decide
  obtain⟨v,ps,hrun,hv⟩:=hown.look_ok keyed3 Tryz.underlying121 (zero3 w) (plainElem_int Tryz.underlying3 hz0) hkey;obtain⟨c,rfl,hc,_⟩:=plainElem_int_inv Tryz.underlying3 hv;obtain⟨c2,hrun2,hc2,_⟩:=hown.lookup_int keyed3 Tryz.underlying121 Tryz.underlying3 (zero3 w) hkey;rw[hat]at hc2 hc;have e1:(F x).getD 0=c:=by simpa using congrArg Prod.fst hc
  have e2:(F x).getD 0=c2:=by simpa using hc2
  rw[hrun,hrun2,hh,←e1,←e2];exact⟨rfl,rfl⟩
theorem MapAt.store{w:World}{b n:Nat}{F:Int→Option Int}(h:MapAt w b n F)(hn:n<1000)(x v:Int)(h0:0≤x)(h1:x<100)(hv: -100≤v)(hv1:v<1000):
    ∃w',(Instr.mapUpdate 121 (.map (some b)) (.int .i64 x) (.int .i64 v)).run Tryz.prog w= .ok () w'∧MapAt w' b (n+1) (fun y=>if y=x then some v else F y)∧w.grownBy w' (some b):=by
  obtain⟨D,hown,hF⟩:=h;have hkey:=keyOf_int_mk Tryz.underlying3 (wf_small (x:=x) (by omega) (by omega));obtain⟨w',hrun,hown',hg⟩:=hown.update keyed3 Tryz.underlying121 (by unfold maxLen;omega) hkey (plainElem_int Tryz.underlying3 (wf_small hv hv1));refine⟨w',hrun,⟨_,hown',fun y y0 y1=>?_⟩,hg⟩;have hD:=hown.isMap;have hk:∀z:Int,WideAt.IsKeyLit (.int .i64 z):=fun z=>trivial
  obtain⟨f1,f2⟩:=hF y y0 y1
  dsimp only
  by_cases e:y=x
  · subst e
    rw[if_pos rfl,Maps.has_put_same hD (hk y),Maps.atKey_put_same hD (hk y)];exact⟨rfl,rfl⟩
  · have hne:(Lit.int .i64 y:Lit)≠ .int .i64 x:=fun h=>e (by injection h)
    rw[if_neg e,Maps.has_put_other hne,Maps.atKey_put_other hne];exact⟨f1,f2⟩
theorem MapAt.new(w:World)(r:Int)(h0:0≤r)(h1:r<100):∃w',(Instr.mapUpdate 121 (.map (some w.heap.size)) (.int .i64 r) (.int .i64 (-1))).run Tryz.prog (w.alloc (.map #[] 0))= .ok () w'∧MapAt w' w.heap.size 1 (fun y=>if y=r then some (-1) else none)∧Below w.heap.size w w'∧w.heap.size+1≤w'.heap.size:=by
  have h:MapAt (w.alloc (.map #[] 0)) w.heap.size 0 (fun _=>none):=⟨_,World.ownsMap_made w _ _ _,fun x _ _=>⟨rfl,rfl⟩⟩;obtain⟨w',hrun,hm,hg⟩:=h.store (by omega) r (-1) h0 h1 (by omega) (by omega);have hsz:(w.alloc (Obj.map #[] 0)).heap.size=w.heap.size+1:=by simp
  refine⟨w',hrun,hm,?_,(by have:=hg.size;omega)⟩;exact(below_alloc (Below.refl w.heap.size w) (Obj.map #[] 0)).grown hg (by omega) (fun k e=>by injection e with e;omega)
theorem R_lits(xs:List Int)(W:World)(base:Nat)(ok:Nat→Prop)(hb:base≤W.heap.size)(hok:ok W.heap.size)(hl:xs.length≤1000):
    Kd.R (Kd.int .i64) 3 (W.alloc (Obj.cells (xs.map (Value.int .i64)).toArray 3)) base ok (.slice (some ⟨W.heap.size,0,none⟩) xs.length xs.length) xs:=by
  refine⟨fun k hk=>?_,xs.map (Value.int .i64),?_,Kd.reps_scalar xs⟩
  · have:W.heap.size=k:=by simpa[Value.ownBlock]using hk
    subst this;exact hok
  · have h2:=World.ownsRow_lit (base:=base) (e:=3) (size:=1) W (xs.map (Value.int .i64)).toArray xs.length hb (by simp[maxLen];omega) (by simp)
    show World.ownsRow _ _ _ 1 _ _ _;simpa using h2
theorem R_blocks{w W:World}{base:Nat}{ok:Nat→Prop}{v:Value}{xs:List Int}(h:Kd.R (Kd.int .i64) 3 w base ok v xs)(hs:w.heap.size≤W.heap.size)(hb:∀b,ok b→b<w.heap.size→W.heap[b]?=w.heap[b]?):Kd.R (Kd.int .i64) 3 W base ok v xs:=
  Kd.R_step h (fun k ho hl=>hb k ho (by omega))
theorem R_own_ok{w:World}{base:Nat}{ok ok':Nat→Prop}{v:Value}{xs:List Int}(h:Kd.R (Kd.int .i64) 3 w base ok v xs)(ho:∀b,v.ownBlock=some b→some b=v.ownBlock∧True→ok' b):Kd.R (Kd.int .i64) 3 w base ok' v xs:=by
  obtain⟨h0,inner,hown,hr⟩:=h;exact⟨fun k hk=>ho k hk ⟨hk.symm,trivial⟩,inner,hown,hr.imp_ (fun _ _ hp=>hp)⟩
def bef(r:Int)(q:Q)(x:Int):Option Int:=if x=r then some (-1) else(q.find? (fun t=>t.2.2==x)).map (·.1)
theorem bef_cons{r i u s:Int}{q:Q}(hs:s≠r)(x:Int):bef r ((i,u,s)::q) x=if x=s then some i else bef r q x:=by
  unfold bef;by_cases h:x=r
  · rw[if_pos h,if_neg (fun e=>hs (e.symm.trans h)),if_pos h]
  · rw[if_neg h,if_neg h,List.find?_cons]
    by_cases e:x=s
    · subst e;simp
    · have e':(s==x)=false:=by simpa using fun h=>e h.symm
      simp only[e',if_neg e]
theorem bef_some {r:Int} {q:Q} (x:Int):(bef r q x).isSome=decide (x∈verts r q):=by
  unfold bef;by_cases h:x=r
  · subst h;rw[if_pos rfl];simp[verts]
  · rw [if_neg h]
    induction q with
    |nil=>simp[verts,h]
    | cons t q ih=>
      rw[List.find?_cons];by_cases e:t.2.2=x
      · have e':(t.2.2==x)=true:=by simpa using e
        simp only[e',Option.map_some,Option.isSome_some];exact(decide_eq_true (by simp[verts,e])).symm
      · have e':(t.2.2==x)=false:=by simpa using e
        simp only[e'];rw[ih,decide_eq_decide];simp only[verts,List.map_cons,List.mem_cons]
        constructor
        · rintro(h1|h1)
          · exact Or.inl h1
          · exact Or.inr (Or.inr h1)
        · rintro(h1|h1|h1)
          · exact Or.inl h1
          · exact absurd h1.symm e
          · exact Or.inr h1
theorem okRange{e:Int→Int×Int}{use:Int→Bool}{r:Int}{n:Nat}{q:Q}(h:Bfs.Ok e use r n q)(h0:0≤r∧r<8)(hr:∀i:Int,0≤i→i<n→0≤(e i).1∧(e i).1<8∧0≤(e i).2∧(e i).2<8):∀s∈verts r q,0≤s∧s<8:=by
  intro s hs;simp only[verts,List.mem_cons,List.mem_map]at hs;rcases hs with rfl|⟨x,hx,rfl⟩
  · exact h0
  · obtain⟨he,⟨h0,h1⟩,_⟩:=h.ends x hx
    have:=hr _ h0 h1;rcases he with he|he<;>rw[he]at this<;>simp only at this<;>omega
def trail(e:Int→Int×Int):Int→List Int→List Int
  |a,[]=>[a]
  |a,i::l=>a::trail e ((e i).1+(e i).2-a) l
theorem rdp_at(l:List Int)(i:Nat)(h:i<l.length):Go.Proofs.YtmgkbhhnchnkcaaGreatDoorW.PrintWords.rd l (i:Int)=l[i]:=by
  unfold Go.Proofs.YtmgkbhhnchnkcaaGreatDoorW.PrintWords.rd;rw[Int.toNat_natCast,List.getD_eq_getElem?_getD,List.getElem?_eq_getElem h];rfl
theorem rev_loop (l:List Int) (hn:l.length≤1000):∀(d i:Nat) (x:List Int),x.length=l.length→(∀m:Nat,m<l.length→x[m]?=if m<i∨l.length-i≤m then l[l.length-1-m]? else l[m]?)→l.length≤2*i+d→i≤l.length →
    Ev (fun k=>slices_Reverse_int_int.l0 k x (i:Int) ((l.length:Int)-1-(i:Int))) l.reverse:=by
  intro d
  induction d with
  | zero=>
    intro i x hx hm hd hi
    have:x=l.reverse:=by
      apply List.ext_getElem?;intro m;by_cases h:m<l.length
      · rw[hm m h,if_pos (by omega),List.getElem?_reverse h]
      · rw[List.getElem?_eq_none (by omega),List.getElem?_eq_none qz82]
    rw[←this];refine Ev.step (f:=fun _=>some x) (fun k=>?_) (Ev.now _);simp only[slices_Reverse_int_int.l0];rw[if_neg (by omega)]
  | succ d ih=>
    intro i x hx hm hd hi;by_cases c:(i:Int)<(l.length:Int)-1-(i:Int)
    · have e1:wrap64 ((i:Int)+1)=((i+1:Nat):Int):=by rw[w64 (by omega) (by omega)];omega
      have e2:wrap64 ((l.length:Int)-1-(i:Int)-1)=(l.length:Int)-1-((i+1:Nat):Int):=by rw[w64 (by omega) (by omega)];omega
      have ej:((l.length:Int)-1-(i:Int)).toNat=l.length-1-i:=by omega
      refine Ev.step (fun k=>?_) (ih (i+1) ((x.set i (rd x ((l.length:Int)-1-(i:Int)))).set (l.length-1-i) (rd x (i:Int))) (by simp[hx]) ?_ (by omega) (by omega))
      · simp only[slices_Reverse_int_int.l0]
        rw[if_pos c,if_pos (by omega),if_pos (by omega),if_pos (by omega),if_pos (by omega),e1,e2,ej,Int.toNat_natCast]
      · have r1:rd x (i:Int)=l[i]'(by omega):=by
          have:=hm i (by omega);rw[if_neg (by omega),List.getElem?_eq_getElem (by omega:i<x.length),List.getElem?_eq_getElem (by omega:i<l.length)]at this;rw[rdp_at x i (by omega)];exact Option.some.inj this
        have r2:rd x ((l.length:Int)-1-(i:Int))=l[l.length-1-i]'(by omega):=by
          have:=hm (l.length-1-i) (by omega);rw[if_neg (by omega),List.getElem?_eq_getElem (by omega:l.length-1-i<x.length),List.getElem?_eq_getElem (by omega:l.length-1-i<l.length)]at this;rw[show(l.length:Int)-1-(i:Int)=((l.length-1-i:Nat):Int) by omega,rdp_at x _ (by omega)];exact Option.some.inj this
        intro m hml;rw[r1,r2,List.getElem?_set,List.getElem?_set];by_cases m1:l.length-1-i=m
        · rw[if_pos m1,if_pos qz82,if_pos (by omega),←m1,show l.length-1-(l.length-1-i)=i by omega,List.getElem?_eq_getElem (by omega:i<l.length)]
        · rw[if_neg m1]
          by_cases m2:i=m
          · rw[if_pos m2,if_pos (by omega),if_pos (by omega),←m2,List.getElem?_eq_getElem (by omega:l.length-1-i<l.length)]
          · rw[if_neg m2,hm m hml]
            by_cases m3:m<i∨l.length-i≤m
            · rw[if_pos m3,if_pos (by omega)]
            · rw[if_neg m3,if_neg (by omega)]
    · have:x=l.reverse:=by
        apply List.ext_getElem?;intro m;by_cases h:m<l.length
        · rw[hm m h,List.getElem?_reverse h]
          by_cases m3:m<i∨l.length-i≤m
          · rw[if_pos m3]
          · rw[if_neg m3,show l.length-1-m=m by omega]
        · rw[List.getElem?_eq_none (by omega),List.getElem?_eq_none qz82]
      rw[←this];refine Ev.step (f:=fun _=>some x) (fun k=>?_) (Ev.now _);simp only[slices_Reverse_int_int.l0];rw[if_neg c]
theorem rev_ev(l:List Int)(hn:l.length≤1000):Ev (fun k=>slices_Reverse_int_int.f k l) l.reverse:=by
  have h:=rev_loop l hn l.length 0 l rfl (fun m hm=>by rw[if_neg (by omega)]) (by omega) (by omega);refine Ev.congr (fun k=>?_) h;unfold slices_Reverse_int_int.f;rw[w64 (by omega) (by omega)];simp
theorem back_step {e:Int→Int×Int} {use:Int→Bool} {r:Int} {n:Nat} {q:Q} (h:Bfs.Ok e use r n q) {cur:Int} (hc:cur∈verts r q) (hr:cur≠r):
    ∃i u,bef r q cur=some i∧Bfs.back q cur=i::Bfs.back q u∧u∈verts r q∧(e i).1+(e i).2-cur=u∧0≤i∧i<n:=by
  obtain⟨t,hx⟩:=h
  induction t with
  |nil=>simp[verts]at hc;exact absurd hc hr
  | cons t hu hs hi ih=>
    rename_i q i u s
    obtain⟨he,hin,_⟩:=hx (i,u,s) List.mem_cons_self;have hsr:s≠r:=fun e=>hs (by rw[e];simp[verts])
    have mono:∀{y},y∈verts r q→y∈verts r ((i,u,s)::q):=fun h=>by
      simp only[verts,List.map_cons,List.mem_cons]at h ⊢;rcases h with h|h
      · exact Or.inl h
      · exact Or.inr (Or.inr h)
    by_cases hcs:cur=s
    · subst hcs
      refine⟨i,u,(by rw[bef_cons hsr,if_pos rfl]),?_,mono hu,?_,hin.1,hin.2⟩
      · have hus:u≠cur:=fun e=>hs (e▸hu)
        simp only[Bfs.back,if_pos,if_neg hus]
      · rcases he with he|he<;>rw[he]<;>simp only<;>omega
    · have hc':cur∈verts r q:=by
        simp only[verts,List.map_cons,List.mem_cons]at hc ⊢;rcases hc with h|h|h
        · exact Or.inl h
        · exact absurd h hcs
        · exact Or.inr h
      obtain⟨j,v,h1,h2,h3,h4,h5⟩:=ih hc' (fun x hm=>hx x (List.mem_cons_of_mem _ hm));have hvs:v≠s:=fun e=>hs (e▸h3)
      refine⟨j,v,(by rw[bef_cons hsr,if_neg hcs,h1]),?_,mono h3,h4,h5⟩;simp only[Bfs.back,if_neg hcs,if_neg hvs];exact h2
theorem back_root{e:Int→Int×Int}{use:Int→Bool}{r:Int}{n:Nat}{q:Q}(h:Bfs.Ok e use r n q):Bfs.back q r=[]:=by
  rw[Bfs.back_eq r h.tr (by simp[verts]),Tree.W_self]
theorem back_len{e:Int→Int×Int}{use:Int→Bool}{r:Int}{n:Nat}{q:Q}(h:Bfs.Ok e use r n q){cur:Int}(hc:cur∈verts r q):(Bfs.back q cur).length≤q.length:=by
  rw[Bfs.back_eq r h.tr hc];exact Tree.W_len q cur r
theorem trail_cons(e:Int→Int×Int)(a:Int)(l:List Int):trail e a l=a::(trail e a l).tail:=by cases l<;>rfl
theorem trail_len(e:Int→Int×Int):∀(l:List Int) (a:Int),(trail e a l).length=l.length+1
  |[],a=>rfl
  |i::l,a=>by simp[trail,trail_len e l]
def BackInv(e:Int→Int×Int)(r dst:Int)(R:Q)(cur:Int)(st lst:List Int):Prop:=cur∈verts r R∧lst++Bfs.back R cur=Bfs.back R dst∧st++(trail e cur (Bfs.back R cur)).tail=trail e dst (Bfs.back R dst)
theorem BackInv.start{e:Int→Int×Int}{r dst:Int}{R:Q}(h:dst∈verts r R):BackInv e r dst R dst [dst] []:=⟨h,rfl,(by rw[List.singleton_append,←trail_cons])⟩
theorem BackInv.next{e:Int→Int×Int}{r dst:Int}{R:Q}{cur i u:Int}{st lst:List Int}(h:BackInv e r dst R cur st lst)(hb:Bfs.back R cur=i::Bfs.back R u)(hu:u∈verts r R)(he:(e i).1+(e i).2-cur=u):BackInv e r dst R u (st++[u]) (lst++[i]):=by
  obtain⟨h1,h2,h3⟩:=h;refine⟨hu,(by rw[←h2,hb];simp),?_⟩;rw[←h3,hb];simp only[trail,he,List.tail_cons];rw[List.append_assoc,List.singleton_append,←trail_cons]
theorem BackInv.len{e:Int→Int×Int}{r dst:Int}{R:Q}{cur:Int}{st lst:List Int}(h:BackInv e r dst R cur st lst){n:Nat}{use:Int→Bool}(ok:Bfs.Ok e use r n R)(hd:dst∈verts r R):lst.length≤R.length∧st.length≤R.length+1:=by
  obtain⟨h1,h2,h3⟩:=h;have a:=congrArg List.length h2;have b:=congrArg List.length h3;have c:=back_len ok hd;rw[List.length_append]at a b;rw[trail_len]at b;omega
def PathYes(e:Int→Int×Int)(r dst:Int)(R:Q)(w:World)(en:Ending)(w':World):Prop:=∃v1 v2,en= .returned (.tuple #[v1,v2,.bool true])∧Kd.R (Kd.int .i64) 3 w' w.heap.size (fun b=>some b≠v2.ownBlock) v1 (trail e dst (Bfs.back R dst)).reverse∧Kd.R (Kd.int .i64) 3 w' w.heap.size (fun b=>some b≠v1.ownBlock) v2 (Bfs.back R dst).reverse∧Below w.heap.size w w'
def PathPost(e:Int→Int×Int)(r dst:Int)(R:Q)(w:World)(en:Ending)(w':World):Prop:=if dst∈verts r R then PathYes e r dst R w en w' else en= .returned (.tuple #[.slice none 0 0,.slice none 0 0,.bool false])∧Below w.heap.size w w'
def OutInv(ls:L)(use:Int→Bool)(r:Int)(R:Q)(k:Nat)(q:Q):Prop:=Bfs.Ok (ends ls) use r ls.length q∧k≤q.length+1∧∃f,Bfs.run (ends ls) use r ls.length f k q=R∧8<f+k
def InInv(ls:L)(use:Int→Bool)(r:Int)(a:Int)(q:Q)(i:Nat)(p:Q):Prop:=Bfs.Ok (ends ls) use r ls.length p∧Bfs.Ext q p∧Bfs.scan (ends ls) use r a (ls.length-i) i p=Bfs.scan (ends ls) use r a ls.length 0 q
theorem InInv.next{ls:L}{use:Int→Bool}{r a:Int}{q p:Q}{i:Nat}(h:InInv ls use r a q i p)(hi:i<ls.length)(ha:a∈verts r q):InInv ls use r a q (i+1) (Bfs.look (ends ls) use r a p i):=by
  obtain⟨h1,h2,h3⟩:=h;refine⟨h1.look (ends ls) use r (h2.verts r ha) (by omega) (by omega),h2.trans (Bfs.look_ext (ends ls) use r a p i),?_⟩;rw[←h3,show ls.length-i=(ls.length-(i+1))+1 by omega];rfl
theorem InInv.skip{ls:L}{use:Int→Bool}{r a:Int}{q p:Q}{i:Nat}(h:InInv ls use r a q i p)(hi:i<ls.length)(hs:((ends ls i).1≠a∧(ends ls i).2≠a)∨use i=false):InInv ls use r a q (i+1) p:=by
  obtain⟨h1,h2,h3⟩:=h;refine⟨h1,h2,?_⟩;rw[←h3,show ls.length-i=(ls.length-(i+1))+1 by omega];have e:Bfs.look (ends ls) use r a p i=p:=by unfold Bfs.look;rw[if_pos hs]
  show _=Bfs.scan (ends ls) use r a _ ((i:Int)+1) (Bfs.look (ends ls) use r a p i);rw[e];rfl
theorem OutInv.next{ls:L}{use:Int→Bool}{r a:Int}{q p R:Q}{k:Nat}(h:OutInv ls use r R k q)(hp:InInv ls use r a q ls.length p)(hk:k<(Bfs.queue r q).length)(ha:a=(Bfs.queue r q).getD k 0)(h7:q.length≤7):OutInv ls use r R (k+1) p:=by
  obtain⟨h1,h2,f,h3,h4⟩:=h;obtain⟨p1,⟨t,ht⟩,p3⟩:=hp;have hql:=Bfs.queue_len r q;rw[Nat.sub_self]at p3;obtain⟨f,rfl⟩:∃m,f=m+1:=⟨f-1,by omega⟩
  refine⟨p1,(by rw[ht,List.length_append];omega),f,?_,by omega⟩;rw[Bfs.run,if_pos hk,←ha]at h3;have p3':p=Bfs.scan (ends ls) use r a ls.length 0 q:=p3;rw[p3'];exact h3
theorem OutInv.stop{ls:L}{use:Int→Bool}{r:Int}{q R:Q}{k:Nat}(h:OutInv ls use r R k q)(hk:¬k<(Bfs.queue r q).length):R=q:=by
  obtain⟨h1,h2,f,h3,h4⟩:=h
  cases f with
  |zero=>exact h3.symm
  |succ f=>rw[Bfs.run,if_neg hk]at h3;exact h3.symm
theorem pathBridge (A:Option Addr) (c:Nat) (ls:L) (p0:Addr) (use:Int→Bool) (r dst:Int) (w:World) (hr0:Kd.C k82 w A ls.length ls) (hc:ls.length≤c) (hn:ls.length≤12) (hg:∀x∈ls,Good x) (hr:0≤r∧r<8) (hd:0≤dst∧dst<8)
    (HU:∀(i:Nat) (W:World),i<ls.length→Below w.heap.size w W→Calls Tryz.prog 103 #[.int .i64 (i:Int),.pointer (some p0)] W fun e W'=>e= .returned (.bool (use i))∧W'=W) (R:Q) (hR:Bfs.run (ends ls) use r ls.length 9 0 []=R):
    Calls Tryz.prog 102 #[.slice A ls.length c,.func (Fn.func 103) #[] #[.pointer (some p0)],.int .i64 r,.int .i64 dst] w (PathPost (ends ls) r dst R w):=by
  have HR:=ak hr0;have HG:=ak hg;have HU':=ak HU;have HB:=ak (Below.refl w.heap.size w);obtain⟨w1,hrun,hmap,hbel,hsz⟩:=MapAt.new w r hr.1 (by omega);have hmk:=run_makeMap (P:=Tryz.prog) 121 w;have HM:=ak hmap;have HB1:=ak hbel;have HI:=ak (show OutInv ls use r R 0 []from⟨Bfs.Ok.nil _ _ _ _,by simp,9,hR,by omega⟩);clear hr0 hg HU hmap hbel hR;go_enter Tryz.func102,Tryz.ntmps102;go_wp2;have HO:=ak (R_lits [r] w1 w.heap.size (fun b=>b≠w.heap.size) (by omega) (by omega) (by simp));replace HM:=ak (HM.out.below (below_alloc (Below.refl w1.heap.size w1) (Obj.cells #[Value.int IntKind.i64 r] 3)));replace HB1:=ak (below_alloc HB1.out (Obj.cells #[Value.int IntKind.i64 r] 3));rw[show([r].map (Value.int .i64)).toArray= #[Value.int IntKind.i64 r]from rfl]at HO;clear hmk hrun hsz HB
  go_loopw [12,13] (fun v12 v13 w'=>∃(k:Nat) (q:Q),v13= .int .i64 k∧Aside0 (OutInv ls use r R k q)∧Aside0 (Kd.R (Kd.int .i64) 3 w' w.heap.size (fun b=>b≠w.heap.size) v12 (Bfs.queue r q))∧Aside0 (MapAt w' w.heap.size (q.length+1) (bef r q))∧Aside0 (Below w.heap.size w w')) (fun _ v13 _=>9-(intOf v13).toNat)
  case atStart=>exact⟨0,[],rfl,HI,HO,HM,HB1⟩
  case round=>
    obtain⟨k,q,rfl,HI2,HO2,HM2,HB⟩:=hrel;clear HI HO HM HB1;obtain⟨qA,qC,eq_⟩:=Kd.R_slice HO2.out;subst eq_;have HQL:=ak (Bfs.queue_len r q);have HQ7:=ak (HI2.out.1.len (ends ls) use r hr (Good.range HG.out));by_cases hk:k<(Bfs.queue r q).length
    · have hkI : (k:Int)<((Bfs.queue r q).length:Int):=by omega
      have HK:=ak hk;obtain⟨a,hqa⟩:∃a,a=(Bfs.queue r q).getD k 0:=⟨_,rfl⟩
      have HQA:=ak hqa
      have HAV:Aside0 (a∈verts r q):=⟨by
        rw[hqa,←Bfs.mem_queue,List.getD_eq_getElem?_getD,List.getElem?_eq_getElem hk]
        exact List.getElem_mem hk⟩
      have HA8:Aside0 (0≤a∧a<8):=⟨okRange HI2.out.1 hr (Good.range HG.out) a HAV.out⟩;have HIn:=ak (show InInv ls use r a q 0 q from⟨HI2.out.1,Bfs.Ext.refl q,rfl⟩);clear hk hqa;go_wp2
      go_loopw [12,38] (fun v12 v38 w'=>∃(i:Nat) (p:Q),v38= .int .i64 i∧i≤ls.length∧Aside0 (InInv ls use r a q i p)∧Aside0 (Kd.R (Kd.int .i64) 3 w' w.heap.size (fun b=>b≠w.heap.size) v12 (Bfs.queue r p))∧Aside0 (MapAt w' w.heap.size (p.length+1) (bef r p))∧Aside0 (Below w.heap.size w w')) (fun _ v38 _=>ls.length-(intOf v38).toNat)
      case atStart=>exact⟨0,q,rfl,Nat.zero_le _,HIn,HO2,HM2,HB⟩
      case round=>
        obtain⟨i,p,rfl,hi,HJ,HO,HM,HB2⟩:=hrel;clear HIn HO2 HM2 HB;have HB:=HB2;clear HB2;obtain⟨qA2,qC2,eq_⟩:=Kd.R_slice HO.out;subst eq_;by_cases hlt:i<ls.length
        · obtain ⟨_,e2,h0,h1,h2,h3,h4⟩:=at_T82 HR.out (i:Int) (by omega) (by omega)
          cases e2;have HX:Aside0 (Good (leg ls (i:Int))):=⟨leg_good HG.out i hlt⟩;have HE:=ak (show ends ls i=((leg ls i).f0,(leg ls i).f1)from rfl);rw[Int.toNat_natCast,show rd_T82 ls (i:Int)=leg ls i from rfl]at h0 h1 h2 h3 h4
          have qk:∃ad,qA2=some ad∧wr.cell? (ad.add k)=some (.int .i64 a):=by
            obtain⟨t,ht⟩:=HJ.out.2.1.queue r;obtain⟨ad,h1,h2⟩:=Kd.at_int (Kd.R_reads' HO.out).2.2 (k:Int) (by omega) (by rw[ht,List.length_append];have:=HK.out;omega);refine⟨ad,h1,?_⟩;rw[Int.toNat_natCast]at h2;rw[h2];show some (Value.int .i64 ((Bfs.queue r p).getD (k:Int).toNat 0))=_;rw[Int.toNat_natCast,HQA.out,←HJ.out.2.1.queue_getD r HK.out]
          obtain⟨qad,eqa,qk⟩:=qk;subst eqa
          have hkI2:(k:Int)<((Bfs.queue r p).length:Int):=by
            obtain⟨t,ht⟩:=HJ.out.2.1.queue r;rw[ht,List.length_append];have:=HK.out;omega
          have hkI0:(0:Int)≤(k:Int):=by omega
          generalize leg ls (i:Int)=x at *;replace h0:=Sine.keepc h0 HB.out;replace h1:=Sine.keepc h1 HB.out;replace h2:=Sine.keepc h2 HB.out;replace h3:=Sine.keepc h3 HB.out;replace h4:=Sine.keepc h4 HB.out;go_wp2;have B1:=below_alloc (Below.refl wr.heap.size wr) (Obj.cells #[Value.int IntKind.i64 x.f0,Value.int IntKind.i64 x.f1,Value.int IntKind.i64 x.f2,Value.int IntKind.i64 x.f3,Value.int IntKind.i64 x.f4] 82);replace HB:=ak (below_step HB.out B1);replace HM:=ak (HM.out.below B1);replace HO:=ak (Kd.R_alloc HO.out (Obj.cells #[Value.int IntKind.i64 x.f0,Value.int IntKind.i64 x.f1,Value.int IntKind.i64 x.f2,Value.int IntKind.i64 x.f3,Value.int IntKind.i64 x.f4] 82));replace qk:=Sine.keepc qk B1;clear B1 h0 h1 h2 h3 h4;have h0:(wr.alloc (Obj.cells #[Value.int IntKind.i64 x.f0,Value.int IntKind.i64 x.f1,Value.int IntKind.i64 x.f2,Value.int IntKind.i64 x.f3,Value.int IntKind.i64 x.f4] 82)).cell? ⟨wr.heap.size,0,none⟩=some (.int .i64 x.f0):=by go_simp
          have h1:(wr.alloc (Obj.cells #[Value.int IntKind.i64 x.f0,Value.int IntKind.i64 x.f1,Value.int IntKind.i64 x.f2,Value.int IntKind.i64 x.f3,Value.int IntKind.i64 x.f4] 82)).cell? ⟨wr.heap.size,1,none⟩=some (.int .i64 x.f1):=by go_simp
          generalize wr.alloc (Obj.cells #[Value.int IntKind.i64 x.f0,Value.int IntKind.i64 x.f1,Value.int IntKind.i64 x.f2,Value.int IntKind.i64 x.f3,Value.int IntKind.i64 x.f4] 82)=W1 at *;generalize wr.heap.size=X at *;have w0:wrap64 (x.f0+x.f1)=x.f0+x.f1:=by have:=HX.out;have a1:=this.1;have a2:=this.2.1;unfold wrap64;omega
          have w2:wrap64 (x.f0+x.f1-a)=x.f0+x.f1-a:=by have:=HX.out;have a1:=this.1;have a2:=this.2.1;have a3:=HA8.out;unfold wrap64;omega
          have na8:=HA8.out;have nx0:=HX.out.1;have nx1:=HX.out.2.1;by_cases c1:x.f0=a
          · have v0:wrap64 (a+x.f1)=a+x.f1:=by rw[←c1];exact w0
            have v1:wrap64 (a+x.f1-a)=x.f1:=by unfold wrap64;omega
            have v2:a+x.f1-a=x.f1:=by omega
            go_quiet (fail)
            go_wp2;have BD:=pw_below_drewN (Below.refl W1.heap.size W1) nq;replace HB:=ak (below_step HB.out BD);replace HM:=ak (HM.out.below BD);replace HO:=ak (Kd.R_drewN HO.out nq);replace h0:=Sine.keepc h0 BD;replace h1:=Sine.keepc h1 BD;replace qk:=Sine.keepc qk BD;clear BD;generalize W1.drewN nq=W2 at *;cases hu:use (i:Int)
            · have HUi:=fun W hb=>HU'.out i W hlt hb
              rw[hu]at HUi;replace HUi:=ak HUi
              go_quiet (first|(go_at_call 103;refine(HUi.out _ qz15).mono ?_;rintro e w' ⟨rfl,rfl⟩;exact⟨rfl,_,rfl⟩))
              go_wp2;exact⟨⟨i+1,p,by go_num,by omega,⟨HJ.out.skip hlt (Or.inr hu)⟩,⟨Kd.R_drewN HO.out _⟩,⟨HM.out.below (pw_below_drewN (Below.refl _ _) _)⟩,⟨pw_below_drewN HB.out _⟩⟩,qz41⟩
            · have HUi:=fun W hb=>HU'.out i W hlt hb
              rw[hu]at HUi;replace HUi:=ak HUi
              go_quiet (first|(go_at_call 103;refine(HUi.out _ qz15).mono ?_;rintro e w' ⟨rfl,rfl⟩;exact⟨rfl,_,rfl⟩))
              have BD:=pw_below_drewN (Below.refl W2.heap.size W2) nq;replace HB:=ak (below_step HB.out BD);replace HM:=ak (HM.out.below BD);replace HO:=ak (Kd.R_drewN HO.out nq);replace h0:=Sine.keepc h0 BD;replace h1:=Sine.keepc h1 BD;replace qk:=Sine.keepc qk BD;clear BD;generalize W2.drewN nq=W3 at *;have hlk:=(HM.out.look x.f1 (by omega) (by omega)).1;have hmem:=bef_some (r:=r) (q:=p) x.f1;have HSTEP:=ak (HJ.out.next hlt HAV.out);have hot:Bfs.other (ends ls) i a=x.f1:=by unfold Bfs.other;rw[HE.out];simp only;omega
              have hnsk:¬(((ends ls i).1≠a∧(ends ls i).2≠a)∨use i=false):=by
                rw[HE.out,hu];rintro(⟨d1,d2⟩|d1)
                · first|exact d1 c1|exact d2 c2
                · cases d1
              by_cases hin:x.f1∈verts r p
              · rw[decide_eq_true hin]at hmem
                have hlook:Bfs.look (ends ls) use r a p i=p:=by unfold Bfs.look;rw[if_neg hnsk,hot,if_pos hin]
                rw[hmem]at hlk;rw[hlook]at HSTEP;clear hmem hot hnsk hlook hin;go_wp2;exact⟨⟨i+1,p,by go_num,by omega,HSTEP,HO,HM,HB⟩,qz41⟩
              · rw[decide_eq_false hin]at hmem
                have hlook:Bfs.look (ends ls) use r a p i=((i:Int),a,x.f1)::p:=by unfold Bfs.look;rw[if_neg hnsk,hot,if_neg hin]
                rw[hmem]at hlk;rw[hlook]at HSTEP;have HP7:=ak (HJ.out.1.len (ends ls) use r hr (Good.range HG.out));obtain⟨W4,hst,hm4,hg4⟩:=HM.out.store (by have:=HP7.out;omega) x.f1 (i:Int) (by omega) (by omega) (by omega) (by omega);have HM4:=ak hm4;have HG4:=ak hg4;have HNE:=ak (show x.f1≠r from fun e=>hin (by rw[e];simp[verts]));have HBM:Aside0 (bef r (((i:Int),a,x.f1)::p)=fun y=>if y=x.f1 then some (i:Int) else bef r p y):=⟨(by funext y;exact bef_cons HNE.out y)⟩;have HQQ:Aside0 (Bfs.queue r (((i:Int),a,x.f1)::p)=Bfs.queue r p++[x.f1]):=⟨(by simp[Bfs.queue])⟩;have HMB:Aside0 (w.heap.size<W3.heap.size):=⟨HM.out.lt⟩;have HO4:Aside0 (Kd.R (Kd.int .i64) 3 W4 w.heap.size (fun b=>b≠w.heap.size) (.slice (some qad) (Bfs.queue r p).length qC2) (Bfs.queue r p)):=⟨R_blocks HO.out hg4.size (fun b hb hl=>hg4.block b hl (fun e=>by injection e with e;exact hb e))⟩;have HB4:Aside0 (Below w.heap.size w W4):=⟨HB.out.grown hg4 (by have:=HMB.out;omega) (fun b e=>by injection e with e;omega)⟩;clear hmem hot hnsk hlook hin hm4 hg4;go_wp2_with ((with_reducible refine gate_builtin (b:= .append) (xs:= #[.tmp 86,.tmp 88]) rfl ?_);at_builtin;refine Kd.R_append (Kd.int .i64) (w0:=w) w.heap.size rfl (.tmp 86) (.tmp 88) 46 3 (.int .i64 0) 8 rfl Tryz.underlying46 info3 rfl (by decide) (by omega) (.slice (some qad) (Bfs.queue r p).length qC2) (Bfs.queue r p) x.f1 [.int .i64 x.f1] (fun b=>b≠w.heap.size) (fun _=>False) rfl rfl ?aP (fun _ hk=>hk.elim) ?aF ?aO ?aB ?aS ?aL ?_;(case aP=>exact rfl);(case aF=>exact(by intro b hb;have:=HM4.out.lt;omega));(case aO=>exact HO4.out);(case aB=>exact HB4.out);(case aS=>have:=HM4.out.lt;omega);(case aL=>exact(by rw[Bfs.queue_len];have:=HP7.out;omega));intro v1 w1' ho hb hg hat;rw[←HQQ.out]at ho;have HO5:=ak ho;have HB5:=ak hb;have HM5:Aside0 (MapAt w1' w.heap.size (p.length+1+1) (bef r (((i:Int),a,x.f1)::p))):=⟨(by rw[HBM.out];exact HM4.out.kept hg (fun e=>HO4.out.1 _ e.symm rfl))⟩;clear ho hb hg hat);exact⟨⟨i+1,((i:Int),a,x.f1)::p,by go_num,by omega,HSTEP,HO5,HM5,HB5⟩,qz41⟩
          · by_cases c2:x.f1=a
            · have v0:wrap64 (x.f0+a)=x.f0+a:=by rw[←c2];exact w0
              have v1:wrap64 x.f0=x.f0:=by unfold wrap64;omega
              go_quiet (fail)
              go_wp2;have BD:=pw_below_drewN (Below.refl W1.heap.size W1) nq;replace HB:=ak (below_step HB.out BD);replace HM:=ak (HM.out.below BD);replace HO:=ak (Kd.R_drewN HO.out nq);replace h0:=Sine.keepc h0 BD;replace h1:=Sine.keepc h1 BD;replace qk:=Sine.keepc qk BD;clear BD;generalize W1.drewN nq=W2 at *;cases hu:use (i:Int)
              · have HUi:=fun W hb=>HU'.out i W hlt hb
                rw[hu]at HUi;replace HUi:=ak HUi
                go_quiet (first|(go_at_call 103;refine(HUi.out _ qz15).mono ?_;rintro e w' ⟨rfl,rfl⟩;exact⟨rfl,_,rfl⟩))
                go_wp2;exact⟨⟨i+1,p,by go_num,by omega,⟨HJ.out.skip hlt (Or.inr hu)⟩,⟨Kd.R_drewN HO.out _⟩,⟨HM.out.below (pw_below_drewN (Below.refl _ _) _)⟩,⟨pw_below_drewN HB.out _⟩⟩,qz41⟩
              · have HUi:=fun W hb=>HU'.out i W hlt hb
                rw[hu]at HUi;replace HUi:=ak HUi
                go_quiet (first|(go_at_call 103;refine(HUi.out _ qz15).mono ?_;rintro e w' ⟨rfl,rfl⟩;exact⟨rfl,_,rfl⟩))
                have BD:=pw_below_drewN (Below.refl W2.heap.size W2) nq;replace HB:=ak (below_step HB.out BD);replace HM:=ak (HM.out.below BD);replace HO:=ak (Kd.R_drewN HO.out nq);replace h0:=Sine.keepc h0 BD;replace h1:=Sine.keepc h1 BD;replace qk:=Sine.keepc qk BD;clear BD;generalize W2.drewN nq=W3 at *;have hlk:=(HM.out.look x.f0 (by omega) (by omega)).1;have hmem:=bef_some (r:=r) (q:=p) x.f0;have HSTEP:=ak (HJ.out.next hlt HAV.out);have hot:Bfs.other (ends ls) i a=x.f0:=by unfold Bfs.other;rw[HE.out];simp only;omega
                have hnsk:¬(((ends ls i).1≠a∧(ends ls i).2≠a)∨use i=false):=by
                  rw[HE.out,hu];rintro(⟨d1,d2⟩|d1)
                  · first|exact d1 c1|exact d2 c2
                  · cases d1
                by_cases hin:x.f0∈verts r p
                · rw[decide_eq_true hin]at hmem
                  have hlook:Bfs.look (ends ls) use r a p i=p:=by unfold Bfs.look;rw[if_neg hnsk,hot,if_pos hin]
                  rw[hmem]at hlk;rw[hlook]at HSTEP;clear hmem hot hnsk hlook hin;go_wp2;exact⟨⟨i+1,p,by go_num,by omega,HSTEP,HO,HM,HB⟩,qz41⟩
                · rw[decide_eq_false hin]at hmem
                  have hlook:Bfs.look (ends ls) use r a p i=((i:Int),a,x.f0)::p:=by unfold Bfs.look;rw[if_neg hnsk,hot,if_neg hin]
                  rw[hmem]at hlk;rw[hlook]at HSTEP;have HP7:=ak (HJ.out.1.len (ends ls) use r hr (Good.range HG.out));obtain⟨W4,hst,hm4,hg4⟩:=HM.out.store (by have:=HP7.out;omega) x.f0 (i:Int) (by omega) (by omega) (by omega) (by omega);have HM4:=ak hm4;have HG4:=ak hg4;have HNE:=ak (show x.f0≠r from fun e=>hin (by rw[e];simp[verts]));have HBM:Aside0 (bef r (((i:Int),a,x.f0)::p)=fun y=>if y=x.f0 then some (i:Int) else bef r p y):=⟨(by funext y;exact bef_cons HNE.out y)⟩;have HQQ:Aside0 (Bfs.queue r (((i:Int),a,x.f0)::p)=Bfs.queue r p++[x.f0]):=⟨(by simp[Bfs.queue])⟩;have HMB:Aside0 (w.heap.size<W3.heap.size):=⟨HM.out.lt⟩;have HO4:Aside0 (Kd.R (Kd.int .i64) 3 W4 w.heap.size (fun b=>b≠w.heap.size) (.slice (some qad) (Bfs.queue r p).length qC2) (Bfs.queue r p)):=⟨R_blocks HO.out hg4.size (fun b hb hl=>hg4.block b hl (fun e=>by injection e with e;exact hb e))⟩;have HB4:Aside0 (Below w.heap.size w W4):=⟨HB.out.grown hg4 (by have:=HMB.out;omega) (fun b e=>by injection e with e;omega)⟩;clear hmem hot hnsk hlook hin hm4 hg4;go_wp2_with ((with_reducible refine gate_builtin (b:= .append) (xs:= #[.tmp 86,.tmp 88]) rfl ?_);at_builtin;refine Kd.R_append (Kd.int .i64) (w0:=w) w.heap.size rfl (.tmp 86) (.tmp 88) 46 3 (.int .i64 0) 8 rfl Tryz.underlying46 info3 rfl (by decide) (by omega) (.slice (some qad) (Bfs.queue r p).length qC2) (Bfs.queue r p) x.f0 [.int .i64 x.f0] (fun b=>b≠w.heap.size) (fun _=>False) rfl rfl ?aP (fun _ hk=>hk.elim) ?aF ?aO ?aB ?aS ?aL ?_;(case aP=>exact rfl);(case aF=>exact(by intro b hb;have:=HM4.out.lt;omega));(case aO=>exact HO4.out);(case aB=>exact HB4.out);(case aS=>have:=HM4.out.lt;omega);(case aL=>exact(by rw[Bfs.queue_len];have:=HP7.out;omega));intro v1 w1' ho hb hg hat;rw[←HQQ.out]at ho;have HO5:=ak ho;have HB5:=ak hb;have HM5:Aside0 (MapAt w1' w.heap.size (p.length+1+1) (bef r (((i:Int),a,x.f0)::p))):=⟨(by rw[HBM.out];exact HM4.out.kept hg (fun e=>HO4.out.1 _ e.symm rfl))⟩;clear ho hb hg hat);exact⟨⟨i+1,((i:Int),a,x.f0)::p,by go_num,by omega,HSTEP,HO5,HM5,HB5⟩,qz41⟩
            · go_quiet (fail)
              go_wp2
              go_quiet (fail)
              go_wp2;exact⟨⟨i+1,p,by go_num,by omega,⟨HJ.out.skip hlt (Or.inl (by rw[HE.out];exact⟨c1,c2⟩))⟩,⟨Kd.R_drewN HO.out _⟩,⟨HM.out.below (pw_below_drewN (Below.refl _ _) _)⟩,⟨pw_below_drewN HB.out _⟩⟩,qz41⟩
        · obtain rfl:i=ls.length:=by omega
          have HN:=ak (HI2.out.next HJ.out HK.out HQA.out HQ7.out);have ek:wrap64 ((k:Int)+1)=(k:Int)+1:=by have:=HK.out;have:=HQL.out;have:=HQ7.out;unfold wrap64;omega
          go_wp2
          go_roundw
          case rel=>exact⟨k+1,p,by go_num,HN,HO,HM,HB⟩
          case measure=>
            (try simp only[ek]);clear ek;have h1:=HK.out;have h2:=HQL.out;have h3:=HQ7.out;simp[intOf];omega
    · have hkI:¬(k:Int)<((Bfs.queue r q).length:Int):=by omega
      have hRq:=HI2.out.stop hk;subst hRq;have hlk:=(HM2.out.look dst (by omega) (by omega)).1;have hmem:=bef_some (r:=r) (q:=R) dst;by_cases hin:dst∈verts r R
      · rw [decide_eq_true hin]at hmem
        rw[hmem]at hlk;clear hmem;go_wp2;have HOk:=ak HI2.out.1;have HD7:=ak (back_len HI2.out.1 hin);have HIN:=ak hin;clear hlk hin HO2;have HV1:Aside0 (Kd.R (Kd.int .i64) 3 ((wr.alloc (Obj.cells #[Value.int IntKind.i64 dst] 3)).alloc (Obj.cells #[] 3)) w.heap.size (fun b=>b≠w.heap.size∧some b≠(Value.slice (some ⟨wr.heap.size+1,0,none⟩) 0 0).ownBlock) (.slice (some ⟨wr.heap.size,0,none⟩) 1 1) [dst]):=⟨Kd.R_alloc (R_lits [dst] wr w.heap.size (fun b=>b≠w.heap.size∧some b≠(Value.slice (some ⟨wr.heap.size+1,0,none⟩) 0 0).ownBlock) (by have:=HM2.out.lt;omega) ⟨(by have:=HM2.out.lt;omega),(by simp[Value.ownBlock])⟩ (by simp)) _⟩
        have HV2:Aside0 (Kd.R (Kd.int .i64) 3 ((wr.alloc (Obj.cells #[Value.int IntKind.i64 dst] 3)).alloc (Obj.cells #[] 3)) w.heap.size (fun b=>b≠w.heap.size∧some b≠(Value.slice (some ⟨wr.heap.size,0,none⟩) 1 1).ownBlock) (.slice (some ⟨wr.heap.size+1,0,none⟩) 0 0) []):=⟨by
          have h:=R_lits [] (wr.alloc (Obj.cells #[Value.int IntKind.i64 dst] 3)) w.heap.size (fun b=>b≠w.heap.size∧some b≠(Value.slice (some ⟨wr.heap.size,0,none⟩) 1 1).ownBlock) (by have:=HM2.out.lt;simp;omega) ⟨(by have:=HM2.out.lt;simp;omega),(by simp[Value.ownBlock])⟩ (by simp)
          simpa using h⟩
        have HM3:=ak ((HM2.out.below (below_alloc (Below.refl wr.heap.size wr) (Obj.cells #[Value.int IntKind.i64 dst] 3))).below (below_alloc (Below.refl _ _) (Obj.cells #[] 3)));have HB3:=ak (below_alloc (below_alloc HB.out (Obj.cells #[Value.int IntKind.i64 dst] 3)) (Obj.cells #[] 3));clear HM2 HB
        go_loopg [21,22,23] (Bfs.back R dst).length (fun kq v21 v22 v23 w'=>∃(cur:Int) (st lst:List Int),v23= .int .i64 cur∧Aside0 (BackInv (ends ls) r dst R cur st lst∧(Bfs.back R cur).length=kq)∧Aside0 (Kd.R (Kd.int .i64) 3 w' w.heap.size (fun b=>b≠w.heap.size∧some b≠v22.ownBlock) v21 st)∧Aside0 (Kd.R (Kd.int .i64) 3 w' w.heap.size (fun b=>b≠w.heap.size∧some b≠v21.ownBlock) v22 lst)∧Aside0 (MapAt w' w.heap.size (R.length+1) (bef r R))∧Aside0 (Below w.heap.size w w'))
        case atStart=>exact⟨dst,[dst],[],rfl,⟨BackInv.start HIN.out,rfl⟩,HV1,HV2,HM3,HB3⟩
        case round=>
          obtain⟨cur,st,lst,rfl,HBI,HO1,HO2,HM,HB⟩:=hrel;clear HV1 HV2 HM3 HB3;obtain⟨sA,sC,es_⟩:=Kd.R_slice HO1.out;obtain⟨lA,lC,el_⟩:=Kd.R_slice HO2.out;subst es_;subst el_;have HLN:=ak (HBI.out.1.len HOk.out HIN.out);have HR7:=ak (HOk.out.len (ends ls) use r hr (Good.range HG.out));have HC8:=ak (okRange HOk.out hr (Good.range HG.out) cur HBI.out.1.1);by_cases hcr:cur=r
          · subst hcr
            have HFIN:Aside0 (lst=Bfs.back R dst∧st=trail (ends ls) dst (Bfs.back R dst)):=⟨by
              obtain⟨⟨_,f2,f3⟩,_⟩:=HBI.out;rw[back_root HOk.out]at f2 f3
              exact⟨(by simpa using f2),(by simpa[trail]using f3)⟩⟩
            obtain⟨K1,hK1⟩:=rev_ev st qz84;obtain⟨K2,hK2⟩:=rev_ev lst qz84;have HK1:=ak (hK1 K1 (Nat.le_refl _));have HK2:=ak (hK2 K2 (Nat.le_refl _));have HA1:Aside0 (Kd.R (Kd.int .i64) 3 wr w.heap.size (fun b=>some b=(Value.slice sA st.length sC).ownBlock∧some b≠(Value.slice lA lst.length lC).ownBlock) (.slice sA st.length sC) st):=⟨R_own_ok HO1.out (fun b hb _=>⟨hb.symm,(HO1.out.1 b hb).2⟩)⟩;clear hK1 hK2
            go_wp2_with (first
              |(go_at_call 128;(with_reducible refine(slices_Reverse_int_int.calls K1 _ _ _ _ w _ HB.out HA1.out HK1.out).mono ?_);rintro e w' ⟨rfl,hq1,hq2,hq3⟩;have HP1:=ak hq1;have HP2:Aside0 (Kd.R (Kd.int .i64) 3 w' w.heap.size (fun b=>b≠w.heap.size∧some b≠(Value.slice sA st.length sC).ownBlock) (.slice lA lst.length lC) lst):=⟨R_blocks HO2.out hq3.1 (fun b hb hl=>hq3.2 b hl (fun hs=>hb.2 hs.1))⟩;have HB6:=ak hq2;have HA2:Aside0 (Kd.R (Kd.int .i64) 3 w' w.heap.size (fun b=>some b=(Value.slice lA lst.length lC).ownBlock∧some b≠(Value.slice sA st.length sC).ownBlock) (.slice lA lst.length lC) lst):=⟨R_own_ok HP2.out (fun b hb _=>⟨hb.symm,(HP2.out.1 b hb).2⟩)⟩;clear hq1 hq2 hq3)
              |(go_at_call 128;(with_reducible refine(slices_Reverse_int_int.calls K2 _ _ _ _ w _ HB6.out HA2.out HK2.out).mono ?_);rintro e w' ⟨rfl,hq1,hq2,hq3⟩;have HP3:=ak hq1;have HB7:=ak hq2;have HK3:=ak hq3;clear hq1 hq2 hq3))
            have HF1:Aside0 (Kd.R (Kd.int .i64) 3 w' w.heap.size (fun b=>some b≠(Value.slice lA lst.length lC).ownBlock) (.slice sA st.length sC) st.reverse):=⟨R_blocks (R_own_ok HP1.out (ok':=fun b=>some b≠(Value.slice lA lst.length lC).ownBlock) (fun b hb _=>(HO1.out.1 b hb).2)) HK3.out.1 (fun b hb hl=>HK3.out.2 b hl (fun hs=>hb hs.1))⟩;have HF2:Aside0 (Kd.R (Kd.int .i64) 3 w' w.heap.size (fun b=>some b≠(Value.slice sA st.length sC).ownBlock) (.slice lA lst.length lC) lst.reverse):=⟨R_own_ok HP3.out (fun b hb _=>(HP2.out.1 b hb).2)⟩;exact bodyPost_ret (v:= .tuple #[.slice sA st.length sC,.slice lA lst.length lC,.bool true]) (by simp[results,Tryz.results102,go_sem]) rfl (by unfold PathPost;rw[if_pos HIN.out];exact⟨_,_,rfl,(by rw[←HFIN.out.2];exact HF1.out),(by rw[←HFIN.out.1];exact HF2.out),HB7.out⟩)
          · obtain⟨i,u,hb1,hb2,hb3,hb4,hb5,hb6⟩:=back_step HOk.out HBI.out.1.1 hcr
            have hlk:=(HM.out.look cur HC8.out.1 (by have:=HC8.out.2;omega)).2;rw[hb1]at hlk;have hlk2:(some i).getD 0=i:=rfl;obtain⟨ii,rfl⟩:=Int.eq_ofNat_of_zero_le hb5;obtain⟨_,e2,h0,h1,h2,h3,h4⟩:=at_T82 HR.out (ii:Int) (by omega) (by omega);cases e2;rw[Int.toNat_natCast,show rd_T82 ls (ii:Int)=leg ls ii from rfl]at h0 h1;have H0:=ak h0;have H1:=ak h1;have hgx:=leg_good HG.out ii (by omega);have hu8:=okRange HOk.out hr (Good.range HG.out) u hb3;have hE:(leg ls ii).f0+(leg ls ii).f1-cur=u:=hb4;have HNX:Aside0 (BackInv (ends ls) r dst R u (st++[u]) (lst++[(ii:Int)])):=⟨HBI.out.1.next hb2 hb3 hb4⟩;have HKQ:Aside0 ((Bfs.back R u).length+1=gk):=⟨(by have:=HBI.out.2;rw[hb2]at this;simpa using this)⟩;have v0:wrap64 ((leg ls ii).f0+(leg ls ii).f1)=(leg ls ii).f0+(leg ls ii).f1:=by have a1:=hgx.1;have a2:=hgx.2.1;unfold wrap64;omega
            have v1:wrap64 ((leg ls ii).f0+(leg ls ii).f1-cur)=u:=by rw[hE];unfold wrap64;omega
            have HMI:=ak (show 0≤(ii:Int)∧(ii:Int)<ls.length from⟨hb5,hb6⟩);generalize leg ls (ii:Int)=x at *;clear hb1 hb2 hb3 hb4 hgx hu8 hE h0 h1 h2 h3 h4;obtain⟨g1,eg1⟩:∃g1,gk=g1+1:=⟨(Bfs.back R u).length,HKQ.out.symm⟩
            subst eg1
            go_wp2_with ((with_reducible refine gate_builtin (b:= .append) (xs:= #[.tmp 109,.tmp 111]) rfl ?_);at_builtin;refine Kd.R_append (Kd.int .i64) (w0:=w) w.heap.size rfl (.tmp 109) (.tmp 111) 46 3 (.int .i64 0) 8 rfl Tryz.underlying46 info3 rfl (by decide) (by omega) (.slice lA lst.length lC) lst (ii:Int) [.int .i64 (ii:Int)] (fun b=>b≠w.heap.size∧some b≠(Value.slice sA st.length sC).ownBlock) (fun _=>False) rfl rfl ?aP (fun _ hk=>hk.elim) ?aF ?aO ?aB ?aS ?aL ?_;(case aP=>exact rfl);(case aF=>exact(by intro b hb;exact⟨(by have:=HM.out.lt;omega),Kd.fresh' (Kd.R_lt HO1.out) b hb⟩));(case aO=>exact HO2.out);(case aB=>exact HB.out);(case aS=>have:=HM.out.lt;omega);(case aL=>exact qz84)
                         intro v1_ w1_ ho hb hg hat;have HP1:=ak (Kd.R_after (ok:=fun b=>b≠w.heap.size) HO1.out hg hat);have HP2:=ak ho;have HB6:=ak hb;have HM6:=ak (HM.out.kept hg (fun e=>(HO2.out.1 _ e.symm).1 rfl))
                         clear ho hb hg hat)
            have h0:=Sine.keepc H0.out HB6.out;have h1:=Sine.keepc H1.out HB6.out;have hm0:=HMI.out.1;have hm1:=HMI.out.2
            go_quiet (fail)
            go_wp2_with ((with_reducible refine gate_builtin (b:= .append) (xs:= #[.tmp 126,.tmp 128]) rfl ?_);at_builtin;refine Kd.R_append (Kd.int .i64) (w0:=w) w.heap.size rfl (.tmp 126) (.tmp 128) 46 3 (.int .i64 0) 8 rfl Tryz.underlying46 info3 rfl (by decide) (by omega) (.slice sA st.length sC) st u [.int .i64 u] (fun b=>b≠w.heap.size∧some b≠v1_.ownBlock) (fun _=>False) rfl rfl ?aP (fun _ hk=>hk.elim) ?aF ?aO ?aB ?aS ?aL ?_;(case aP=>exact rfl);(case aF=>exact(by intro b hb;simp only[World.heap_drewN]at hb;exact⟨(by have:=HM6.out.lt;omega),Kd.fresh' (Kd.R_lt HP2.out) b hb⟩));(case aO=>exact Kd.R_drewN HP1.out _);(case aB=>exact pw_below_drewN HB6.out _);(case aS=>exact(by simp only[World.heap_drewN];have:=HM6.out.lt;omega));(case aL=>exact qz84)
                         intro v2_ w2_ ho hb hg hat;have HQ2:=ak (Kd.R_after (ok:=fun b=>b≠w.heap.size) (Kd.R_drewN HP2.out _) hg hat);have HQ1:=ak ho;have HB8:=ak hb;have HM8:=ak ((HM6.out.below (pw_below_drewN (Below.refl _ _) _)).kept hg (fun e=>(HP1.out.1 _ e.symm).1 rfl))
                         clear ho hb hg hat)
            go_roundg g1;(case measure=>omega);(case rel=>exact⟨u,st++[u],lst++[(ii:Int)],(by first|rfl|simp),⟨HNX.out,(by have:=HKQ.out;omega)⟩,HQ1,HQ2,HM8,HB8⟩)
      · rw[decide_eq_false hin]at hmem
        rw[hmem]at hlk;clear hmem;go_wp2;exact bodyPost_ret (v:= .tuple #[.slice none 0 0,.slice none 0 0,.bool false]) (by simp[results,Tryz.results102,go_sem]) rfl (by unfold PathPost;rw[if_neg hin];exact⟨rfl,HB.out⟩)
end Net
namespace Net
open YtmgkbhhnchnkcaaGreatDoorW.PrintLast YtmgkbhhnchnkcaaGreatDoorW.PrintMore A Plain
open Tree (verts legs W)
open Grow (Q sweep grow)
open Conn (Conn)
def useB(i:Int)(j:Int):Bool:=decide (j≠i)
def bridgeB(ls:L)(i:Int):Bool:=!decide ((ends ls i).2∈verts (ends ls i).1 (Bfs.run (ends ls) (useB i) (ends ls i).1 ls.length 9 0 []))
end Net
namespace Net
open Go YtmgkbhhnchnkcaaGreatDoorW.PrintLast YtmgkbhhnchnkcaaGreatDoorW.PrintMore A Plain
open Tree (verts legs W)
open Grow (Q)
theorem bridgeUse(k:Int)(i:Nat)(p:Addr)(w:World)(hp:w.cell? p=some (.int .i64 k)):
    Calls Tryz.prog 103 #[.int .i64 (i:Int),.pointer (some p)] w fun e w'=>e= .returned (.bool (useB k i))∧w'=w:=by
  have e:useB k i=((i:Int) !=k):=by
    unfold useB;by_cases h:(i:Int)=k
    · rw[decide_eq_false (by omega),h];simp
    · rw[decide_eq_true h];simp[h]
  rw[e];go_enter Tryz.func103,Tryz.ntmps103;go_wp2;go_ret;exact⟨rfl,rfl⟩
theorem isBridgeW(A:Option Addr)(c:Nat)(ls:L)(k:Nat)(w:World)(hr0:Kd.C k82 w A ls.length ls)(hc:ls.length≤c)(hn:ls.length≤12)(hg:∀x∈ls,Good x)(hk:k<ls.length):
    Calls Tryz.prog 54 #[.slice A ls.length c,.int .i64 (k:Int)] w fun e w'=>e= .returned (.bool (bridgeB ls k))∧Below w.heap.size w w':=by
  have hgk:=leg_good hg k hk;obtain⟨w_1,e2,h0,h1,_⟩:=at_T82 hr0 (k:Int) (by omega) (by omega);cases e2;rw[Int.toNat_natCast,show rd_T82 ls (k:Int)=leg ls k from rfl]at h0 h1;obtain⟨R,hR⟩:∃R,R=Bfs.run (ends ls) (useB k) (leg ls k).f0 ls.length 9 0 []:=⟨_,rfl⟩
  have hbr:bridgeB ls k=!decide ((leg ls k).f1∈verts (leg ls k).f0 R):=by rw[hR];rfl
  rw[hbr];have HRR:=ak hR.symm;have HR:=ak hr0;have HG:=ak hg;have hl0:=hgk.1;have hl1:=hgk.2.1;have k1:(k:Int)<(ls.length:Int):=by omega
  have k0:(0:Int)≤(k:Int):=by omega
  clear hr0 hg hgk hR hbr;generalize leg ls (k:Int)=x at *;go_enter Tryz.func54,Tryz.ntmps54;go_wp2;have HB:=ak (below_alloc (Below.refl w.heap.size w) (Obj.cells #[Value.int IntKind.i64 (k:Int)] 3));replace h0:=Sine.keepc h0 HB.out;replace h1:=Sine.keepc h1 HB.out;have hp0:(w.alloc (Obj.cells #[Value.int IntKind.i64 (k:Int)] 3)).cell? ⟨w.heap.size,0,none⟩=some (.int .i64 (k:Int)):=by go_simp
  have HP0:=ak hp0;generalize w.alloc (Obj.cells #[Value.int IntKind.i64 (k:Int)] 3)=W1 at *;by_cases hf:x.f1∈verts x.f0 R
  · have hd:=decide_eq_true hf
    go_region_held3 (fun w'=>w'.cell? (w_1.add (k*5))=some (.int .i64 x.f0)∧w'.cell? {block:=(w_1.add (k*5)).block,off:=(w_1.add (k*5)).off+1}=some (.int .i64 x.f1)∧w'.cell? ⟨w.heap.size,0,none⟩=some (.int .i64 (k:Int)))
      (exact⟨Sine.keepc (w:=W1) h0 qz13,Sine.keepc (w:=W1) h1 qz13,Sine.keepc (w:=W1) HP0.out qz13⟩)
      (first|(go_at_call 102;(with_reducible refine(pathBridge _ c ls ⟨w.heap.size,0,none⟩ (useB k) x.f0 x.f1 _ ?s1 hc hn HG.out hl0 hl1 ?s2 R HRR.out).mono ?_);(case s1=>exact Kd.C_below HR.out qz15);(case s2=>exact(by intro j W hj hb;exact bridgeUse (k:Int) j ⟨w.heap.size,0,none⟩ W (Sine.keepc (w:=W1) HP0.out (below_step qz13 hb))));rintro e w' hpost;unfold PathPost at hpost;rw[if_pos hf]at hpost;obtain⟨v1,v2,rfl,_,_,hw1⟩:=hpost))
    replace HB:=ak (below_step (show Below w.heap.size w W1.drew from by(repeat(first|exact HB.out|exact Below.refl _ _|apply below_alloc|apply pw_below_drewN|apply below_drew1));done) hw1);go_wp2;go_ret;exact⟨(by rw[hd];rfl),HB.out⟩
  · have hd:=decide_eq_false hf
    go_region_held3 (fun w'=>w'.cell? (w_1.add (k*5))=some (.int .i64 x.f0)∧w'.cell? {block:=(w_1.add (k*5)).block,off:=(w_1.add (k*5)).off+1}=some (.int .i64 x.f1)∧w'.cell? ⟨w.heap.size,0,none⟩=some (.int .i64 (k:Int)))
      (exact⟨Sine.keepc (w:=W1) h0 qz13,Sine.keepc (w:=W1) h1 qz13,Sine.keepc (w:=W1) HP0.out qz13⟩)
      (first|(go_at_call 102;(with_reducible refine(pathBridge _ c ls ⟨w.heap.size,0,none⟩ (useB k) x.f0 x.f1 _ ?s1 hc hn HG.out hl0 hl1 ?s2 R HRR.out).mono ?_);(case s1=>exact Kd.C_below HR.out qz15);(case s2=>exact(by intro j W hj hb;exact bridgeUse (k:Int) j ⟨w.heap.size,0,none⟩ W (Sine.keepc (w:=W1) HP0.out (below_step qz13 hb))));rintro e w' hpost;unfold PathPost at hpost;rw[if_neg hf]at hpost;obtain⟨rfl,hw1⟩:=hpost))
    replace HB:=ak (below_step (show Below w.heap.size w W1.drew from by(repeat(first|exact HB.out|exact Below.refl _ _|apply below_alloc|apply pw_below_drewN|apply below_drew1));done) hw1);go_wp2;go_ret;exact⟨(by rw[hd];rfl),HB.out⟩
end Net
namespace Net
open YtmgkbhhnchnkcaaGreatDoorW.PrintLast YtmgkbhhnchnkcaaGreatDoorW.PrintMore A Plain
def lo2(a b:Int):Int:=if b<a then b else a
def hi2(a b:Int):Int:=if a<b then b else a
abbrev S2:=S72×S72
def extS(e:S2)(p:S72):S2:=(⟨lo2 e.1.f0 p.f0,lo2 e.1.f1 p.f1,lo2 e.1.f2 p.f2⟩,⟨hi2 e.2.f0 p.f0,hi2 e.2.f1 p.f1,hi2 e.2.f2 p.f2⟩)
def z2:S2:=(⟨0,0,0⟩,⟨0,0,0⟩)
def extTo(P:Nat→Bool)(X:Nat→S72):Nat→S2
  |0=>z2
  |k+1=>if P k=true then extS (extTo P X k) (X k) else extTo P X k
def extL(X:Nat→S72)(l:List Int)(e:S2):S2:=l.foldl (fun e i=>extS e (X i.toNat)) e
theorem extL_sel(P:Nat→Bool)(X:Nat→S72):∀k,extL X (selTo P k) z2=extTo P X k
  |0=>rfl
  | k +1=>by
    have ih:=extL_sel P X k;unfold selTo extTo;split
    · rename_i c
      unfold extL at ih ⊢;rw[List.foldl_append,ih];rfl
    · exact ih
def extM(ls:L):S2:=extL (Xq ls (RR ls)) (plL (RR ls)) z2
theorem extM_to{ls:L}(hg:∀x∈ls,Good x):extTo (Pq (RR ls)) (Xq ls (RR ls)) 8=extM ls:=by
  rw[←extL_sel,plL_sel hg];rfl
theorem lo2_le(a b:Int):lo2 a b≤a∧lo2 a b≤b:=by unfold lo2;split<;>omega
theorem hi2_ge(a b:Int):a≤hi2 a b∧b≤hi2 a b:=by unfold hi2;split<;>omega
theorem least_eq(a b:Int):spec_l1Least.f a b=some (lo2 a b):=by
  unfold spec_l1Least.f lo2;split<;>split<;>first|rfl|(congr 1;omega)
theorem most_eq(a b:Int):spec_l1Most.f a b=some (hi2 a b):=by
  unfold spec_l1Most.f hi2;split<;>split<;>first|rfl|(congr 1;omega)
theorem ext_mono(X:Nat→S72):∀(l:List Int) (e:S2),
    ((extL X l e).1.f0≤e.1.f0∧(extL X l e).1.f1≤e.1.f1∧(extL X l e).1.f2≤e.1.f2)∧(e.2.f0≤(extL X l e).2.f0∧e.2.f1≤(extL X l e).2.f1∧e.2.f2≤(extL X l e).2.f2)
  |[],e=>⟨⟨Int.le_refl _,Int.le_refl _,Int.le_refl _⟩,⟨Int.le_refl _,Int.le_refl _,Int.le_refl _⟩⟩
  | i::l,e=>by
    have ih:=ext_mono X l (extS e (X i.toNat));have a0:(extS e (X i.toNat)).1.f0≤e.1.f0:=(lo2_le e.1.f0 (X i.toNat).f0).1;have a1:(extS e (X i.toNat)).1.f1≤e.1.f1:=(lo2_le e.1.f1 (X i.toNat).f1).1;have a2:(extS e (X i.toNat)).1.f2≤e.1.f2:=(lo2_le e.1.f2 (X i.toNat).f2).1;have b0:e.2.f0≤(extS e (X i.toNat)).2.f0:=(hi2_ge e.2.f0 (X i.toNat).f0).1;have b1:e.2.f1≤(extS e (X i.toNat)).2.f1:=(hi2_ge e.2.f1 (X i.toNat).f1).1;have b2:e.2.f2≤(extS e (X i.toNat)).2.f2:=(hi2_ge e.2.f2 (X i.toNat).f2).1;exact⟨⟨Int.le_trans ih.1.1 a0,Int.le_trans ih.1.2.1 a1,Int.le_trans ih.1.2.2 a2⟩,⟨Int.le_trans b0 ih.2.1,Int.le_trans b1 ih.2.2.1,Int.le_trans b2 ih.2.2.2⟩⟩
theorem ext_in(X:Nat→S72):∀(l:List Int) (e:S2),∀i∈l,
    ((extL X l e).1.f0≤(X i.toNat).f0∧(X i.toNat).f0≤(extL X l e).2.f0)∧((extL X l e).1.f1≤(X i.toNat).f1∧(X i.toNat).f1≤(extL X l e).2.f1)∧((extL X l e).1.f2≤(X i.toNat).f2∧(X i.toNat).f2≤(extL X l e).2.f2)
  |[],e,i,h=>by cases h
  | j ::l,e,i,h=>by
    rcases List.mem_cons.mp h with rfl|h
    · have m:=ext_mono X l (extS e (X i.toNat))
      have a0:(extS e (X i.toNat)).1.f0≤(X i.toNat).f0:=(lo2_le e.1.f0 (X i.toNat).f0).2;have a1:(extS e (X i.toNat)).1.f1≤(X i.toNat).f1:=(lo2_le e.1.f1 (X i.toNat).f1).2;have a2:(extS e (X i.toNat)).1.f2≤(X i.toNat).f2:=(lo2_le e.1.f2 (X i.toNat).f2).2;have b0:(X i.toNat).f0≤(extS e (X i.toNat)).2.f0:=(hi2_ge e.2.f0 (X i.toNat).f0).2;have b1:(X i.toNat).f1≤(extS e (X i.toNat)).2.f1:=(hi2_ge e.2.f1 (X i.toNat).f1).2;have b2:(X i.toNat).f2≤(extS e (X i.toNat)).2.f2:=(hi2_ge e.2.f2 (X i.toNat).f2).2;exact⟨⟨Int.le_trans m.1.1 a0,Int.le_trans b0 m.2.1⟩,⟨Int.le_trans m.1.2.1 a1,Int.le_trans b1 m.2.2.1⟩,⟨Int.le_trans m.1.2.2 a2,Int.le_trans b2 m.2.2.2⟩⟩
    · exact ext_in X l (extS e (X j.toNat)) i h
def depthM(ls:L):Int×Bool:=if legsB ls=true then(wrap64 ((extM ls).2.f2-(extM ls).1.f2),true) else(0,false)
end Net
end Go.Proofs.YtmgkbhhnchnkcaaGreatDoor
