/- The program's SquareSum, in the form of the printed functions, over the laid table of sines. -/
import Derived.Test.YtmgkbhhnchnkcaaGreatDoorKFnResidualsU9
set_option maxHeartbeats 4000000
set_option maxRecDepth 100000
set_option linter.unusedSimpArgs false
set_option linter.unusedVariables false
namespace Go.Proofs.YtmgkbhhnchnkcaaGreatDoor
open Go.RowKit YtmgkbhhnchnkcaaGreatDoorW.PrintWords
namespace A
open Go YtmgkbhhnchnkcaaGreatDoorW.PrintLast YtmgkbhhnchnkcaaGreatDoorW.PrintMore Net
def exactM(ls:L):List Int×Bool:=if legsB ls=true then(exA ls 3,true) else([],false)
def impl_ExactLegs.f(l0:List (S82)):Option (List Int×Bool):=if l0.length≤140737488351232 then some (exactM l0) else none
theorem cloneAny (uA:Option Addr) (uc:Nat) (l:List Int) (w:World) (hr:Kd.C (Kd.int .i64) w uA l.length l) (hn:l.length≤1000):
    Calls Tryz.prog 92 #[.slice uA l.length uc] w fun e w'=>∃G g cap,e= .returned (.slice G l.length cap)∧(0<l.length→G=some ⟨g,0,none⟩∧w.heap.size≤g∧g<w'.heap.size)∧Kd.R (Kd.int .i64) 3 w' w.heap.size (fun _=>True) (.slice G l.length cap) l∧Below w.heap.size w w':=by
  cases uA with
  | none=>
    have e0:l=[]:=by
      by_cases hp:0<l.length
      · obtain⟨ad,e1,_⟩:=Kd.at_int hr 0 (by omega) (by omega)
        cases e1
      · exact List.length_eq_zero_iff.mp (by omega)
    subst e0;refine(cloneI0 _ uc w).mono ?_;rintro e w' ⟨rfl,hb⟩;exact⟨none,0,0,rfl,fun h=>absurd h (by simp),Kd.R_nil _ _ _ _ _,hb⟩
  | some la=>
    refine(cloneIW la uc l w hr hn).mono ?_;rintro e w' ⟨v,rfl,hv,hb⟩;by_cases hp:0<l.length
    · obtain⟨g,cap,rfl,h1,h2,_⟩:=Kd.R_form hv hp
      exact⟨_,g,cap,rfl,fun _=>⟨rfl,h1,h2⟩,hv,hb⟩
    · obtain⟨G,cap,rfl⟩:=Kd.R_slice hv
      exact⟨G,0,cap,rfl,fun h=>absurd h hp,hv,hb⟩
theorem resForm{w w5:World}{v:Value}{l:List Int}(h:Kd.R (Kd.int .i64) 3 w5 w.heap.size (fun _=>True) v l):∃A hh cp,v= .slice A l.length cp∧(0<l.length→A=some ⟨hh,0,none⟩∧w.heap.size≤hh∧hh<w5.heap.size∧∀t:Nat,t<l.length→w5.cell? ⟨hh,t,none⟩=some (.int .i64 (rd l (t:Int)))):=by
  by_cases hp:0<l.length
  · obtain⟨g,cap,rfl,h1,h2,_⟩:=Kd.R_form h hp
    exact⟨_,g,cap,rfl,fun _=>⟨rfl,h1,h2,fun t ht=>by
      have h3:=(Kd.R_celln 0 h (t:Int) (by omega) (by omega)).1;rw[Int.toNat_natCast]at h3
      exact h3⟩⟩
  · obtain⟨A,cp,rfl⟩:=Kd.R_slice h
    exact⟨A,0,cp,rfl,fun h=>absurd h hp⟩
theorem exA_step(ls:L)(a:Nat)(j:Nat):exJ ls a (j+1)=if nT ls (a:Int) (rd (usedL ls) (j:Int))=0 then exJ ls a j else(exJ ls a j).filter (· !=rd (usedL ls) (j:Int)):=rfl
theorem impl_ExactLegs.calls (A0:Option Addr) (c:Nat) (ls:List (S82)) (r1:List Int) (r2:Bool) (w:World) (hr0:Kd.C k82 w A0 ls.length ls) (hc:ls.length≤c) (h:impl_ExactLegs.f ls=some (r1,r2)) (hL:Sine.Laid w):
    Calls Tryz.prog 39 #[.slice A0 ls.length c] w fun e w'=>∃v0_:Value,e= .returned (.tuple #[v0_,.bool r2])∧Kd.R (Kd.int .i64) 3 w' w.heap.size (fun _=>True) v0_ r1∧Below w.heap.size w w':=by
  unfold impl_ExactLegs.f at h;by_cases hb:ls.length≤140737488351232;(case neg=>rw[if_neg hb]at h;cases h);rw[if_pos hb]at h;obtain⟨K,hK⟩:=areLegs_ev ls hb;have HA:=ak (hK K (Nat.le_refl _));have HR:=ak hr0;have HL:=ak hL;have HB:=ak (Below.refl w.heap.size w);clear hK hr0 hL hb;unfold exactM at h;cases hv:legsB ls
  · rw[if_neg (by rw[hv];simp)]at h
    simp only[Option.some.injEq,Prod.mk.injEq]at h;obtain⟨rfl,rfl⟩:=h;rw[hv]at HA;clear hv;go_enter Tryz.func39,Tryz.ntmps39;go_wp2_with (go_at_call 61;(with_reducible refine(impl_areLegs.calls K _ _ ls false _ ?s1 ?s2 HA.out).mono ?_);(case s1=>exact Kd.C_below HR.out qz15);(case s2=>exact hc);rintro e w' ⟨rfl,hw⟩;replace HB:=ak (below_step (show Below w.heap.size w _ from by(repeat(first|exact HB.out|exact Below.refl _ _|apply below_alloc|apply pw_below_drewN|apply below_drew1));done) hw);clear hw);exact bodyPost_ret (v:= .tuple #[.slice none 0 0,.bool false]) (by simp[results,Tryz.results39,go_sem]) rfl ⟨_,rfl,Kd.R_nil _ _ _ _ _,(by repeat(first|exact HB.out|apply below_drew1))⟩
  · rw [hv] at HA
    rw[if_pos hv]at h;simp only[Option.some.injEq,Prod.mk.injEq]at h;obtain⟨rfl,rfl⟩:=h;have hv':=legsB_iff.mp hv;have HG:=ak hv'.1;have hn:=hv'.2;clear hv hv';go_enter Tryz.func39,Tryz.ntmps39
    go_wp2_with (first
      |(go_at_call 61;(with_reducible refine(impl_areLegs.calls K _ _ ls true _ ?s1 ?s2 HA.out).mono ?_);(case s1=>exact Kd.C_below HR.out qz15);(case s2=>exact hc);rintro e w' ⟨rfl,hw⟩;replace HB:=ak (below_step (show Below w.heap.size w _ from by(repeat(first|exact HB.out|exact Below.refl _ _|apply below_alloc|apply pw_below_drewN|apply below_drew1));done) hw);clear hw)
      |(go_at_call 78;(with_reducible refine(adjustW A0 c ls _ ?s1 ?s2 hc hn HG.out).mono ?_);(case s1=>exact HL.out.keep HB.out);(case s2=>exact Kd.C_below HR.out HB.out);rintro e w2 ⟨ba,uA,pA,uc,pc,rfl,hadj,ht,hba,hw⟩;replace HB:=ak (below_step HB.out hw);have HJ:=ak hadj;have B3:=below_alloc (Below.refl w2.heap.size w2) (Obj.cells #[Value.pointer (some {block:=ba,off:=0})] 84);have d2:=Sine.keepc hadj.c2 B3;have d4:(w2.alloc (Obj.cells #[Value.pointer (some {block:=ba,off:=0})] 84)).cell? ⟨w2.heap.size,0,none⟩=some (.pointer (some ⟨ba,0,none⟩)):=(by go_simp);clear hadj hw)
      |(go_at_call 92;generalize w2.alloc (Obj.cells #[Value.pointer (some {block:=ba,off:=0})] 84)=w3 at *;(with_reducible refine(cloneAny uA uc (usedL ls) w3 ?s1 ?s2).mono ?_);(case s1=>exact Kd.C_below HJ.out.u B3);(case s2=>have:=usedL_len ls;omega);rintro e w4 ⟨G,g,cap,rfl,hg,hv4,hw4⟩;have HV:=ak hv4;have HB3:=ak (below_step HB.out B3);have HJ3:=ak (HJ.out.keep B3);have H4:=ak d4;have ht3:=Sine.keepc ht B3;have hsz:=World.block_lt_of_cell? _ _ d4;have HB4:=ak hw4;clear hv4 d2 d4 ht hw4 HB HJ B3 hba))
    generalize w2.heap.size=q4 at *;have HGG:=ak hg;have hul:=usedL_len ls;clear hg
    go_loopw [5,6] (fun v5 v6 W=>∃a:Nat,a≤3∧v6= .int .i64 a∧v5= .slice G (exA ls a).length cap∧Aside0 (Kd.R (Kd.int .i64) 3 W w3.heap.size (fun _=>True) (.slice G (exA ls a).length cap) (exA ls a))∧Aside0 (0<(usedL ls).length→g<W.heap.size)∧Aside0 (Below w3.heap.size w3 W)) (fun _ v6 _=>3-(intOf v6).toNat)
    case atStart=>exact⟨0,by omega,rfl,rfl,HV,⟨fun h=>(HGG.out h).2.2⟩,HB4⟩
    case round=>
      obtain⟨a,ha,rfl,rfl,HX,HS,HW⟩:=hrel;clear HV HB4;by_cases hlt:a<3
      · have a0:(0:Int)≤(a:Int):=by omega
        have a2:(a:Int)≤2:=by omega
        have h4:wr.cell? ⟨q4,0,none⟩=some (.pointer (some ⟨ba,0,none⟩)):=(HW.out.cell hsz).trans H4.out
        have HRL:Aside0 ((resL ls (a:Int)).length=(usedL ls).length∧∀k:Nat,k<(usedL ls).length→rd (resL ls (a:Int)) (k:Int)=nT ls (a:Int) (rd (usedL ls) (k:Int))):=⟨(by unfold resL;rw[List.length_map]),fun k hk=>by
          rw[Net.rd_get _ k (by unfold resL;rw[List.length_map];exact hk),Net.rd_get _ k hk];unfold resL
          rw[List.getElem_map]⟩
        go_wp2_with (go_at_call 83;(with_reducible refine(residualsW ba A0 uA pA c uc pc ls (a:Int) _ ?s1 ?s2 ?s3 hn HG.out a0 a2).mono ?_);(case s1=>exact HL.out.keep (below_step HB3.out HW.out));(case s2=>exact HJ3.out.keep HW.out);(case s3=>exact Sine.keepc ht3 HW.out);rintro e w5 ⟨v,rfl,hv5,hw5⟩;obtain⟨A5,hh,c5,ev,hres⟩:=resForm hv5;subst ev;rw[HRL.out.1]at hres;rw[HRL.out.1];have HRS:=ak hres;have HSS:Aside0 (0<(usedL ls).length→g<wr.heap.size):=HS;replace HS:Aside0 (0<(usedL ls).length→g<w5.heap.size):=⟨fun h=>Nat.lt_of_lt_of_le (HSS.out h) hw5.size⟩;replace HX:=ak (Kd.R_below HX.out hw5);replace HW:=ak (below_step HW.out hw5);clear hv5 hw5 hres h4);have HNE:Aside0 (0<(usedL ls).length→hh≠g∧∀t:Nat,t<(usedL ls).length→w5.cell? ⟨hh,t,none⟩=some (.int .i64 (nT ls (a:Int) (rd (usedL ls) (t:Int))))):=⟨fun h=>⟨(by have h1:=(HRS.out h).2.1;have h2:=HSS.out h;omega),fun t ht=>by rw[(HRS.out h).2.2.2 t ht,HRL.out.2 t ht]⟩⟩;have HAH:Aside0 (0<(usedL ls).length→A5=some ⟨hh,0,none⟩):=⟨fun h=>(HRS.out h).1⟩;clear HRS HRL HSS
        go_loopw [5,27] (fun v5 v27 W=>∃j:Nat,j≤(usedL ls).length∧v27= .int .i64 j∧v5= .slice G (exJ ls a j).length cap∧Aside0 (Kd.R (Kd.int .i64) 3 W w3.heap.size (fun _=>True) (.slice G (exJ ls a j).length cap) (exJ ls a j))∧Aside0 (0<(usedL ls).length→g<W.heap.size)∧Aside0 (∀t:Nat,t<(usedL ls).length→W.cell? ⟨hh,t,none⟩=some (.int .i64 (nT ls (a:Int) (rd (usedL ls) (t:Int)))))∧Aside0 (Below w3.heap.size w3 W)) (fun _ v27 _=>(usedL ls).length-(intOf v27).toNat)
        case atStart=>exact⟨0,Nat.zero_le _,rfl,rfl,HX,HS,⟨fun t ht=>(HNE.out (by omega)).2 t ht⟩,HW⟩
        case round=>
          obtain⟨j,hj,rfl,rfl,HX2,HS2,HC2,HW2⟩:=hrel;clear HX HS HW;by_cases hltj:j<(usedL ls).length
          · have hpos:0<(usedL ls).length:=by omega
            have hA5:=HAH.out hpos;have hGG:=HGG.out hpos;have hne:=(HNE.out hpos).1;have hgs:=HS2.out hpos;have hg1:=hGG.2.1;have hG:=hGG.1;subst hG;subst hA5;have j0:(0:Int)≤(j:Int):=by omega
            have j1:(j:Int)<((usedL ls).length:Int):=by omega
            have h31:=HC2.out j hltj;obtain⟨au,e2,h2⟩:=Kd.at_int HJ3.out.u (j:Int) j0 j1;rw[Int.toNat_natCast]at h2;subst e2;have HST:=ak (exA_step ls a j);have hlen:(exJ ls a j).length≤12:=by have:=exJ_len ls a j;have:=exA_len ls a;omega
            have hnb:ba<w3.heap.size:=World.block_lt_of_cell? _ _ HJ3.out.c2;have hnu:au.block<w3.heap.size:=by have h:=World.block_lt_of_cell? _ _ h2;rw[add_block]at h;exact h
            have HH2:=ak h2;clear h2 hGG;have BA:=below_alloc (Below.refl wr.heap.size wr) (Obj.cells #[Value.int .i64 (j:Int)] 3);have HXA:=ak (Kd.R_below HX2.out BA);have HWA:=ak (below_step HW2.out BA);have HCA:Aside0 (∀t:Nat,t<(usedL ls).length→(wr.alloc (Obj.cells #[Value.int .i64 (j:Int)] 3)).cell? ⟨hh,t,none⟩=some (.int .i64 (nT ls (a:Int) (rd (usedL ls) (t:Int))))):=⟨fun t ht=>Sine.keepc (HC2.out t ht) BA⟩;have hgA:g<(wr.alloc (Obj.cells #[Value.int .i64 (j:Int)] 3)).heap.size:=Nat.lt_of_lt_of_le hgs BA.size;have h7:(wr.alloc (Obj.cells #[Value.int .i64 (j:Int)] 3)).cell? ⟨wr.heap.size,0,none⟩=some (.int .i64 (j:Int)):=by go_simp
            have H7:=ak h7;clear h7 BA;generalize hu:rd (usedL ls) (j:Int)=u at *;by_cases hz:nT ls (a:Int) u=0
            · rw[hz]at h31
              have HE:=ak (HST.out.trans (if_pos hz));clear hz;go_wp2;exact⟨⟨j+1,hltj,by go_num,(by rw[HE.out]),(qx2 HXA),⟨fun _=>hgA⟩,HCA,HWA⟩,qz41⟩
            · have HE:=ak (HST.out.trans (if_neg hz))
              generalize nT ls (a:Int) u=nv at h31 hz;go_wp2_with (go_at_call 93;(with_reducible refine(deleteW ⟨q4,0,none⟩ ⟨wr.heap.size,0,none⟩ au ba (usedL ls).length uc j g w3.heap.size cap (fun _=>True) u (exJ ls a j) _ HXA.out hlen ((HWA.out.cell hsz).trans H4.out) H7.out (Sine.keepc HJ3.out.c2 HWA.out) (Sine.keepc HH2.out HWA.out) hltj ?n4 ?n7 ?nb ?nu).mono ?_);(case n4=>show q4≠g;omega);(case n7=>show wr.heap.size≠g;omega);(case nb=>omega);(case nu=>omega);rintro e w6 ⟨rfl,hr6,ho6⟩;have HR6:=ak hr6;have HO6:=ak ho6;clear hr6 ho6);exact⟨⟨j+1,hltj,by go_num,(by rw[HE.out]),(qx2 HR6),⟨fun _=>Nat.lt_of_lt_of_le hgA HO6.out.size⟩,⟨fun t ht=>HO6.out.cell (HCA.out t ht) hne⟩,⟨HWA.out.trans ((HO6.out.below (Nat.le_of_lt hgA)).mono hg1)⟩⟩,qz41⟩
          · obtain rfl:j=(usedL ls).length:=by omega
            have HE:=ak (exJ_end ls a);go_wp2;exact⟨⟨a+1,hlt,by go_num,(by rw[HE.out]),(by rw[←HE.out];exact HX2),HS2,HW2⟩,qz41⟩
      · obtain rfl:a=3:=by omega
        go_wp2;exact bodyPost_ret (v:= .tuple #[.slice G (exA ls 3).length cap,.bool true]) (by simp[results,Tryz.results39,go_sem]) rfl ⟨_,rfl,Kd.R_lower HX.out HB3.out.size,below_step HB3.out HW.out⟩
end A
namespace Net
open Plain A Frac
def redN(n d:Int):Int:=n.tdiv (Int.gcd n d)
def redD(n d:Int):Int:=d.tdiv (Int.gcd n d)
theorem red_red{n d:Int}(hd:0<d):Red (redN n d) (redD n d) n d:=Red.of_div hd
theorem tdiv_small(n:Int)(g:Nat){B:Int}(h1: -B≤n)(h2:n≤B): -B≤n.tdiv (g:Int)∧n.tdiv (g:Int)≤B:=by
  have h:(n.tdiv (g:Int)).natAbs≤n.natAbs:=by rw[Int.natAbs_tdiv];exact Nat.div_le_self _ _
  omega
theorem wtdiv(n:Int)(g:Nat)(h1: -9000000000000000000≤n)(h2:n≤9000000000000000000):wrap64 (n.tdiv (g:Int))=n.tdiv (g:Int):=by
  have:=tdiv_small n g h1 h2;unfold wrap64;omega
theorem gcd_small{n d:Int}(hd:0<d)(hd2:d≤9000000000000000000):0<Int.gcd n d∧(Int.gcd n d:Int)≤9000000000000000000:=by
  have h1:=Int.gcd_pos_of_ne_zero_right n (show d≠0 by omega);have h2:=Nat.le_of_dvd (show 0<d.natAbs by omega) (Nat.gcd_dvd_right n.natAbs d.natAbs);have h3:Int.gcd n d=Nat.gcd n.natAbs d.natAbs:=rfl;omega
theorem gcd_ev(n d:Int)(hd:0<d)(hd2:d≤9000000000000000000):Ev (fun k=>impl_gcd.f k n d) (Int.gcd n d:Int):=by
  have hs:=gcd_small (n:=n) hd hd2
  obtain⟨z,hz,_,K,hK⟩:=gcd_loop (g:=impl_gcd.l0) (fin:=fun a=>if a<wrap64 (-a)then wrap64 (-a) else a) (fun k a=>by
    unfold impl_gcd.l0;rw[if_pos rfl];unfold impl_absolute.f;rfl) (fun k a b hb=>by
    conv=>lhs;unfold impl_gcd.l0
    rw[if_neg hb]) (d.natAbs+1) n d (by omega)
  refine⟨K,fun k hk=>?_⟩;show impl_gcd.l0 k n d=_;have h:=hK k hk;simp only at h;rw[h]
  congr 1
  have hw:wrap64 (-z)= -z:=by unfold wrap64;omega
  rw[hw];split<;>omega
theorem reduced_ev(n d:Int)(hd:0<d)(hd2:d≤9000000000000000000)(h1: -9000000000000000000≤n)(h2:n≤9000000000000000000):Ev (fun k=>impl_reduced.f k n d) (redN n d,redD n d):=by
  have hs:=gcd_small (n:=n) hd hd2;obtain⟨K,hK⟩:=gcd_ev n d hd hd2;refine⟨K,fun k hk=>?_⟩;show impl_reduced.f k n d=_;unfold impl_reduced.f;have h:=hK k hk;simp only at h;rw[h];show(if((Int.gcd n d:Nat):Int)=0 then _ else _)=_;rw[if_neg (by omega),wtdiv n _ h1 h2,wtdiv d _ (by omega) (by omega)];rfl
theorem l9_loop(n d:Int):∀(m:Nat) (a b:Int),b.natAbs<m→0≤a→0≤b→0<Int.gcd a b→Ev (fun k=>spec_l9Reduce.l0 k n d a b) (wrap64 (n.tdiv (Int.gcd a b)),wrap64 (d.tdiv (Int.gcd a b)))
  |0,a,b,h,_,_,_=>by omega
  | m +1,a,b,h,ha,hb,hg=>by
    by_cases h0:b=0
    · subst h0
      rw[Int.gcd_zero_right]at hg ⊢;refine⟨1,fun k hk=>?_⟩;obtain⟨k,rfl⟩:∃m,k=m+1:=⟨k-1,by omega⟩
      show spec_l9Reduce.l0 (k+1) n d a 0=_;unfold spec_l9Reduce.l0;rw[if_pos rfl,if_neg (by omega),show((a.natAbs:Nat):Int)=a by omega]
    · obtain⟨K,hK⟩:=l9_loop n d m b (Int.tmod a b) (by have:=tmod_lt a b h0;omega) hb (Int.tmod_nonneg b ha) (by rw[gcd_step a b h0];exact hg)
      refine⟨K+1,fun k hk=>?_⟩;obtain⟨k,rfl⟩:∃m,k=m+1:=⟨k-1,by omega⟩
      show spec_l9Reduce.l0 (k+1) n d a b=_
      conv=>lhs;unfold spec_l9Reduce.l0
      rw[if_neg h0];have h:=hK k (by omega);simp only at h;rw[h,gcd_step a b h0]
theorem l9Reduce_ev(n d:Int)(hd:0<d)(hd2:d≤9000000000000000000)(h1: -9000000000000000000≤n)(h2:n≤9000000000000000000):Ev (fun k=>spec_l9Reduce.f k n d) (redN n d,redD n d):=by
  have ha:spec_l1Most.f n (wrap64 (-n))=some (n.natAbs:Int):=by
    have hw:wrap64 (-n)= -n:=by unfold wrap64;omega
    rw[hw];unfold spec_l1Most.f;split<;>(congr 1;omega)
  have hg:Int.gcd (n.natAbs:Int) d=Int.gcd n d:=by unfold Int.gcd;rw[Int.natAbs_natCast]
  have hs:=gcd_small (n:=n) hd hd2;obtain⟨K,hK⟩:=l9_loop n d (d.natAbs+1) (n.natAbs:Int) d (by omega) (by omega) (by omega) (by rw[hg];exact hs.1);refine⟨K,fun k hk=>?_⟩;show spec_l9Reduce.f k n d=_;unfold spec_l9Reduce.f;rw[ha];show spec_l9Reduce.l0 k n d (n.natAbs:Int) d=_;have h:=hK k hk;simp only at h;rw[h,hg,wtdiv n _ h1 h2,wtdiv d _ (by omega) (by omega)];rfl
end Net
namespace A
open Go YtmgkbhhnchnkcaaGreatDoorW.PrintLast YtmgkbhhnchnkcaaGreatDoorW.PrintMore
open Net (L leg Pq RR Good leg_mem Sine.Laid legsB legsB_iff areLegs_ev treesM coL nT resM usedL adjustW coordinatesW residualW AdjPost placedLeg placedLeg_no redN redD reduced_ev mem_selTo)
def resOfM(ls:L)(ax i:Int):Int×Int×Bool:=if legsB ls=true∧(0≤ax∧ax≤2)∧i∈usedL ls then(redN (nT ls ax i) (treesM ls),redD (nT ls ax i) (treesM ls),true) else(0,0,false)
theorem usedL_mem(ls:L)(k:Nat)(hk:k<ls.length):((k:Int)∈usedL ls)↔Pq (RR ls) (leg ls (k:Int)).f0.toNat=true:=by
  constructor
  · intro h
    obtain⟨q,e,_,hp⟩:=(mem_selTo _ _ _).mp h;have:q=k:=by omega
    subst this;exact hp
  · exact fun h=>(mem_selTo _ _ _).mpr ⟨k,rfl,hk,h⟩
def impl_ResidualOf.f(l0:List (S82))(a1 a2:Int):Option (Int×Int×Bool):=if l0.length≤140737488351232 then some (resOfM l0 a1 a2) else none
theorem impl_ResidualOf.calls(A0:Option Addr)(c0:Nat)(l0:List (S82))(a1:Int)(a2:Int)(r1:Int)(r2:Int)(r3:Bool)(w:World)(hr0:Kd.C k82 w A0 l0.length l0)(hc0:l0.length≤c0)(h:impl_ResidualOf.f l0 a1 a2=some (r1,r2,r3))(hL:Sine.Laid w):
    Calls Tryz.prog 36 #[.slice A0 l0.length c0,.int .i64 a1,.int .i64 a2] w fun e w'=>e= .returned (.tuple #[.int .i64 r1,.int .i64 r2,.bool r3])∧Below w.heap.size w w':=by
  unfold impl_ResidualOf.f at h;by_cases hb:l0.length≤140737488351232;(case neg=>rw[if_neg hb]at h;cases h);rw[if_pos hb]at h;have HR:=ak hr0;have HL:=ak hL;have HB:=ak (Below.refl w.heap.size w);have HAX:Aside0 (impl_isAxis.f a1=some (decide (0≤a1∧a1≤2))):=⟨qz89⟩;clear hr0 hL;unfold resOfM at h;by_cases hin:legsB l0=true∧(0≤a2∧a2<l0.length)
  case neg=>
    have hno:legsB l0=true→¬(0≤a2∧a2<l0.length):=fun e f=>hin ⟨e,f⟩
    rw[if_neg (fun e=>hin ⟨e.1,Net.usedL_range l0 _ e.2.2⟩)]at h;simp only[Option.some.injEq,Prod.mk.injEq]at h;obtain⟨rfl,rfl,rfl⟩:=h;clear hin;go_enter Tryz.func36,Tryz.ntmps36;go_wp2_with (go_at_call 53;(with_reducible refine(placedLeg_no A0 c0 l0 a2 _ ?s1 hc0 hb hno).mono ?_);(case s1=>exact Kd.C_below HR.out qz15);rintro e w' ⟨rfl,hw⟩;replace HB:=ak (below_step (show Below w.heap.size w _ from by(repeat(first|exact HB.out|exact Below.refl _ _|apply below_alloc|apply pw_below_drewN|apply below_drew1));done) hw);clear hw);exact bodyPost_ret (v:= .tuple #[.int .i64 0,.int .i64 0,.bool false]) qz86 rfl ⟨rfl,HB.out⟩
  obtain⟨hv,h0,h1⟩:=hin;obtain⟨k,rfl⟩:=Int.eq_ofNat_of_zero_le h0;have hk:k<l0.length:=by omega
  have hmem:=usedL_mem l0 k hk;by_cases hp:Pq (RR l0) (leg l0 (k:Int)).f0.toNat=true
  case neg=>
    have hpq:Pq (RR l0) (leg l0 (k:Int)).f0.toNat=false:=by simpa using hp
    rw[if_neg (fun e=>hp (hmem.mp e.2.2))]at h;simp only[Option.some.injEq,Prod.mk.injEq]at h;obtain⟨rfl,rfl,rfl⟩:=h;go_enter Tryz.func36,Tryz.ntmps36;go_wp2_with (go_at_call 53;(with_reducible refine(placedLeg _ c0 l0 (k:Int) _ ?s0 ?s1 hc0 hv h0 h1).mono ?_);(case s0=>exact HL.out.keep qz15);(case s1=>exact Kd.C_below HR.out qz15);rintro e w' ⟨g,T,cA,cC,rfl,_,_,hw⟩;rw[hpq];replace HB:=ak (below_step (show Below w.heap.size w _ from by(repeat(first|exact HB.out|exact Below.refl _ _|apply below_alloc|apply pw_below_drewN|apply below_drew1));done) hw);clear hw);exact bodyPost_ret (v:= .tuple #[.int .i64 0,.int .i64 0,.bool false]) qz86 rfl ⟨rfl,HB.out⟩
  have hpq:=hp;by_cases hx:0≤a1∧a1≤2
  case neg=>
    rw[if_neg (fun e=>hx e.2.1)]at h;simp only[Option.some.injEq,Prod.mk.injEq]at h;obtain⟨rfl,rfl,rfl⟩:=h;rw[decide_eq_false hx]at HAX;go_enter Tryz.func36,Tryz.ntmps36
    go_wp2_with (first
      |(go_at_call 53;(with_reducible refine(placedLeg _ c0 l0 (k:Int) _ ?s0 ?s1 hc0 hv h0 h1).mono ?_);(case s0=>exact HL.out.keep qz15);(case s1=>exact Kd.C_below HR.out qz15);rintro e w' ⟨g,T,cA,cC,rfl,_,_,hw⟩;rw[hpq];replace HB:=ak (below_step (show Below w.heap.size w _ from by(repeat(first|exact HB.out|exact Below.refl _ _|apply below_alloc|apply pw_below_drewN|apply below_drew1));done) hw);clear hw)
      |(go_at_call 77;(with_reducible refine(impl_isAxis.calls _ _ _ HAX.out).mono ?_);rintro e w' ⟨rfl,⟨nd,rfl⟩⟩;replace HB:=ak (pw_below_drewN HB.out nd)))
    exact bodyPost_ret (v:= .tuple #[.int .i64 0,.int .i64 0,.bool false]) qz86 rfl ⟨rfl,HB.out⟩
  rw[if_pos ⟨hv,hx,hmem.mpr hp⟩]at h;simp only[Option.some.injEq,Prod.mk.injEq]at h;obtain⟨rfl,rfl,rfl⟩:=h;rw[decide_eq_true hx]at HAX;have hv':=legsB_iff.mp hv;have HG:=ak hv'.1;have hn:=hv'.2;have x0:=hx.1;have x2:=hx.2
  have HQ:Aside0 (∀cA cC W,Sine.Laid W→Kd.C (Kd.int .i64) W cA (coL l0 a1).length (coL l0 a1)→Calls Tryz.prog 89 #[.agg #[.int .i64 (leg l0 k).f0,.int .i64 (leg l0 k).f1,.int .i64 (leg l0 k).f2,.int .i64 (leg l0 k).f3,.int .i64 (leg l0 k).f4],.int .i64 a1,.slice cA (coL l0 a1).length cC,.int .i64 (treesM l0)] W fun e w'=>e= .returned (.int .i64 (nT l0 a1 k))∧Below W.heap.size W w'):=⟨fun cA cC W hl hc=>by
    have hq:=residualW cA cC (coL l0 a1) (leg l0 k) a1 (treesM l0) W hl hc (Net.coL_len l0 a1) (HG.out _ (leg_mem hk)) x0 x2
    rw[Net.res_all hn HG.out a1 (hmem.mpr hp)]at hq;exact hq⟩
  have HRD:Aside0 (∀W,Calls Tryz.prog 79 #[.int .i64 (nT l0 a1 k),.int .i64 (treesM l0)] W fun e w'=>e= .returned (.tuple #[.int .i64 (redN (nT l0 a1 k) (treesM l0)),.int .i64 (redD (nT l0 a1 k) (treesM l0))])∧Below W.heap.size W w'):=⟨fun W=>by
    have ht1:=Net.trees_pos hn HG.out;have ht2:=Net.trees_le hn HG.out;have hs:=Net.nT_bound hn HG.out a1 (hmem.mpr hp);rw[Det.ab_le]at hs;obtain⟨K,hK⟩:=reduced_ev (nT l0 a1 k) (treesM l0) (by omega) (by omega) (by omega) (by omega)
    exact impl_reduced.calls K _ _ _ _ W (hK K (Nat.le_refl _))⟩
  obtain⟨al,e2,g0,g1,g2,g3,g4⟩:=at_T82 HR.out (k:Int) h0 h1;subst e2;have ek:rd_T82 l0 (k:Int)=leg l0 k:=rfl;rw[Int.toNat_natCast]at g0 g1 g2 g3 g4;rw[ek]at g0 g1 g2 g3 g4;clear ek hv' hx hmem hp;generalize nT l0 a1 k=nv at *;go_enter Tryz.func36,Tryz.ntmps36
  go_wp2_with (first
    |(go_at_call 53;(with_reducible refine(placedLeg _ c0 l0 (k:Int) _ ?s0 ?s1 hc0 hv h0 h1).mono ?_);(case s0=>exact HL.out.keep qz15);(case s1=>exact Kd.C_below HR.out qz15);rintro e w' ⟨g,T,cA,cC,rfl,_,_,hw⟩;rw[hpq];replace HB:=ak (below_step (show Below w.heap.size w _ from by(repeat(first|exact HB.out|exact Below.refl _ _|apply below_alloc|apply pw_below_drewN|apply below_drew1));done) hw);clear hw)
    |(go_at_call 77;(with_reducible refine(impl_isAxis.calls _ _ _ HAX.out).mono ?_);rintro e w' ⟨rfl,⟨nd,rfl⟩⟩;replace HB:=ak (pw_below_drewN HB.out nd))
    |(go_at_call 78;(with_reducible refine(adjustW _ c0 l0 _ ?s1 ?s2 hc0 hn HG.out).mono ?_);(case s1=>exact HL.out.keep HB.out);(case s2=>exact Kd.C_below HR.out HB.out);rintro e w2 ⟨ba,uA,pA,uc,pc,rfl,hadj,ht,hba,hw⟩;replace HB:=ak (below_step HB.out hw);have HJ:=ak hadj;clear hadj hw))
  replace g0:=Net.Sine.keepc g0 HB.out;replace g1:=Net.Sine.keepc g1 HB.out;replace g2:=Net.Sine.keepc g2 HB.out;replace g3:=Net.Sine.keepc g3 HB.out;replace g4:=Net.Sine.keepc g4 HB.out;generalize leg l0 k=x at *
  go_region_held3 (fun w'=>w'.cell? ⟨ba,4,none⟩=some (.int .i64 (treesM l0))∧w'.cell? (al.add (k*5))=some (.int .i64 x.f0)∧w'.cell? {block:=(al.add (k*5)).block,off:=(al.add (k*5)).off+1}=some (.int .i64 x.f1)∧w'.cell? {block:=(al.add (k*5)).block,off:=(al.add (k*5)).off+2}=some (.int .i64 x.f2)∧w'.cell? {block:=(al.add (k*5)).block,off:=(al.add (k*5)).off+3}=some (.int .i64 x.f3)∧w'.cell? {block:=(al.add (k*5)).block,off:=(al.add (k*5)).off+4}=some (.int .i64 x.f4))
    ((repeat' refine And.intro ?_ ?_)<;>first|assumption|exact Net.Sine.keepc (w:=w2) qz74 (by first|assumption|((repeat(first|exact Below.refl _ _|apply pw_below_drewN|apply below_drew1|exact HB.out|refine below_step ?_ qz74));done)))
    (first
      | (go_at_call 90;(with_reducible refine(coordinatesW ba (some al) uA pA c0 uc pc l0 a1 _ ?s1 ?s2 hn HG.out x0 x2).mono ?_);(case s1=>exact HL.out.keep (below_step HB.out (show Below w2.heap.size w2 _ from by(repeat(first|exact Below.refl _ _|apply pw_below_drewN|apply below_drew1|exact HB.out|refine below_step ?_ qz74));done)));(case s2=>exact HJ.out.keep qz13);rintro e w3 ⟨v,rfl,hv3,hw3⟩
         have hB3:Below w2.heap.size w2 w3:=by(repeat(first|exact Below.refl _ _|apply pw_below_drewN|apply below_drew1|exact HB.out|refine below_step ?_ qz74));done
         have HB3:=ak (below_step HB.out hB3);have HV:=ak hv3;clear hv3 hw3;obtain⟨cA2,cC2,ec⟩:=Kd.R_slice HV.out
         subst ec)
      | (go_at_call 89;(with_reducible refine(HQ.out cA2 cC2 _ ?s1 ?s2).mono ?_);(case s1=>exact HL.out.keep HB3.out);(case s2=>exact(Kd.R_reads' HV.out).2.2);rintro e w4 ⟨rfl,hw4⟩
         have hB4:Below w2.heap.size w2 w4:=below_step hB3 hw4
         clear hw4)
      | (go_at_call 79;(with_reducible refine(HRD.out _).mono ?_);rintro e w5 ⟨rfl,hw5⟩
         have hB5:Below w2.heap.size w2 w5:=below_step hB4 hw5;have HB5:=ak (below_step HB.out hB5)
         clear hw5))
  go_wp2;exact bodyPost_ret (v:= .tuple #[.int .i64 (redN nv (treesM l0)),.int .i64 (redD nv (treesM l0)),.bool true]) qz86 rfl ⟨rfl,HB5.out⟩
end A
namespace Net
open Go YtmgkbhhnchnkcaaGreatDoorW.PrintLast YtmgkbhhnchnkcaaGreatDoorW.PrintMore A Plain
open Tree (verts legs W)
open Grow (Q)
def brL(ls:L)(l:List Int):List Int:=l.filter (fun i=>bridgeB ls i)
def bridgesL(ls:L):List Int:=brL ls (plcL ls (RR ls) ls.length)
end Net
namespace A
open YtmgkbhhnchnkcaaGreatDoorW.PrintLast YtmgkbhhnchnkcaaGreatDoorW.PrintMore Net
def impl_BridgesOf.f(l0:List (S82)):Option (List Int×Bool):=if l0.length≤140737488351232 then some (if legsB l0=true then(bridgesL l0,true) else([],false)) else none
theorem impl_BridgesOf.calls (A0:Option Addr) (c:Nat) (ls:List (S82)) (r1:List Int) (r2:Bool) (w:World) (hr0:Kd.C k82 w A0 ls.length ls) (hc:ls.length≤c) (h:impl_BridgesOf.f ls=some (r1,r2)) (hL:Sine.Laid w):
    Calls Tryz.prog 42 #[.slice A0 ls.length c] w fun e w'=>∃v0_:Value,e= .returned (.tuple #[v0_,.bool r2])∧Kd.R (Kd.int .i64) 3 w' w.heap.size (fun _=>True) v0_ r1∧Below w.heap.size w w':=by
  unfold impl_BridgesOf.f at h;by_cases hb:ls.length≤140737488351232
  · rw [if_pos hb]at h
    obtain⟨K,hK⟩:=areLegs_ev ls hb;have HA:=ak (hK K (Nat.le_refl _));have HR:=ak hr0;have HL:=ak hL;have HB:=ak (Below.refl w.heap.size w);clear hK hr0 hL;cases hv:legsB ls
    · rw[if_neg (by rw[hv];simp)]at h
      simp only[Option.some.injEq,Prod.mk.injEq]at h;obtain⟨rfl,rfl⟩:=h;rw[hv]at HA;clear hv;go_enter Tryz.func42,Tryz.ntmps42;go_wp2_with (go_at_call 61;(with_reducible refine(impl_areLegs.calls K _ _ ls false _ ?s1 ?s2 HA.out).mono ?_);(case s1=>exact Kd.C_below HR.out qz15);(case s2=>exact hc);rintro e w' ⟨rfl,hw⟩;replace HB:=ak (below_step (show Below w.heap.size w _ from by(repeat(first|exact HB.out|exact Below.refl _ _|apply below_alloc|apply pw_below_drewN|apply below_drew1));done) hw);clear hw);exact bodyPost_ret (v:= .tuple #[.slice none 0 0,.bool false]) (by simp[results,Tryz.results42,go_sem]) rfl ⟨_,rfl,Kd.R_nil _ _ _ _ _,(by repeat(first|exact HB.out|apply below_drew1))⟩
    · rw [hv] at HA
      rw[if_pos hv]at h;simp only[Option.some.injEq,Prod.mk.injEq]at h;obtain⟨rfl,rfl⟩:=h;have hv':=legsB_iff.mp hv;have HG:=ak hv'.1;have hn:=hv'.2;obtain⟨pl,hpl⟩:∃pl,pl=plcL ls (RR ls) ls.length:=⟨_,rfl⟩
      have HPL:=ak (show pl.length≤12 from by rw[hpl];exact Nat.le_trans (selTo_len _ _) hn)
      have HMem:Aside0 (∀j:Nat,(hj:j<pl.length)→∃k:Nat,pl[j]=(k:Int)∧k<ls.length):=⟨fun j hj=>by
        have hm:pl[j]∈plcL ls (RR ls) ls.length:=by rw[←hpl];exact List.getElem_mem hj
        obtain⟨k,h1,h2,_⟩:=(mem_selTo _ _ _).mp hm
        exact⟨k,h1,h2⟩⟩
      have HRS:=ak (show bridgesL ls=brL ls (pl.take pl.length)from by rw[List.take_length,hpl];rfl);have HPE:=ak hpl;clear hv hv' hpl;go_enter Tryz.func42,Tryz.ntmps42
      go_wp2_with (first
        |(go_at_call 61;(with_reducible refine(impl_areLegs.calls K _ _ ls true _ ?s1 ?s2 HA.out).mono ?_);(case s1=>exact Kd.C_below HR.out qz15);(case s2=>exact hc);rintro e w' ⟨rfl,hw⟩;replace HB:=ak (below_step (show Below w.heap.size w _ from by(repeat(first|exact HB.out|exact Below.refl _ _|apply below_alloc|apply pw_below_drewN|apply below_drew1));done) hw);clear hw)
        |((go_at_call 66;(with_reducible refine(place _ c ls _ ?s1 ?s2 hc hn HG.out (RR ls) rfl).mono ?_);(case s1=>exact HL.out.keep qz15);(case s2=>exact Kd.C_below HR.out qz15);rintro e w' ⟨g,T,cl,rfl,hst,ho,hw⟩;have HO:Aside0 (Kd.R (Kd.int .i64) 3 w' w.heap.size (fun k=>k≠g∧k≠T) cl (closeL ls)):=⟨Kd.R_lower ho (below_size (show Below w.heap.size w _ from by(repeat(first|exact HB.out|exact Below.refl _ _|apply below_alloc|apply pw_below_drewN|apply below_drew1));done))⟩;replace HB:=ak (below_step (show Below w.heap.size w _ from by(repeat(first|exact HB.out|exact Below.refl _ _|apply below_alloc|apply pw_below_drewN|apply below_drew1));done) hw);have HS:=ak hst;clear hst ho hw;obtain⟨cA,cC,ecl⟩:=Kd.R_slice HO.out;subst ecl))
        |(go_at_call 67;have hq:=placedLegsW A0 c ls _ HS.out (World.block_lt_of_cell? _ _ HS.out.tc) HS.out.ge (Kd.C_below HR.out (show Below w.heap.size w _ from by(repeat(first|exact HB.out|exact Below.refl _ _|apply below_alloc|apply pw_below_drewN|apply below_drew1));done)) hc hn HG.out;(with_reducible refine hq.mono ?_);clear hq;rintro e w3 ⟨v,rfl,hv3,hw⟩;have hsz:=below_size HB.out;rw[←HPE.out]at hv3;have HP:=ak (Kd.R_mono (Kd.R_lower hv3 hsz) (ok':=fun _=>True) (fun _ _=>trivial));replace HB:=ak (below_step HB.out hw);clear hv3 hw HO HS;obtain⟨pA,pC,ep⟩:=Kd.R_slice HP.out;subst ep))
      have hown:∀k,Value.ownBlock (Value.slice none 0 0)=some k→False:=by intro k hk;simp[Value.ownBlock]at hk
      go_loopw [4,15] (fun v4 v15 w'=>∃(j:Nat),j≤pl.length∧v15= .int .i64 j∧Aside0 (Kd.R (Kd.int .i64) 3 w' w.heap.size (fun k=>some k≠(Value.slice pA pl.length pC).ownBlock) v4 (brL ls (pl.take j)))∧Aside0 (Kd.R (Kd.int .i64) 3 w' w.heap.size (fun k=>True∧some k≠v4.ownBlock) (.slice pA pl.length pC) pl)∧Aside0 (Below w.heap.size w w')) (fun _ v15 _=>pl.length-(intOf v15).toNat)
      case atStart=>exact⟨0,Nat.zero_le _,rfl,⟨(by rw[List.take_zero];exact Kd.R_nil _ _ _ _ _)⟩,⟨Kd.R_mono HP.out (fun k hk=>⟨trivial,fun e=>hown k e.symm⟩)⟩,HB⟩
      case round =>
        obtain⟨j,hj,rfl,HV,HC,HB2⟩:=hrel;clear HP HB hown;have HO:=HC;have HB:=HB2;clear HC HB2;obtain⟨vA,vC,ev⟩:=Kd.R_slice HV.out;subst ev;by_cases hlt:j<pl.length
        · obtain ⟨ad,e1,h1⟩:=Kd.at_int (Kd.R_reads' HO.out).2.2 (j:Int) (by omega) (by omega)
          subst e1;rw[rd_at _ j hlt,Int.toNat_natCast]at h1;obtain⟨k,hk1,hk2⟩:=HMem.out j hlt
          have HE:Aside0 (brL ls (pl.take (j+1))=if bridgeB ls pl[j]=true then brL ls (pl.take j)++[pl[j]] else brL ls (pl.take j)):=⟨by
            rw[List.take_succ_eq_append_getElem hlt];unfold brL;rw[List.filter_append];split
            · rename_i h;rw[List.filter_cons_of_pos (by simpa using h),List.filter_nil]
            · rename_i h;rw[List.filter_cons_of_neg (by simpa using h),List.filter_nil,List.append_nil]⟩
          have HTL:Aside0 ((brL ls (pl.take j)).length≤12):=⟨by
            unfold brL
            exact Nat.le_trans (List.length_filter_le _ _) (by rw[List.length_take];have:=HPL.out;omega)⟩
          rw[hk1]at HE h1;clear hk1;have hpl:=HPL.out;obtain⟨bb,hbb⟩:∃bb,bb=bridgeB ls k:=⟨_,rfl⟩
          rw[←hbb]at HE;have HBB:=ak hbb;clear hbb;cases bb
          · rw[if_neg (by decide)]at HE
            go_wp2_with (go_at_call 54;have hq:=isBridgeW _ c ls k _ (Kd.C_below HR.out (show Below w.heap.size w _ from by(repeat(first|exact HB.out|exact Below.refl _ _|apply below_alloc|apply pw_below_drewN|apply below_drew1));done)) hc hn HG.out hk2;(with_reducible refine hq.mono ?_);clear hq;rw[←HBB.out];rintro e w' ⟨rfl,hw⟩;replace HV:=ak (Kd.R_below HV.out hw);replace HO:=ak (Kd.R_below HO.out hw);replace HB:=ak (below_step HB.out hw);clear hw);exact⟨⟨j+1,hlt,by go_num,(qx2 HV),HO,HB⟩,qz41⟩
          · rw[if_pos rfl]at HE
            go_wp2_with (first
              |(go_at_call 54;have hq:=isBridgeW _ c ls k _ (Kd.C_below HR.out (show Below w.heap.size w _ from by(repeat(first|exact HB.out|exact Below.refl _ _|apply below_alloc|apply pw_below_drewN|apply below_drew1));done)) hc hn HG.out hk2;(with_reducible refine hq.mono ?_);clear hq;rw[←HBB.out];rintro e w' ⟨rfl,hw⟩;replace HV:=ak (Kd.R_below HV.out hw);replace HO:=ak (Kd.R_below HO.out hw);replace HB:=ak (below_step HB.out hw);clear hw)
              | ((with_reducible refine gate_builtin (b:= .append) (xs:= #[.tmp 22,.tmp 24]) rfl ?_);at_builtin;refine Kd.R_append (Kd.int .i64) (w0:=w) w.heap.size rfl (.tmp 22) (.tmp 24) 46 3 (.int .i64 0) 8 rfl Tryz.underlying46 info3 rfl (by decide) (by omega) (.slice vA (brL ls (pl.take j)).length vC) (brL ls (pl.take j)) (k:Int) [.int .i64 (k:Int)] (fun k=>some k≠(Value.slice (some ad) pl.length pC).ownBlock) (fun _=>False) rfl rfl ?aP (fun _ hk=>hk.elim) ?aF ?aO ?aB ?aS ?aL ?_;(case aP=>exact rfl);(case aF=>exact(by intro b hb;exact Kd.fresh' (Kd.R_lt HO.out) b hb));(case aO=>exact HV.out);(case aB=>exact HB.out);(case aS=>exact below_size HB.out);(case aL=>have:=HTL.out;omega)
                 intro v7_ w7_ ho hb hg hat;have HP1:=ak (Kd.R_after (ok:=fun _=>True) HO.out hg hat);have HP2:=ak ho
                 have HP3:=ak hb))
            exact⟨⟨j+1,hlt,by go_num,(qx2 HP2),HP1,HP3⟩,qz41⟩
        · go_wp2
          obtain rfl:j=pl.length:=by omega
          exact bodyPost_ret (v:= .tuple #[.slice vA (brL ls (pl.take pl.length)).length vC,.bool true]) (by simp[results,Tryz.results42,go_sem]) rfl ⟨_,rfl,(by rw[HRS.out];exact Kd.R_mono HV.out (fun _ _=>trivial)),HB.out⟩
  · rw[if_neg hb]at h
    cases h
end A
namespace A
open YtmgkbhhnchnkcaaGreatDoorW.PrintLast YtmgkbhhnchnkcaaGreatDoorW.PrintMore
open Net (L Sine.Laid RR countM legsB closeL legsB_iff areLegs_ev)
def impl_CountLoops.f(l0:List (S82)):Option (Int×Bool):=if l0.length≤140737488351232 then some (countM l0) else none
theorem impl_CountLoops.calls (A0:Option Addr) (c0:Nat) (l0:List (S82)) (r1:Int) (r2:Bool) (w:World) (hr0:Kd.C k82 w A0 l0.length l0) (hc0:l0.length≤c0) (h:impl_CountLoops.f l0=some (r1,r2)) (hL:Sine.Laid w):
    Calls Tryz.prog 17 #[.slice A0 l0.length c0] w fun e w'=>e= .returned (.tuple #[.int .i64 r1,.bool r2])∧Below w.heap.size w w':=by
  unfold impl_CountLoops.f at h;by_cases hb:l0.length≤140737488351232
  · rw [if_pos hb]at h
    obtain⟨K,hK⟩:=areLegs_ev l0 hb;have HA:=ak (hK K (Nat.le_refl _));have HR:=ak hr0;have HL:=ak hL;have HB:=ak (Below.refl w.heap.size w);clear hK hr0 hL hb;unfold countM at h;by_cases hv:legsB l0=true
    · rw[if_pos hv]at h
      obtain⟨rfl,rfl⟩:=Prod.mk.inj (Option.some.inj h);rw[hv]at HA;have hv':=legsB_iff.mp hv;have HG:=ak hv'.1;have hn:=hv'.2;clear h hv hv';go_enter Tryz.func17,Tryz.ntmps17
      go_wp2_with (first
        |(go_at_call 61;(with_reducible refine(impl_areLegs.calls K _ _ l0 true _ ?s1 ?s2 HA.out).mono ?_);(case s1=>exact HR.out);(case s2=>exact hc0);rintro e w' ⟨rfl,hw⟩;replace HB:=ak (below_step HB.out hw);clear hw)
        |(go_at_call 66;(with_reducible refine(Net.place A0 c0 l0 _ ?s1 ?s2 hc0 hn HG.out (RR l0) rfl).mono ?_);(case s1=>exact HL.out.keep HB.out);(case s2=>exact Kd.C_below HR.out HB.out);rintro e w' ⟨g,T,cl,rfl,hst,ho,hw⟩;replace HB:=ak (below_step HB.out hw);obtain⟨cA,cC,ecl⟩:=Kd.R_slice ho;subst ecl;have cc:=hst.cc;clear ho hst hw))
      go_ret2
      exact⟨rfl,HB.out⟩
    · rw[if_neg hv]at h
      obtain⟨rfl,rfl⟩:=Prod.mk.inj (Option.some.inj h);rw[Bool.eq_false_iff.mpr hv]at HA;clear h hv;go_enter Tryz.func17,Tryz.ntmps17;go_wp2_with (go_at_call 61;(with_reducible refine(impl_areLegs.calls K _ _ l0 false _ ?s1 ?s2 HA.out).mono ?_);(case s1=>exact HR.out);(case s2=>exact hc0);rintro e w' ⟨rfl,hw⟩;replace HB:=ak (below_step HB.out hw);clear hw)
      go_ret2
      exact⟨rfl,HB.out⟩
  · rw[if_neg hb]at h
    cases h
end A
namespace A
open Go YtmgkbhhnchnkcaaGreatDoorW.PrintLast YtmgkbhhnchnkcaaGreatDoorW.PrintMore
open Net (L Sine.Laid legsB legsB_iff areLegs_ev treesM coL unkL adjustW coordinatesW AdjPost Lst redN redD reduced_ev lowM highM low_eq high_eq depth_bound)
theorem imin_if(a b:Int):min a b=if b<a then b else a:=by split<;>omega
theorem imax_if(a b:Int):max a b=if a<b then b else a:=by split<;>omega
def lowTo(ls:L)(ax:Int)(k:Nat):Int:=(((unkL ls).take k).map (fun s=>rd (coL ls ax) s)).foldl min 0
def highTo(ls:L)(ax:Int)(k:Nat):Int:=(((unkL ls).take k).map (fun s=>rd (coL ls ax) s)).foldl max 0
theorem lowTo_step(ls:L)(ax:Int)(k:Nat)(h:k<(unkL ls).length):lowTo ls ax (k+1)=min (lowTo ls ax k) (rd (coL ls ax) (rd (unkL ls) (k:Int))):=by
  unfold lowTo;rw[List.take_add_one,List.map_append,List.foldl_append,Net.rd_get _ k h,List.getElem?_eq_getElem h];rfl
theorem highTo_step(ls:L)(ax:Int)(k:Nat)(h:k<(unkL ls).length):highTo ls ax (k+1)=max (highTo ls ax k) (rd (coL ls ax) (rd (unkL ls) (k:Int))):=by
  unfold highTo;rw[List.take_add_one,List.map_append,List.foldl_append,Net.rd_get _ k h,List.getElem?_eq_getElem h];rfl
theorem lowTo_all{ls:L}(hg:∀x∈ls,Net.Good x)(ax:Int):lowTo ls ax (unkL ls).length=lowM ls ax:=by
  unfold lowTo;rw[List.take_length];exact low_eq hg ax
theorem highTo_all{ls:L}(hg:∀x∈ls,Net.Good x)(ax:Int):highTo ls ax (unkL ls).length=highM ls ax:=by
  unfold highTo;rw[List.take_length];exact high_eq hg ax
def depM(ls:L):Int×Int×Bool:=if legsB ls=true then(redN (highM ls 2-lowM ls 2) (treesM ls),redD (highM ls 2-lowM ls 2) (treesM ls),true) else(0,0,false)
def impl_AdjustedDepth.f(l0:List (S82)):Option (Int×Int×Bool):=if l0.length≤140737488351232 then some (depM l0) else none
theorem impl_AdjustedDepth.calls (A0:Option Addr) (c0:Nat) (l0:List (S82)) (r1:Int) (r2:Int) (r3:Bool) (w:World) (hr0:Kd.C k82 w A0 l0.length l0) (hc0:l0.length≤c0) (h:impl_AdjustedDepth.f l0=some (r1,r2,r3)) (hL:Sine.Laid w):
    Calls Tryz.prog 45 #[.slice A0 l0.length c0] w fun e w'=>e= .returned (.tuple #[.int .i64 r1,.int .i64 r2,.bool r3])∧Below w.heap.size w w':=by
  unfold impl_AdjustedDepth.f at h;by_cases hb:l0.length≤140737488351232;(case neg=>rw[if_neg hb]at h;cases h);rw[if_pos hb]at h;obtain⟨K,hK⟩:=areLegs_ev l0 hb;have HA:=ak (hK K (Nat.le_refl _));have HR:=ak hr0;have HL:=ak hL;have HB:=ak (Below.refl w.heap.size w);clear hK hr0 hL hb;unfold depM at h;by_cases hv:legsB l0=true
  case neg=>
    rw[if_neg hv]at h;simp only[Option.some.injEq,Prod.mk.injEq]at h;obtain⟨rfl,rfl,rfl⟩:=h;rw[Bool.eq_false_iff.mpr hv]at HA;clear hv;go_enter Tryz.func45,Tryz.ntmps45
    go_wp2_with (first
        |(go_at_call 61;(with_reducible refine(impl_areLegs.calls K _ _ l0 false _ ?s1 ?s2 HA.out).mono ?_);(case s1=>exact HR.out);(case s2=>exact hc0);rintro e w' ⟨rfl,hw⟩;replace HB:=ak (below_step HB.out hw);clear hw))
    exact bodyPost_ret (v:= .tuple #[.int .i64 0,.int .i64 0,.bool false]) (by simp[results,Tryz.results45,go_sem]) rfl ⟨rfl,HB.out⟩
  rw[if_pos hv]at h;simp only[Option.some.injEq,Prod.mk.injEq]at h;obtain⟨rfl,rfl,rfl⟩:=h;rw[hv]at HA;have hv':=legsB_iff.mp hv;have HG:=ak hv'.1;have hn:=hv'.2
  have HRD:Aside0 (∀W,Calls Tryz.prog 79 #[.int .i64 (wrap64 (highTo l0 2 (unkL l0).length-lowTo l0 2 (unkL l0).length)),.int .i64 (treesM l0)] W fun e w'=>e= .returned (.tuple #[.int .i64 (redN (highM l0 2-lowM l0 2) (treesM l0)),.int .i64 (redD (highM l0 2-lowM l0 2) (treesM l0))])∧Below W.heap.size W w'):=⟨fun W=>by
    have ht1:=Net.trees_pos hn HG.out;have ht2:=Net.trees_le hn HG.out;have hs:=depth_bound hn HG.out 2;have hTB:(Net.TB:Int)≤1000000000000:=by decide
    rw[highTo_all HG.out,lowTo_all HG.out,Plain.w64 (by omega) (by omega)];obtain⟨K,hK⟩:=reduced_ev (highM l0 2-lowM l0 2) (treesM l0) (by omega) (by omega) (by omega) (by omega)
    exact impl_reduced.calls K _ _ _ _ W (hK K (Nat.le_refl _))⟩
  have HS1:Aside0 (∀k,k<(unkL l0).length→lowTo l0 2 (k+1)=min (lowTo l0 2 k) (rd (coL l0 2) (rd (unkL l0) (k:Int)))):=⟨lowTo_step l0 2⟩;have HS2:Aside0 (∀k,k<(unkL l0).length→highTo l0 2 (k+1)=max (highTo l0 2 k) (rd (coL l0 2) (rd (unkL l0) (k:Int)))):=⟨highTo_step l0 2⟩;have HRG:=ak (Net.unkL_range HG.out);have HCL:Aside0 ((coL l0 2).length=8):=⟨Net.coL_len l0 2⟩;have HUL:=ak (Net.unkL_len HG.out);clear hv hv';go_enter Tryz.func45,Tryz.ntmps45
  go_wp2_with (first
    |(go_at_call 61;(with_reducible refine(impl_areLegs.calls K _ _ l0 true _ ?s1 ?s2 HA.out).mono ?_);(case s1=>exact HR.out);(case s2=>exact hc0);rintro e w' ⟨rfl,hw⟩;replace HB:=ak (below_step HB.out hw);clear hw)
    |(go_at_call 78;(with_reducible refine(adjustW A0 c0 l0 _ ?s1 ?s2 hc0 hn HG.out).mono ?_);(case s1=>exact HL.out.keep HB.out);(case s2=>exact Kd.C_below HR.out HB.out);rintro e w2 ⟨ba,uA,pA,uc,pc,rfl,hadj,ht,hba,hw⟩;replace HB:=ak (below_step HB.out hw);have HJ:=ak hadj;clear hadj hw)
    |(go_at_call 90;(with_reducible refine(coordinatesW ba A0 uA pA c0 uc pc l0 2 _ ?s1 ?s2 hn HG.out (by decide) (by decide)).mono ?_);(case s1=>exact HL.out.keep HB.out);(case s2=>exact HJ.out);rintro e w3 ⟨v,rfl,hv3,hw3⟩;replace HB:=ak (below_step HB.out hw3);replace HJ:=ak (HJ.out.keep hw3);replace ht:=Net.Sine.keepc ht hw3;have HV:=ak hv3;have c3:=HJ.out.c3;clear hv3 hw3;obtain⟨cA,cC,ec⟩:=Kd.R_slice HV.out;subst ec))
  have hul:=HUL.out
  go_loopw [7,8,25] (fun v7 v8 v25 W=>∃(k:Nat),k≤(unkL l0).length∧v25= .int .i64 k∧v7= .int .i64 (lowTo l0 2 k)∧v8= .int .i64 (highTo l0 2 k)∧Aside0 (Below w3.heap.size w3 W)) (fun _ _ v25 _=>(unkL l0).length-(intOf v25).toNat)
  case atStart=>exact⟨0,Nat.zero_le _,rfl,rfl,rfl,⟨Below.refl _ _⟩⟩
  case round=>
    obtain⟨k,hk,rfl,rfl,rfl,HB3⟩:=hrel;by_cases hlt:k<(unkL l0).length
    · have k0:(0:Int)≤(k:Int):=by omega
      have k1:(k:Int)<((unkL l0).length:Int):=by omega
      obtain⟨ad,e1,h1⟩:=Kd.at_int (Kd.C_below HJ.out.p HB3.out) (k:Int) k0 k1;rw[Int.toNat_natCast]at h1;have hs:=HRG.out (rd (unkL l0) (k:Int)) (by rw[Net.rd_get _ k hlt];exact List.getElem_mem hlt);have HE1:=ak (HS1.out k hlt);have HE2:=ak (HS2.out k hlt);obtain⟨s,hs2⟩:=Int.eq_ofNat_of_zero_le hs.1;rw[hs2]at h1 hs HE1 HE2;have s0:(0:Int)≤(s:Int):=hs.1;have s1:(s:Int)<((coL l0 2).length:Int):=by rw[HCL.out];exact hs.2
      clear hs hs2;obtain⟨ac,e2,h2⟩:=Kd.at_int (Kd.C_below (Kd.R_reads' HV.out).2.2 HB3.out) (s:Int) s0 s1;rw[Int.toNat_natCast]at h2;subst e1;subst e2;generalize rd (coL l0 2) (s:Int)=cv at *;go_wp2_with fail
      go_region_held3 (fun w'=>w'.cell? (ac.add s)=some (.int .i64 cv))
        (first|assumption|exact Net.Sine.keepc (w:=wr) qz74 qz13)
        (fail)
      all_goals go_wp2
      all_goals exact⟨⟨k+1,hlt,by go_num,(by rw[HE1.out,imin_if]),(by rw[HE2.out,imax_if]),⟨(by repeat(first|exact HB3.out|apply pw_below_drewN|apply below_drew1))⟩⟩,qz41⟩
    · obtain rfl:k=(unkL l0).length:=by omega
      have h4:=Net.Sine.keepc ht HB3.out;go_wp2_with (go_at_call 79;(with_reducible refine(HRD.out _).mono ?_);rintro e w5 ⟨rfl,hw5⟩;replace HB3:=ak (below_step HB3.out hw5);clear hw5);exact bodyPost_ret (v:= .tuple #[.int .i64 (redN (highM l0 2-lowM l0 2) (treesM l0)),.int .i64 (redD (highM l0 2-lowM l0 2) (treesM l0)),.bool true]) (by simp[results,Tryz.results45,go_sem]) rfl ⟨rfl,below_step HB.out HB3.out⟩
end A
namespace A
open Go YtmgkbhhnchnkcaaGreatDoorW.PrintLast YtmgkbhhnchnkcaaGreatDoorW.PrintMore
open Net (L Sine.Laid legsB legsB_iff areLegs_ev treesM coL adjustW residualsW AdjPost Lst nT resL usedL)
def absI(x:Int):Int:=(x.natAbs:Int)
theorem absI_impl{x:Int}(h:Det.ab x≤11400000):impl_absolute.f x=some (absI x):=by
  rw[Det.ab_le]at h;have hw:wrap64 (-x)= -x:=by unfold wrap64;omega
  have e:(if x< -x then -x else x)=(x.natAbs:Int):=by split<;>omega
  show some (if x<wrap64 (-x)then wrap64 (-x) else x)=_;rw[hw,e];rfl
theorem absI_spec{x:Int}(h:Det.ab x≤11400000):spec_l1Most.f x (wrap64 (-x))=some (absI x):=by
  rw[Det.ab_le]at h;have hw:wrap64 (-x)= -x:=by unfold wrap64;omega
  unfold spec_l1Most.f absI;rw[hw];split<;>(congr 1;omega)
def bigTo(ls:L)(ax:Int):Nat→Int×Int
  |0=>(0,-1)
  |k+1=>if absI (nT ls ax (rd (usedL ls) (k:Int)))>(bigTo ls ax k).2 then(rd (usedL ls) (k:Int),absI (nT ls ax (rd (usedL ls) (k:Int)))) else bigTo ls ax k
theorem bigTo_size(ls:L)(ax:Int):∀k,0≤(bigTo ls ax (k+1)).2
  | 0=>by
    unfold bigTo;rw[if_pos (show absI (nT ls ax (rd (usedL ls) ((0:Nat):Int)))>(bigTo ls ax 0).2 by show absI _>(-1:Int);unfold absI;omega)];show 0≤absI _;unfold absI;omega
  | k+1=>by
    have h:=bigTo_size ls ax k;unfold bigTo;split
    · simp only[absI];omega
    · exact h
def bigM(ls:L)(ax:Int):Int×Bool:=if legsB ls=true∧(0≤ax∧ax≤2)then((bigTo ls ax (usedL ls).length).1,decide (0≤(bigTo ls ax (usedL ls).length).2)) else(0,false)
def impl_LargestResidual.f(l0:List (S82))(a1:Int):Option (Int×Bool):=if l0.length≤140737488351232 then some (bigM l0 a1) else none
theorem impl_LargestResidual.calls (A0:Option Addr) (c0:Nat) (l0:List (S82)) (a1:Int) (r1:Int) (r2:Bool) (w:World) (hr0:Kd.C k82 w A0 l0.length l0) (hc0:l0.length≤c0) (h:impl_LargestResidual.f l0 a1=some (r1,r2)) (hL:Sine.Laid w):
    Calls Tryz.prog 34 #[.slice A0 l0.length c0,.int .i64 a1] w fun e w'=>e= .returned (.tuple #[.int .i64 r1,.bool r2])∧Below w.heap.size w w':=by
  unfold impl_LargestResidual.f at h;by_cases hb:l0.length≤140737488351232;(case neg=>rw[if_neg hb]at h;cases h);rw[if_pos hb]at h;obtain⟨K,hK⟩:=areLegs_ev l0 hb;have HA:=ak (hK K (Nat.le_refl _));have HR:=ak hr0;have HL:=ak hL;have HB:=ak (Below.refl w.heap.size w);have HAX:Aside0 (impl_isAxis.f a1=some (decide (0≤a1∧a1≤2))):=⟨qz89⟩;clear hK hr0 hL hb;unfold bigM at h;by_cases hv:legsB l0=true
  · by_cases hx :0≤a1∧a1≤2
    · rw [if_pos ⟨hv,hx⟩]at h
      simp only[Option.some.injEq,Prod.mk.injEq]at h;obtain⟨rfl,rfl⟩:=h;rw[hv]at HA;rw[decide_eq_true hx]at HAX;have hv':=legsB_iff.mp hv;have HG:=ak hv'.1;have hn:=hv'.2;have x0:=hx.1;have x2:=hx.2
      have HRL:Aside0 ((resL l0 a1).length=(usedL l0).length∧∀k:Nat,k<(usedL l0).length→rd (resL l0 a1) (k:Int)=nT l0 a1 (rd (usedL l0) (k:Int))∧impl_absolute.f (nT l0 a1 (rd (usedL l0) (k:Int)))=some (absI (nT l0 a1 (rd (usedL l0) (k:Int))))):=⟨(by unfold resL;rw[List.length_map]),fun k hk=>by
        have hm:rd (usedL l0) (k:Int)∈usedL l0:=by rw[Net.rd_get _ k hk];exact List.getElem_mem hk
        refine⟨?_,absI_impl (Net.nT_bound hn HG.out a1 hm)⟩;rw[Net.rd_get _ k (by unfold resL;rw[List.length_map];exact hk),Net.rd_get _ k hk];unfold resL
        rw[List.getElem_map]⟩
      have HUL:Aside0 ((usedL l0).length≤12):=⟨(by have:=Net.usedL_len l0;omega)⟩;have HS1:Aside0 (∀k:Nat,absI (nT l0 a1 (rd (usedL l0) (k:Int)))>(bigTo l0 a1 k).2→bigTo l0 a1 (k+1)=(rd (usedL l0) (k:Int),absI (nT l0 a1 (rd (usedL l0) (k:Int))))):=⟨fun k h=>by conv=>lhs;unfold bigTo;rw[if_pos h]⟩;have HS2:Aside0 (∀k:Nat,¬absI (nT l0 a1 (rd (usedL l0) (k:Int)))>(bigTo l0 a1 k).2→bigTo l0 a1 (k+1)=bigTo l0 a1 k):=⟨fun k h=>by conv=>lhs;unfold bigTo;rw[if_neg h]⟩;clear hv hv' hx;go_enter Tryz.func34,Tryz.ntmps34
      go_wp2_with (first
        |(go_at_call 61;(with_reducible refine(impl_areLegs.calls K _ _ l0 true _ ?s1 ?s2 HA.out).mono ?_);(case s1=>exact HR.out);(case s2=>exact hc0);rintro e w' ⟨rfl,hw⟩;replace HB:=ak (below_step HB.out hw);clear hw)
        |(go_at_call 77;(with_reducible refine(impl_isAxis.calls _ _ _ HAX.out).mono ?_);rintro e w' ⟨rfl,⟨nd,rfl⟩⟩;replace HB:=ak (pw_below_drewN HB.out nd))
        |(go_at_call 78;(with_reducible refine(adjustW A0 c0 l0 _ ?s1 ?s2 hc0 hn HG.out).mono ?_);(case s1=>exact HL.out.keep HB.out);(case s2=>exact Kd.C_below HR.out HB.out);rintro e w2 ⟨ba,uA,pA,uc,pc,rfl,hadj,ht,hba,hw⟩;replace HB:=ak (below_step HB.out hw);have HJ:=ak hadj;clear hadj hw))
      go_wp2_with (first
        |(go_at_call 83;(with_reducible refine(residualsW ba A0 uA pA c0 uc pc l0 a1 _ ?s1 ?s2 ?s3 hn HG.out x0 x2).mono ?_);(case s1=>exact HL.out.keep HB.out);(case s2=>exact HJ.out);(case s3=>exact ht);rintro e w3 ⟨v,rfl,hv3,hw3⟩;replace HB:=ak (below_step HB.out hw3);replace HJ:=ak (HJ.out.keep hw3);have HV:=ak hv3;clear hv3 hw3 ht;obtain⟨cA,cC,ec⟩:=Kd.R_slice HV.out;subst ec;rw[HRL.out.1]at HV;rw[HRL.out.1]))
      have hl12:=HUL.out
      go_loopw [7,8,25] (fun v7 v8 v25 W=>∃(k:Nat),k≤(usedL l0).length∧v25= .int .i64 k∧v7= .int .i64 (bigTo l0 a1 k).1∧v8= .int .i64 (bigTo l0 a1 k).2∧Aside0 (Below w3.heap.size w3 W)) (fun _ _ v25 _=>(usedL l0).length-(intOf v25).toNat)
      case atStart=>exact⟨0,Nat.zero_le _,rfl,rfl,rfl,⟨Below.refl _ _⟩⟩
      case round=>
        obtain⟨k,hk,rfl,rfl,rfl,HB3⟩:=hrel;by_cases hlt:k<(usedL l0).length
        · have k0:(0:Int)≤(k:Int):=by omega
          have k1:(k:Int)<((usedL l0).length:Int):=by omega
          obtain⟨ad,e1,h1⟩:=Kd.at_int (Kd.C_below (Kd.R_reads' HV.out).2.2 HB3.out) (k:Int) k0 (by rw[HRL.out.1];exact k1);rw[Int.toNat_natCast,(HRL.out.2 k hlt).1]at h1;have HAB:=ak (HRL.out.2 k hlt).2;obtain⟨au,e2,h2⟩:=Kd.at_int (Kd.C_below HJ.out.u HB3.out) (k:Int) k0 k1;rw[Int.toNat_natCast]at h2;have h3:=Net.Sine.keepc HJ.out.c2 HB3.out;have HT1:=ak (HS1.out k);have HT2:=ak (HS2.out k);subst e1;subst e2;generalize rd (usedL l0) (k:Int)=ri at *;generalize nT l0 a1 ri=nv at *;generalize absI nv=an at *;by_cases hgt:an>(bigTo l0 a1 k).2
          · have HE:=ak (HT1.out hgt)
            go_wp2_with (go_at_call 84;(with_reducible refine(impl_absolute.calls _ _ _ HAB.out).mono ?_);rintro e w4 ⟨rfl,hw4⟩;replace HB3:=ak (below_step HB3.out hw4);replace h2:=Net.Sine.keepc h2 hw4;replace h3:=Net.Sine.keepc h3 hw4;clear hw4)
            go_region_held3 (fun w'=>w'.cell? ⟨ba,2,none⟩=some (.slice (some au) (usedL l0).length uc)∧w'.cell? (au.add k)=some (.int .i64 ri))
              ((repeat' refine And.intro ?_ ?_)<;>first|assumption|exact Net.Sine.keepc (w:=w4) qz74 qz13)
              (first
                | (go_at_call 84;(with_reducible refine(impl_absolute.calls _ _ _ HAB.out).mono ?_);rintro e w5 ⟨rfl,hw5⟩
                   have hB5:Below w4.heap.size w4 w5:=by(repeat(first|exact Below.refl _ _|apply pw_below_drewN|apply below_drew1|exact HB.out|refine below_step ?_ qz74));done
                   replace HB3:=ak (below_step HB3.out hB5)
                   clear hw5))
            go_wp2;exact⟨⟨k+1,hlt,by go_num,(by rw[HE.out]),(by rw[HE.out]),HB3⟩,qz41⟩
          · have HE:=ak (HT2.out (by omega))
            go_wp2_with (go_at_call 84;(with_reducible refine(impl_absolute.calls _ _ _ HAB.out).mono ?_);rintro e w4 ⟨rfl,hw4⟩;replace HB3:=ak (below_step HB3.out hw4);replace h2:=Net.Sine.keepc h2 hw4;replace h3:=Net.Sine.keepc h3 hw4;clear hw4);exact⟨⟨k+1,hlt,by go_num,(by rw[HE.out]),(by rw[HE.out]),HB3⟩,qz41⟩
        · obtain rfl:k=(usedL l0).length:=by omega
          go_wp2;exact bodyPost_ret (v:= .tuple #[.int .i64 (bigTo l0 a1 (usedL l0).length).1,.bool (decide (0≤(bigTo l0 a1 (usedL l0).length).2))]) (by simp[results,Tryz.results34,go_sem]) rfl ⟨rfl,below_step HB.out HB3.out⟩
    · rw[if_neg (fun e=>hx e.2)]at h
      simp only[Option.some.injEq,Prod.mk.injEq]at h;obtain⟨rfl,rfl⟩:=h;rw[hv]at HA;rw[decide_eq_false hx]at HAX;clear hv hx;go_enter Tryz.func34,Tryz.ntmps34
      go_wp2_with (first
        |(go_at_call 61;(with_reducible refine(impl_areLegs.calls K _ _ l0 true _ ?s1 ?s2 HA.out).mono ?_);(case s1=>exact HR.out);(case s2=>exact hc0);rintro e w' ⟨rfl,hw⟩;replace HB:=ak (below_step HB.out hw);clear hw)
        |(go_at_call 77;(with_reducible refine(impl_isAxis.calls _ _ _ HAX.out).mono ?_);rintro e w' ⟨rfl,⟨nd,rfl⟩⟩;replace HB:=ak (pw_below_drewN HB.out nd)))
      exact bodyPost_ret (v:= .tuple #[.int .i64 0,.bool false]) (by simp[results,Tryz.results34,go_sem]) rfl ⟨rfl,HB.out⟩
  · rw [if_neg (fun e=>hv e.1)]at h
    simp only[Option.some.injEq,Prod.mk.injEq]at h;obtain⟨rfl,rfl⟩:=h;rw[Bool.eq_false_iff.mpr hv]at HA;clear hv;go_enter Tryz.func34,Tryz.ntmps34
    go_wp2_with (first
        |(go_at_call 61;(with_reducible refine(impl_areLegs.calls K _ _ l0 false _ ?s1 ?s2 HA.out).mono ?_);(case s1=>exact HR.out);(case s2=>exact hc0);rintro e w' ⟨rfl,hw⟩;replace HB:=ak (below_step HB.out hw);clear hw))
    exact bodyPost_ret (v:= .tuple #[.int .i64 0,.bool false]) (by simp[results,Tryz.results34,go_sem]) rfl ⟨rfl,HB.out⟩
end A
namespace A
open Go YtmgkbhhnchnkcaaGreatDoorW.PrintLast YtmgkbhhnchnkcaaGreatDoorW.PrintMore
open Net (L Sine.Laid legsB legsB_iff areLegs_ev treesM coL adjustW squaresW AdjPost Lst SA redN redD reduced_ev)
def squM(ls:L)(ax:Int):Int×Int×Bool:=if legsB ls=true∧(0≤ax∧ax≤2)then(redN (SA ls ax) (treesM ls*treesM ls),redD (SA ls ax) (treesM ls*treesM ls),true) else(0,0,false)
def impl_SquareSum.f(l0:List (S82))(a1:Int):Option (Int×Int×Bool):=if l0.length≤140737488351232 then some (squM l0 a1) else none
theorem impl_SquareSum.calls (A0:Option Addr) (c0:Nat) (l0:List (S82)) (a1:Int) (r1:Int) (r2:Int) (r3:Bool) (w:World) (hr0:Kd.C k82 w A0 l0.length l0) (hc0:l0.length≤c0) (h:impl_SquareSum.f l0 a1=some (r1,r2,r3)) (hL:Sine.Laid w):
    Calls Tryz.prog 32 #[.slice A0 l0.length c0,.int .i64 a1] w fun e w'=>e= .returned (.tuple #[.int .i64 r1,.int .i64 r2,.bool r3])∧Below w.heap.size w w':=by
  unfold impl_SquareSum.f at h;by_cases hb:l0.length≤140737488351232;(case neg=>rw[if_neg hb]at h;cases h);rw[if_pos hb]at h;obtain⟨K,hK⟩:=areLegs_ev l0 hb;have HA:=ak (hK K (Nat.le_refl _));have HR:=ak hr0;have HL:=ak hL;have HB:=ak (Below.refl w.heap.size w);have HAX:Aside0 (impl_isAxis.f a1=some (decide (0≤a1∧a1≤2))):=⟨qz89⟩;clear hK hr0 hL hb;unfold squM at h;by_cases hv:legsB l0=true
  · by_cases hx:0≤a1∧a1≤2
    · rw [if_pos ⟨hv,hx⟩]at h
      simp only[Option.some.injEq,Prod.mk.injEq]at h;obtain⟨rfl,rfl,rfl⟩:=h;rw[hv]at HA;rw[decide_eq_true hx]at HAX;have hv':=legsB_iff.mp hv;have HG:=ak hv'.1;have hn:=hv'.2;have x0:=hx.1;have x2:=hx.2
      have HRD:Aside0 (∀W,Calls Tryz.prog 79 #[.int .i64 (SA l0 a1),.int .i64 (IntKind.i64.wrap (treesM l0*treesM l0))] W fun e w'=>e= .returned (.tuple #[.int .i64 (redN (SA l0 a1) (treesM l0*treesM l0)),.int .i64 (redD (SA l0 a1) (treesM l0*treesM l0))])∧Below W.heap.size W w'):=⟨fun W=>by
        have ht1:=Net.trees_pos hn HG.out;have ht2:=Net.trees_le hn HG.out;have hs:=Net.SA_bound hn HG.out a1;have hsq:treesM l0*treesM l0≤6561*6561:=Int.mul_le_mul ht2 ht2 (by omega) (by omega);have hsp:0<treesM l0*treesM l0:=Int.mul_pos (by omega) (by omega);rw[i64_w,Plain.w64 (by omega) (by omega)];obtain⟨K,hK⟩:=reduced_ev (SA l0 a1) (treesM l0*treesM l0) hsp (by omega) (by omega) (by omega)
        exact impl_reduced.calls K _ _ _ _ W (hK K (Nat.le_refl _))⟩
      clear hv hv' hx;go_enter Tryz.func32,Tryz.ntmps32
      go_wp2_with (first
        |(go_at_call 61;(with_reducible refine(impl_areLegs.calls K _ _ l0 true _ ?s1 ?s2 HA.out).mono ?_);(case s1=>exact HR.out);(case s2=>exact hc0);rintro e w' ⟨rfl,hw⟩;replace HB:=ak (below_step HB.out hw);clear hw)
        |(go_at_call 77;(with_reducible refine(impl_isAxis.calls _ _ _ HAX.out).mono ?_);rintro e w' ⟨rfl,⟨nd,rfl⟩⟩;replace HB:=ak (pw_below_drewN HB.out nd))
        |(go_at_call 78;(with_reducible refine(adjustW A0 c0 l0 _ ?s1 ?s2 hc0 hn HG.out).mono ?_);(case s1=>exact HL.out.keep HB.out);(case s2=>exact Kd.C_below HR.out HB.out);rintro e w2 ⟨ba,uA,pA,uc,pc,rfl,hadj,ht,hba,hw⟩;replace HB:=ak (below_step HB.out hw);have HJ:=ak hadj;clear hadj hw))
      go_region_held3 (fun w'=>w'.cell? ⟨ba,4,none⟩=some (.int .i64 (treesM l0)))
        (first|exact ht|exact Net.Sine.keepc ht qz74|(refine Net.Sine.keepc (w:=w2) ht ?_<;>((repeat(first|exact Below.refl _ _|apply pw_below_drewN|apply below_drew1|exact HB.out|refine below_step ?_ qz74));done)))
        (first
          | (go_at_call 80;(with_reducible refine(squaresW ba A0 uA pA c0 uc pc l0 a1 _ ?s1 ?s2 ?s3 hn HG.out x0 x2).mono ?_);(case s1=>exact HL.out.keep (below_step HB.out (show Below w2.heap.size w2 _ from by(repeat(first|exact Below.refl _ _|apply pw_below_drewN|apply below_drew1|exact HB.out|refine below_step ?_ qz74));done)));(case s2=>exact HJ.out.keep qz13);(case s3=>exact Net.Sine.keepc (w:=w2) ht qz13);rintro e w3 ⟨rfl,hw3⟩
             have hB3:Below w2.heap.size w2 w3:=by(repeat(first|exact Below.refl _ _|apply pw_below_drewN|apply below_drew1|exact HB.out|refine below_step ?_ qz74));done
             have HB3:=ak (below_step HB.out hB3)
             clear hw3)
          | (go_at_call 79;(with_reducible refine(HRD.out _).mono ?_);rintro e w4 ⟨rfl,hw4⟩
             have hB4:Below w2.heap.size w2 w4:=below_step hB3 hw4;have HB4:=ak (below_step HB.out hB4)
             clear hw4))
      go_wp2;exact bodyPost_ret (v:= .tuple #[.int .i64 (redN (SA l0 a1) (treesM l0*treesM l0)),.int .i64 (redD (SA l0 a1) (treesM l0*treesM l0)),.bool true]) (by simp[results,Tryz.results32,go_sem]) rfl ⟨rfl,HB4.out⟩
    · rw[if_neg (fun e=>hx e.2)]at h
      simp only[Option.some.injEq,Prod.mk.injEq]at h;obtain⟨rfl,rfl,rfl⟩:=h;rw[hv]at HA;rw[decide_eq_false hx]at HAX;clear hv hx;go_enter Tryz.func32,Tryz.ntmps32
      go_wp2_with (first
        |(go_at_call 61;(with_reducible refine(impl_areLegs.calls K _ _ l0 true _ ?s1 ?s2 HA.out).mono ?_);(case s1=>exact HR.out);(case s2=>exact hc0);rintro e w' ⟨rfl,hw⟩;replace HB:=ak (below_step HB.out hw);clear hw)
        |(go_at_call 77;(with_reducible refine(impl_isAxis.calls _ _ _ HAX.out).mono ?_);rintro e w' ⟨rfl,⟨nd,rfl⟩⟩;replace HB:=ak (pw_below_drewN HB.out nd)))
      exact bodyPost_ret (v:= .tuple #[.int .i64 0,.int .i64 0,.bool false]) (by simp[results,Tryz.results32,go_sem]) rfl ⟨rfl,HB.out⟩
  · rw [if_neg (fun e=>hv e.1)]at h
    simp only[Option.some.injEq,Prod.mk.injEq]at h;obtain⟨rfl,rfl,rfl⟩:=h;rw[Bool.eq_false_iff.mpr hv]at HA;clear hv;go_enter Tryz.func32,Tryz.ntmps32
    go_wp2_with (first
        |(go_at_call 61;(with_reducible refine(impl_areLegs.calls K _ _ l0 false _ ?s1 ?s2 HA.out).mono ?_);(case s1=>exact HR.out);(case s2=>exact hc0);rintro e w' ⟨rfl,hw⟩;replace HB:=ak (below_step HB.out hw);clear hw))
    exact bodyPost_ret (v:= .tuple #[.int .i64 0,.int .i64 0,.bool false]) (by simp[results,Tryz.results32,go_sem]) rfl ⟨rfl,HB.out⟩
end A
end Go.Proofs.YtmgkbhhnchnkcaaGreatDoor
