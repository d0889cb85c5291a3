/- The program's StrainOf, in the form of the printed functions, over the laid table of sines. -/
import Derived.Test.YtmgkbhhnchnkcaaGreatDoorKFnBlundersU8
set_option maxHeartbeats 4000000
set_option maxRecDepth 100000
set_option linter.unusedSimpArgs false
set_option linter.unusedVariables false
namespace Go.Proofs.YtmgkbhhnchnkcaaGreatDoor.Net
open Go Go.RowKit YtmgkbhhnchnkcaaGreatDoorW.PrintWords YtmgkbhhnchnkcaaGreatDoorW.PrintLast YtmgkbhhnchnkcaaGreatDoorW.PrintMore A Plain
structure SS where
 b:Int
 y:L
def susS(ls:L)(st:SS)(k:Int):SS:=if bridgeB ls k=true then st else if st.b<0∨sCmp (less ls k.toNat) st.y= -1 then⟨k,less ls k.toNat⟩ else st
def susTo(ls:L):Nat→SS
 |0=>⟨-1,[]⟩
 |j+1=>susS ls (susTo ls j) (rd (usedL ls) (j:Int))
def ssN(st:SS):Int:=if st.b<0 then 0 else sNum st.y
def ssD(st:SS):Int:=if st.b<0 then 0 else sDen st.y
structure SOk(st:SS):Prop where
 b: -1≤st.b
 good:0≤st.b→∀x∈st.y,Good x
 len:0≤st.b→st.y.length≤12
theorem SOk.step{ls:L}(hn:ls.length≤12)(hg:∀x∈ls,Good x){st:SS}(h:SOk st)(k:Nat)(hk:k<ls.length):SOk (susS ls st (k:Int)):=by
 unfold susS;split
 · exact h
 ·split
  · exact⟨(by show(-1:Int)≤(k:Int);omega),fun _=>by rw[Int.toNat_natCast];exact less_good hg k,fun _=>by rw[Int.toNat_natCast];show(less ls k).length≤12;have:=less_len ls k hk;omega⟩
  · exact h
theorem SOk.upto{ls:L}(hn:ls.length≤12)(hg:∀x∈ls,Good x):∀j,j≤(usedL ls).length→SOk (susTo ls j)
 |0,_=>⟨Int.le_refl _,fun h=>absurd h (show¬(0:Int)≤ -1 by decide),fun h=>absurd h (show¬(0:Int)≤ -1 by decide)⟩
 |j+1,hj=>by
  have hm:rd (usedL ls) (j:Int)∈usedL ls:=by rw[rd_get _ j (by omega)];exact List.getElem_mem (by omega)
  have hr:=usedL_range ls _ hm;have h:=SOk.upto hn hg j (by omega);show SOk (susS ls (susTo ls j) (rd (usedL ls) (j:Int)));generalize rd (usedL ls) (j:Int)=kz at *;obtain⟨k,rfl⟩:=Int.eq_ofNat_of_zero_le hr.1;exact h.step hn hg k (by omega)
structure Lst5(q:Nat)(st:SS)(W:World):Prop where
 c0:W.cell? ⟨q,0,none⟩=some (.int .i64 (ssN st))
 c1:W.cell? ⟨q,1,none⟩=some (.int .i64 (ssD st))
 z0:W.frozen? ⟨q,0,none⟩=false
 z1:W.frozen? ⟨q,1,none⟩=false
theorem Lst5.keep{q:Nat}{y:SS}{W W':World}(h:Lst5 q y W)(hb:Below W.heap.size W W'):Lst5 q y W':=⟨Sine.keepc h.c0 hb,Sine.keepc h.c1 hb,keepz h.c0 h.z0 hb,keepz h.c1 h.z1 hb⟩
theorem Lst5.put{q k:Nat}{st:SS}{y:L}{W:World}(h:Lst5 q st W):Lst5 q ⟨(k:Int),y⟩ ((W.setCell ⟨q,0,none⟩ (.int .i64 (sNum y))).setCell ⟨q,1,none⟩ (.int .i64 (sDen y))):=by
 have h0:(W.setCell ⟨q,0,none⟩ (.int .i64 (sNum y))).cell? ⟨q,0,none⟩=some (.int .i64 (sNum y)):=by simpa using World.cell?_setCell_same _ _ _ h.c0
 have h1:(W.setCell ⟨q,0,none⟩ (.int .i64 (sNum y))).cell? ⟨q,1,none⟩=some (.int .i64 (ssD st)):=far h.c1 (offne (by decide));have e0:ssN ⟨(k:Int),y⟩=sNum y:=if_neg (by show¬(k:Int)<0;omega);have e1:ssD ⟨(k:Int),y⟩=sDen y:=if_neg (by show¬(k:Int)<0;omega);exact⟨(by rw[e0];exact far h0 (offne (by decide))),(by rw[e1];simpa using World.cell?_setCell_same _ _ _ h1),(by rw[World.frozen?_setCell,World.frozen?_setCell];exact h.z0),(by rw[World.frozen?_setCell,World.frozen?_setCell];exact h.z1)⟩
end Go.Proofs.YtmgkbhhnchnkcaaGreatDoor.Net
namespace Go.Proofs.YtmgkbhhnchnkcaaGreatDoor.A
open Go Go.RowKit YtmgkbhhnchnkcaaGreatDoorW.PrintWords YtmgkbhhnchnkcaaGreatDoorW.PrintLast YtmgkbhhnchnkcaaGreatDoorW.PrintMore
open Net
attribute [local go_sem] max2_int max_two
def susM(ls:L):Int×Bool:=if legsB ls=true then(if(susTo ls (usedL ls).length).b<0 then 0 else(susTo ls (usedL ls).length).b,decide ((susTo ls (usedL ls).length).b≥0)) else(0,false)
def impl_SuspectLeg.f(l0:List (S82)):Option (Int×Bool):=if l0.length≤140737488351232 then some (susM l0) else none
theorem impl_SuspectLeg.calls(A0:Option Addr)(c:Nat)(ls:List (S82))(r1:Int)(r2:Bool)(w:World)(hr0:Kd.C k82 w A0 ls.length ls)(hc:ls.length≤c)(h:impl_SuspectLeg.f ls=some (r1,r2))(hL:Sine.Laid w):
  Calls Tryz.prog 14 #[.slice A0 ls.length c] w fun e w'=>e= .returned (.tuple #[.int .i64 r1,.bool r2])∧Below w.heap.size w w':=by
 unfold impl_SuspectLeg.f at h;by_cases hb:ls.length≤140737488351232;(case neg=>rw[if_neg hb]at h;cases h);rw[if_pos hb]at h;obtain⟨K,hK⟩:=areLegs_ev ls hb;have HA:=ak (hK K (Nat.le_refl _));have HR:=ak hr0;have HL:=ak hL;have HB:=ak (Below.refl w.heap.size w);clear hK hr0 hL hb;unfold susM at h;cases hv:legsB ls
 ·rw[if_neg (by rw[hv];simp)]at h;simp only[Option.some.injEq,Prod.mk.injEq]at h;obtain⟨rfl,rfl⟩:=h;rw[hv]at HA;clear hv;go_enter Tryz.func14,Tryz.ntmps14;go_wp2_with (go_at_call 61;(with_reducible refine(impl_areLegs.calls K _ _ ls false _ ?s1 ?s2 HA.out).mono ?_);(case s1=>exact Kd.C_below HR.out qz7);(case s2=>exact hc);rintro e w' ⟨rfl,hw⟩;replace HB:=ak (below_step (show Below w.heap.size w _ from by(repeat(first|exact HB.out|exact Below.refl _ _|apply below_alloc|apply pw_below_drewN|apply below_drew1));done) hw);clear hw);exact bodyPost_ret (v:= .tuple #[.int .i64 0,.bool false]) (by simp[results,Tryz.results14,go_sem]) rfl ⟨rfl,(by repeat(first|exact HB.out|apply below_drew1))⟩
 ·rw [hv]at HA;rw[if_pos hv]at h;simp only[Option.some.injEq,Prod.mk.injEq]at h;have HQ:=ak h;clear h;have hv':=legsB_iff.mp hv;have HG:=ak hv'.1;have hn:=hv'.2;have hul:=usedL_len ls;have HUR:=ak (usedL_range ls);have HSK:Aside0 (∀j,j≤(usedL ls).length→SOk (susTo ls j)):=⟨SOk.upto hn hv'.1⟩;clear hv hv';go_enter Tryz.func14,Tryz.ntmps14
  go_wp2_with (first
   |(go_at_call 61;(with_reducible refine(impl_areLegs.calls K _ _ ls true _ ?s1 ?s2 HA.out).mono ?_);(case s1=>exact Kd.C_below HR.out qz7);(case s2=>exact hc);rintro e w' ⟨rfl,hw⟩;replace HB:=ak (below_step (show Below w.heap.size w _ from by(repeat(first|exact HB.out|exact Below.refl _ _|apply below_alloc|apply pw_below_drewN|apply below_drew1));done) hw);clear hw)
   |(go_at_call 66;have hq5:w.heap.size≤w'.heap.size:=HB.out.size;have B3:=below_alloc (Below.refl w'.heap.size w') (Obj.cells #[Value.int IntKind.i64 0,Value.int IntKind.i64 0] 60);have L5:Lst5 w'.heap.size (susTo ls 0) (w'.alloc (Obj.cells #[Value.int IntKind.i64 0,Value.int IntKind.i64 0] 60)):=⟨(by rw[show ssN (susTo ls 0)=0 from if_pos (by show(-1:Int)<0;decide)];go_simp),(by rw[show ssD (susTo ls 0)=0 from if_pos (by show(-1:Int)<0;decide)];go_simp),by go_simp,by go_simp⟩;replace HB:=ak (below_step HB.out B3);generalize w'.alloc (Obj.cells #[Value.int IntKind.i64 0,Value.int IntKind.i64 0] 60)=w3 at *;(with_reducible refine(place A0 c ls _ ?s1 ?s2 hc hn HG.out (RR ls) rfl).mono ?_);(case s1=>exact HL.out.keep HB.out);(case s2=>exact Kd.C_below HR.out HB.out);rintro e w4 ⟨g,T,cl,rfl,hst,ho,hw⟩;replace HB:=ak (below_step HB.out hw);replace L5:=L5.keep hw;have HS:=ak hst;clear ho hw hst B3)
   |(go_at_call 67;have hq:=placedLegsW A0 c ls w4 HS.out (World.block_lt_of_cell? _ _ HS.out.tc) HS.out.ge (Kd.C_below HR.out HB.out) hc hn HG.out;(with_reducible refine hq.mono ?_);clear hq;rintro e w5 ⟨v,rfl,hv,hw⟩;replace HB:=ak (below_step HB.out hw);have hq4:=World.block_lt_of_cell? _ _ L5.c0;replace L5:=L5.keep hw;clear HS;obtain⟨A5,hh,c5,ev,hres⟩:=listForm hv;subst ev;rw[show plcL ls (RR ls) ls.length=usedL ls from rfl]at hres;have HRS:=ak hres;clear hv hw hres))
  rw[show(plcL ls (RR ls) ls.length).length=(usedL ls).length from rfl];have HBW:Aside0 (∀W,Off w'.heap.size w5 W→Below w.heap.size w W):=⟨fun W h=>HB.out.trans ((h.below (Nat.le_of_lt (World.block_lt_of_cell? _ _ L5.c0))).mono hq5)⟩;have HL5:=ak L5;clear L5;have HAH:Aside0 (0<(usedL ls).length→A5=some ⟨hh,0,none⟩∧w'.heap.size≠hh):=⟨fun h=>⟨(HRS.out h).1,(by have:=(HRS.out h).2.1;have hq6:w'.heap.size<w4.heap.size:=hq4;omega)⟩⟩;have HC5:Aside0 (∀t:Nat,t<(usedL ls).length→w5.cell? ⟨hh,t,none⟩=some (.int .i64 (rd (usedL ls) (t:Int)))):=⟨fun t ht=>(HRS.out (by omega)).2.2.2 t ht⟩;clear HRS hq4;generalize w'.heap.size=q5 at *
  go_loopw [4,17] (fun v4 v17 W=>∃j:Nat,j≤(usedL ls).length∧v17= .int .i64 j∧v4= .int .i64 (susTo ls j).b∧Aside0 (Lst5 q5 (susTo ls j) W)∧Aside0 (Off q5 w5 W)) (fun _ v17 _=>(usedL ls).length-(intOf v17).toNat)
  case atStart=>exact⟨0,Nat.zero_le _,rfl,rfl,HL5,⟨Off.refl _ _⟩⟩
  case round=>
   obtain⟨j,hj,rfl,rfl,H5,HO⟩:=hrel;clear HL5;by_cases hlt:j<(usedL ls).length
   ·have hpos:0<(usedL ls).length:=by omega
    have j0:(0:Int)≤(j:Int):=by omega
    have j1:(j:Int)<((usedL ls).length:Int):=by omega
    have hmem:rd (usedL ls) (j:Int)∈usedL ls:=by rw[Net.rd_get _ j hlt];exact List.getElem_mem hlt
    have hur:=HUR.out _ hmem;have HSO:=ak (HSK.out j hj);have h31:=HO.out.cell (HC5.out j hlt) (HAH.out hpos).2.symm;have hA5:=(HAH.out hpos).1;have hnx:susTo ls (j+1)=susS ls (susTo ls j) (rd (usedL ls) (j:Int)):=rfl;generalize rd (usedL ls) (j:Int)=kz at *;obtain⟨k,rfl⟩:=Int.eq_ofNat_of_zero_le hur.1;have hk:k<ls.length:=by omega
    unfold susS at hnx;rw[Int.toNat_natCast]at hnx;have HNX:=ak hnx;subst hA5;clear hmem hur hnx;generalize susTo ls j=st at *;have hb1:=HSO.out.b;cases hbr:bridgeB ls (k:Int)
    ·have HBR:Aside0 (∀W,Below w.heap.size w W→Calls Tryz.prog 54 #[.slice A0 ls.length c,.int .i64 (k:Int)] W fun e w'=>e= .returned (.bool false)∧Below W.heap.size W w'):=⟨fun W hW=>by
      have hq:=isBridgeW A0 c ls k W (Kd.C_below HR.out hW) hc hn HG.out hk;rw[hbr]at hq
      exact hq⟩
     have HLV:Aside0 (∀W,Below w.heap.size w W→Calls Tryz.prog 56 #[.slice A0 ls.length c,.int .i64 (k:Int)] W (LeavePost (less ls k) W)):=⟨fun W hW=>leavingW A0 c ls k W (Kd.C_below HR.out hW) hc hn hk⟩;have HGY:=ak (less_good HG.out k);have hyn:(less ls k).length≤12:=by have:=less_len ls k hk;omega
     rw[hbr,if_neg (by decide)]at HNX;clear hbr;generalize less ls k=y at *;by_cases hb0:st.b<0
     ·have HE:=ak (HNX.out.trans (if_pos (Or.inl hb0)));clear HNX;generalize hsb:st.b=sb at *
      go_wp2_with (first
       |(go_at_call 54;(with_reducible refine(HBR.out _ (HBW.out _ HO.out)).mono ?_);rintro e w6 ⟨rfl,hw⟩;replace H5:=ak (H5.out.keep hw);replace HO:=ak (HO.out.step hw);clear hw)
       |(go_at_call 56;(with_reducible refine(HLV.out _ (HBW.out _ HO.out)).mono ?_);rintro e w7 ⟨gl,cap,rfl,hcl,hC,hw⟩;have HC:=ak hC;replace H5:=ak (H5.out.keep hw);replace HO:=ak (HO.out.step hw);clear hw hC)
       |(go_at_call 55;(with_reducible refine(strainW (some ⟨gl,0,none⟩) cap y _ ?s1 HC.out hcl hyn HGY.out).mono ?_);(case s1=>exact HL.out.keep (HBW.out _ HO.out));rintro e w8 ⟨rfl,hw⟩;replace H5:=ak (H5.out.keep hw);replace HO:=ak (HO.out.step hw);have B8:=below_alloc (Below.refl w8.heap.size w8) (Obj.cells #[Value.int IntKind.i64 (sNum y),Value.int IntKind.i64 (sDen y)] 60);obtain⟨x0,x1,x2,x3⟩:=H5.out.keep B8;have e0:(w8.alloc (Obj.cells #[Value.int IntKind.i64 (sNum y),Value.int IntKind.i64 (sDen y)] 60)).cell? ⟨w8.heap.size,0,none⟩=some (.int .i64 (sNum y)):=(by go_simp);have e1:(w8.alloc (Obj.cells #[Value.int IntKind.i64 (sNum y),Value.int IntKind.i64 (sDen y)] 60)).cell? ⟨w8.heap.size,1,none⟩=some (.int .i64 (sDen y)):=(by go_simp);have H9:=ak (H5.out.keep B8);have HP9:=ak (HO.out.step B8);clear hw B8))
      generalize w8.alloc (Obj.cells #[Value.int IntKind.i64 (sNum y),Value.int IntKind.i64 (sDen y)] 60)=w9 at *
      go_region
      all_goals go_wp2
      all_goals exact⟨⟨j+1,hlt,by go_num,(by rw[HE.out]),(by rw[HE.out];exact⟨(H9.out.put (k:=k) (y:=y)).keep (below_drew1 (Below.refl _ _))⟩),⟨((HP9.out.set _).set _).step (below_drew1 (Below.refl _ _))⟩⟩,qz42⟩
     ·have HSN:ssN st=sNum st.y:=if_neg hb0;have HSD:ssD st=sDen st.y:=if_neg hb0;have HSL:=ak (sless HGY.out hyn (HSO.out.good (by omega)) (HSO.out.len (by omega)));rw[←HSN,←HSD]at HSL;clear HSN HSD;by_cases hcmp:sCmp y st.y= -1
      ·rw[decide_eq_true hcmp]at HSL;have HE:=ak (HNX.out.trans (if_pos (Or.inr hcmp)));clear HNX hcmp;generalize hsb:st.b=sb at *
       go_wp2_with (first
       |(go_at_call 54;(with_reducible refine(HBR.out _ (HBW.out _ HO.out)).mono ?_);rintro e w6 ⟨rfl,hw⟩;replace H5:=ak (H5.out.keep hw);replace HO:=ak (HO.out.step hw);clear hw)
       |(go_at_call 56;(with_reducible refine(HLV.out _ (HBW.out _ HO.out)).mono ?_);rintro e w7 ⟨gl,cap,rfl,hcl,hC,hw⟩;have HC:=ak hC;replace H5:=ak (H5.out.keep hw);replace HO:=ak (HO.out.step hw);clear hw hC)
       |(go_at_call 55;(with_reducible refine(strainW (some ⟨gl,0,none⟩) cap y _ ?s1 HC.out hcl hyn HGY.out).mono ?_);(case s1=>exact HL.out.keep (HBW.out _ HO.out));rintro e w8 ⟨rfl,hw⟩;replace H5:=ak (H5.out.keep hw);replace HO:=ak (HO.out.step hw);have B8:=below_alloc (Below.refl w8.heap.size w8) (Obj.cells #[Value.int IntKind.i64 (sNum y),Value.int IntKind.i64 (sDen y)] 60);obtain⟨x0,x1,x2,x3⟩:=H5.out.keep B8;have e0:(w8.alloc (Obj.cells #[Value.int IntKind.i64 (sNum y),Value.int IntKind.i64 (sDen y)] 60)).cell? ⟨w8.heap.size,0,none⟩=some (.int .i64 (sNum y)):=(by go_simp);have e1:(w8.alloc (Obj.cells #[Value.int IntKind.i64 (sNum y),Value.int IntKind.i64 (sDen y)] 60)).cell? ⟨w8.heap.size,1,none⟩=some (.int .i64 (sDen y)):=(by go_simp);have H9:=ak (H5.out.keep B8);have HP9:=ak (HO.out.step B8);clear hw B8)
       |(go_at_call 62;generalize w8.alloc (Obj.cells #[Value.int IntKind.i64 (sNum y),Value.int IntKind.i64 (sDen y)] 60)=w9 at *;(with_reducible refine(impl_fraction_less.calls _ _ _ _ _ _ HSL.out).mono ?_);rintro e w10 ⟨rfl,hw⟩;replace e0:=Sine.keepc e0 hw;replace e1:=Sine.keepc e1 hw;replace H9:=ak (H9.out.keep hw);replace HP9:=ak (HP9.out.step hw);obtain⟨y0,y1,y2,y3⟩:=H9.out;clear hw x0 x1 x2 x3))
       go_region
       all_goals go_wp2
       all_goals exact⟨⟨j+1,hlt,by go_num,(by rw[HE.out]),(by rw[HE.out];exact⟨(H9.out.put (k:=k) (y:=y)).keep (below_drew1 (Below.refl _ _))⟩),⟨((HP9.out.set _).set _).step (below_drew1 (Below.refl _ _))⟩⟩,qz42⟩
      ·rw[decide_eq_false hcmp]at HSL;have HE:=ak (HNX.out.trans (if_neg (fun e=>e.elim hb0 hcmp)));clear HNX hcmp;generalize hsb:st.b=sb at *
       go_wp2_with (first
       |(go_at_call 54;(with_reducible refine(HBR.out _ (HBW.out _ HO.out)).mono ?_);rintro e w6 ⟨rfl,hw⟩;replace H5:=ak (H5.out.keep hw);replace HO:=ak (HO.out.step hw);clear hw)
       |(go_at_call 56;(with_reducible refine(HLV.out _ (HBW.out _ HO.out)).mono ?_);rintro e w7 ⟨gl,cap,rfl,hcl,hC,hw⟩;have HC:=ak hC;replace H5:=ak (H5.out.keep hw);replace HO:=ak (HO.out.step hw);clear hw hC)
       |(go_at_call 55;(with_reducible refine(strainW (some ⟨gl,0,none⟩) cap y _ ?s1 HC.out hcl hyn HGY.out).mono ?_);(case s1=>exact HL.out.keep (HBW.out _ HO.out));rintro e w8 ⟨rfl,hw⟩;replace H5:=ak (H5.out.keep hw);replace HO:=ak (HO.out.step hw);have B8:=below_alloc (Below.refl w8.heap.size w8) (Obj.cells #[Value.int IntKind.i64 (sNum y),Value.int IntKind.i64 (sDen y)] 60);obtain⟨x0,x1,x2,x3⟩:=H5.out.keep B8;have e0:(w8.alloc (Obj.cells #[Value.int IntKind.i64 (sNum y),Value.int IntKind.i64 (sDen y)] 60)).cell? ⟨w8.heap.size,0,none⟩=some (.int .i64 (sNum y)):=(by go_simp);have e1:(w8.alloc (Obj.cells #[Value.int IntKind.i64 (sNum y),Value.int IntKind.i64 (sDen y)] 60)).cell? ⟨w8.heap.size,1,none⟩=some (.int .i64 (sDen y)):=(by go_simp);have H9:=ak (H5.out.keep B8);have HP9:=ak (HO.out.step B8);clear hw B8)
       |(go_at_call 62;generalize w8.alloc (Obj.cells #[Value.int IntKind.i64 (sNum y),Value.int IntKind.i64 (sDen y)] 60)=w9 at *;(with_reducible refine(impl_fraction_less.calls _ _ _ _ _ _ HSL.out).mono ?_);rintro e w10 ⟨rfl,hw⟩;replace e0:=Sine.keepc e0 hw;replace e1:=Sine.keepc e1 hw;replace H9:=ak (H9.out.keep hw);replace HP9:=ak (HP9.out.step hw);obtain⟨y0,y1,y2,y3⟩:=H9.out;clear hw x0 x1 x2 x3))
       exact⟨⟨j+1,hlt,by go_num,(by rw[HE.out,hsb]),(qx2 H9),HP9⟩,qz42⟩
    ·have HBR:Aside0 (∀W,Below w.heap.size w W→Calls Tryz.prog 54 #[.slice A0 ls.length c,.int .i64 (k:Int)] W fun e w'=>e= .returned (.bool true)∧Below W.heap.size W w'):=⟨fun W hW=>by
      have hq:=isBridgeW A0 c ls k W (Kd.C_below HR.out hW) hc hn HG.out hk;rw[hbr]at hq
      exact hq⟩
     have HE:=ak (HNX.out.trans (if_pos hbr));clear hbr HNX;go_wp2_with (go_at_call 54;(with_reducible refine(HBR.out _ (HBW.out _ HO.out)).mono ?_);rintro e w6 ⟨rfl,hw⟩;replace H5:=ak (H5.out.keep hw);replace HO:=ak (HO.out.step hw);clear hw);exact⟨⟨j+1,hlt,by go_num,(by rw[HE.out]),(qx2 H5),HO⟩,qz42⟩
   ·obtain rfl:j=(usedL ls).length:=by omega
    obtain⟨e1,e2⟩:=HQ.out;have E1:=ak e1;have E2:=ak e2;clear e1 e2 HQ;generalize susTo ls (usedL ls).length=st at *;by_cases hb0:st.b<0
    ·have e1:=E1.out.symm.trans (if_pos hb0);have e2:=E2.out.symm.trans (decide_eq_false (by omega));subst e1;subst e2;clear E1 E2;have hd:decide (0≤st.b)=false:=decide_eq_false (by omega);have hd2:¬0≤st.b:=by omega
     go_wp2;exact bodyPost_ret (v:= .tuple #[.int .i64 0,.bool false]) (by simp[results,Tryz.results14,go_sem,hd,hd2]) rfl ⟨rfl,HBW.out _ HO.out⟩
    ·have e1:=E1.out.symm.trans (if_neg hb0);have e2:=E2.out.symm.trans (decide_eq_true (by omega));subst e1;subst e2;clear E1 E2;have hd:decide (0≤st.b)=true:=decide_eq_true (by omega);have hd2:0≤st.b:=by omega
     go_wp2;exact bodyPost_ret (v:= .tuple #[.int .i64 st.b,.bool true]) (by simp[results,Tryz.results14,go_sem,hd,hd2]) rfl ⟨rfl,HBW.out _ HO.out⟩
end Go.Proofs.YtmgkbhhnchnkcaaGreatDoor.A
namespace Go.Proofs.YtmgkbhhnchnkcaaGreatDoor.A
open Go Go.RowKit YtmgkbhhnchnkcaaGreatDoorW.PrintWords YtmgkbhhnchnkcaaGreatDoorW.PrintLast YtmgkbhhnchnkcaaGreatDoorW.PrintMore
open Net (L Sine.Laid legsB legsB_iff areLegs_ev sNum sDen strainW StrainPost)
def strM(ls:L):Int×Int×Bool:=if legsB ls=true then(sNum ls,sDen ls,true) else(0,0,false)
def impl_StrainOf.f(l0:List (S82)):Option (Int×Int×Bool):=if l0.length≤140737488351232 then some (strM l0) else none
theorem impl_StrainOf.calls(A0:Option Addr)(c:Nat)(ls:List (S82))(r1:Int)(r2:Int)(r3:Bool)(w:World)(hr0:Kd.C k82 w A0 ls.length ls)(hc:ls.length≤c)(h:impl_StrainOf.f ls=some (r1,r2,r3))(hL:Sine.Laid w):
  Calls Tryz.prog 11 #[.slice A0 ls.length c] w fun e w'=>e= .returned (.tuple #[.int .i64 r1,.int .i64 r2,.bool r3])∧Below w.heap.size w w':=by
 unfold impl_StrainOf.f at h;by_cases hb:ls.length≤140737488351232;(case neg=>rw[if_neg hb]at h;cases h);rw[if_pos hb]at h;obtain⟨K,hK⟩:=areLegs_ev ls hb;have HA:=ak (hK K (Nat.le_refl _));have HR:=ak hr0;have HL:=ak hL;have HB:=ak (Below.refl w.heap.size w);clear hK hr0 hL hb;unfold strM at h;cases hv:legsB ls
 ·rw[if_neg (by rw[hv];simp)]at h;simp only[Option.some.injEq,Prod.mk.injEq]at h;obtain⟨rfl,rfl,rfl⟩:=h;rw[hv]at HA;clear hv;go_enter Tryz.func11,Tryz.ntmps11;go_wp2_with (go_at_call 61;(with_reducible refine(impl_areLegs.calls K _ _ ls false _ ?s1 ?s2 HA.out).mono ?_);(case s1=>exact Kd.C_below HR.out qz7);(case s2=>exact hc);rintro e w' ⟨rfl,hw⟩;replace HB:=ak (below_step (show Below w.heap.size w _ from by(repeat(first|exact HB.out|exact Below.refl _ _|apply below_alloc|apply pw_below_drewN|apply below_drew1));done) hw);clear hw);exact bodyPost_ret (v:= .tuple #[.int .i64 0,.int .i64 0,.bool false]) (by simp[results,Tryz.results11,go_sem]) rfl ⟨rfl,(by repeat(first|exact HB.out|apply below_drew1))⟩
 ·rw[hv]at HA;rw[if_pos hv]at h;simp only[Option.some.injEq,Prod.mk.injEq]at h;obtain⟨rfl,rfl,rfl⟩:=h;have hv':=legsB_iff.mp hv;have HG:=ak hv'.1;have hn:=hv'.2;clear hv hv';go_enter Tryz.func11,Tryz.ntmps11
  go_wp2_with (first
   |(go_at_call 61;(with_reducible refine(impl_areLegs.calls K _ _ ls true _ ?s1 ?s2 HA.out).mono ?_);(case s1=>exact Kd.C_below HR.out qz7);(case s2=>exact hc);rintro e w' ⟨rfl,hw⟩;replace HB:=ak (below_step (show Below w.heap.size w _ from by(repeat(first|exact HB.out|exact Below.refl _ _|apply below_alloc|apply pw_below_drewN|apply below_drew1));done) hw);clear hw)
   |(go_at_call 55;(with_reducible refine(strainW A0 c ls _ ?s1 ?s2 hc hn HG.out).mono ?_);(case s1=>exact HL.out.keep qz7);(case s2=>exact Kd.C_below HR.out qz7);rintro e w2 ⟨rfl,hw⟩;replace HB:=ak (below_step (show Below w.heap.size w _ from by(repeat(first|exact HB.out|exact Below.refl _ _|apply below_alloc|apply pw_below_drewN|apply below_drew1));done) hw);clear hw))
  have c0:(w2.alloc (Obj.cells #[Value.int IntKind.i64 (sNum ls),Value.int IntKind.i64 (sDen ls)] 60)).cell? ⟨w2.heap.size,0,none⟩=some (.int .i64 (sNum ls)):=by go_simp
  have c1:(w2.alloc (Obj.cells #[Value.int IntKind.i64 (sNum ls),Value.int IntKind.i64 (sDen ls)] 60)).cell? ⟨w2.heap.size,1,none⟩=some (.int .i64 (sDen ls)):=by go_simp
  replace HB:Aside0 (Below w.heap.size w (w2.alloc (Obj.cells #[Value.int IntKind.i64 (sNum ls),Value.int IntKind.i64 (sDen ls)] 60))):=⟨qz7⟩;generalize w2.alloc (Obj.cells #[Value.int IntKind.i64 (sNum ls),Value.int IntKind.i64 (sDen ls)] 60)=w3 at *
  go_region_held3 (fun w'=>w'.cell? ⟨w2.heap.size,0,none⟩=some (.int .i64 (sNum ls))∧w'.cell? ⟨w2.heap.size,1,none⟩=some (.int .i64 (sDen ls)))
   ((repeat' refine And.intro ?_ ?_)<;>first|assumption|exact Net.Sine.keepc (w:=w3) qz85 qz14)
   (fail)
  all_goals go_wp2
  all_goals exact bodyPost_ret (v:= .tuple #[.int .i64 (sNum ls),.int .i64 (sDen ls),.bool true]) (by simp[results,Tryz.results11,go_sem]) rfl ⟨rfl,qz7⟩
end Go.Proofs.YtmgkbhhnchnkcaaGreatDoor.A
