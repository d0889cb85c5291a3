/- One Lean function and its proof for each Go function that the law reaches, written by a program out of the translation. No conditions. -/
import Derived.Test.YtmgkbhhnchnkcaaGreatDoorKFnFixes5
set_option maxHeartbeats 8000000
set_option maxRecDepth 100000
set_option linter.unusedSimpArgs false
set_option linter.unusedVariables false
namespace Go.Proofs.YtmgkbhhnchnkcaaGreatDoor
open Go.RowKit YtmgkbhhnchnkcaaGreatDoorW.PrintWords YtmgkbhhnchnkcaaGreatDoorW.PrintLast YtmgkbhhnchnkcaaGreatDoorW.PrintMore
namespace A
attribute [local go_sem] max2_int min2_int max_two min_two max_three min_three max_four min_four
def spec_FixLeg.f(k:Nat)(l0:List (S82))(a1:Int)(a2:Int):Option ((List (S82))×Bool):=(spec_l10Can.f k l0 a1 a2).bind fun t1002=>(if t1002=true then((spec_l10Fix.f l0 a1 a2).bind fun t1003=>(some (t1003,true))) else(some ((([]:List (S82))),false)))
theorem spec_FixLeg.calls(k:Nat)(A0:Option Addr)(c0:Nat)(l0:List (S82))(a1:Int)(a2:Int)(r1:List (S82))(r2:Bool)(w:World)(hr0:Kd.C k82 w A0 l0.length l0)(hc0:l0.length≤c0)(h:spec_FixLeg.f k l0 a1 a2=some (r1,r2)):
  Calls Tryz.prog 22 #[.slice A0 l0.length c0,.int .i64 a1,.int .i64 a2] w fun e w'=>∃v0_:Value,e= .returned (.tuple #[v0_,.bool r2])∧Kd.R k82 82 w' w.heap.size (fun _=>True) v0_ r1∧Below w.heap.size w w':=by
 have HR0:=ak hr0;have HC0:=ak hc0;clear hr0 hc0;have HB:=ak (Below.refl w.heap.size w);have H:=h;clear h;unfold spec_FixLeg.f at H;obtain⟨t1002,A4,H⟩:=ob H;(try dsimp only at H);by_cases c5:t1002=true
 ·subst c5;rw[if_pos rfl]at H;obtain⟨t1003,A6,H⟩:=ob H;(try dsimp only at H);simp only[Option.some.injEq,Prod.mk.injEq]at H;obtain⟨rfl,rfl⟩:=H;go_enter Tryz.func22,Tryz.ntmps22;go_wp2_with (first|((with_reducible refine gate_callee (f:=71) rfl ?_);refine gL (some 11) Tryz.func71 #[.slice A0 l0.length c0,.int .i64 a1,.int .i64 a2] ?_;(with_reducible refine(spec_l10Can.calls k _ _ l0 a1 a2 true _ ?side1 ?side2 A4.out).mono ?_);(case side1=>exact qz14);(case side2=>exact HC0.out);rintro e w7 ⟨rfl,hb⟩;refine⟨_,rfl,?_⟩;replace HB:=ak (below_step qz0 hb);clear hb)|((with_reducible refine gate_callee (f:=72) rfl ?_);refine gL (some 17) Tryz.func72 #[.slice A0 l0.length c0,.int .i64 a1,.int .i64 a2] ?_;(with_reducible refine(spec_l10Fix.calls _ _ l0 a1 a2 t1003 _ ?side1 ?side2 A6.out).mono ?_);(case side1=>exact qz17);(case side2=>exact HC0.out);rintro e w8 ⟨v1004,rfl,ho0,hb⟩;refine⟨_,rfl,?_⟩;replace HO1005:=ak (Kd.R_lower ho0 (below_size qz0));replace HB:=ak (below_step qz0 hb);clear hb ho0))
  go_ret2
  exact⟨_,qz5,(qx0 HO1005.out),qz0⟩
 ·replace c5:=Bool.eq_false_iff.mpr c5;subst c5;rw[if_neg nft]at H;obtain⟨y1006,hy1006⟩:∃y_:List (S82),y_=(([]:List (S82))):=⟨_,rfl⟩
  rw[←hy1006]at H;have Ny1006:=ak hy1006;clear hy1006;simp only[Option.some.injEq,Prod.mk.injEq]at H;obtain⟨rfl,rfl⟩:=H;go_enter Tryz.func22,Tryz.ntmps22;go_wp2_with (first|((with_reducible refine gate_callee (f:=71) rfl ?_);refine gL (some 11) Tryz.func71 #[.slice A0 l0.length c0,.int .i64 a1,.int .i64 a2] ?_;(with_reducible refine(spec_l10Can.calls k _ _ l0 a1 a2 false _ ?side1 ?side2 A4.out).mono ?_);(case side1=>exact qz14);(case side2=>exact HC0.out);rintro e w9 ⟨rfl,hb⟩;refine⟨_,rfl,?_⟩;replace HB:=ak (below_step qz0 hb);(try clear hb);(try clear hk))|((with_reducible refine gate_dst (N:=13) rfl ?_);refine Kd.R_lit k82 _ 82 ?hg (N:=13) ?hd (xs:=([]:List (S82))) (inner:=[]) (ok:=fun _=>True) (okp:=fun _=>True) ?hr ?hp (fun _ hk=>hk) trivial (Below.refl _ _) (Nat.le_refl _) (by simp) ?_;(case hd=>rfl);(case hg=>rfl);(case hr=>exact qz16);(case hp=>exact(Reps.none _ _));intro v1007 w10 ho11 hb hg_ hnew_;clear hg_ hnew_;(first|rw[←Ny1006.out]at ho11|(simp only[Int.reduceToNat]at ho11;rw[←Ny1006.out]at ho11));replace HO1008:=ak (Kd.R_lower ho11 (below_size qz0));replace HB:=ak (below_step qz0 hb);clear hb ho11))
  go_ret2
  exact⟨_,qz5,(qx0 HO1008.out),qz0⟩
section
attribute [local go_sem high] eqA82
def laws_vLegs.l0:Nat→List (S82)→List (S82)→Int→Option (Bool)
 |0,_,_,_=>none
 |k+1,x0,x1,x5=>if x5<(x0.length:Int)then(if 0≤x5 then(if x5<(x1.length:Int)then(if(!(((rd_T82 x0 x5).f0)==((rd_T82 x1 x5).f0)) || (!(((rd_T82 x0 x5).f1)==((rd_T82 x1 x5).f1)) || (!(((rd_T82 x0 x5).f2)==((rd_T82 x1 x5).f2)) || (!(((rd_T82 x0 x5).f3)==((rd_T82 x1 x5).f3)) || (!(((rd_T82 x0 x5).f4)==((rd_T82 x1 x5).f4)))))))=true then(some false) else(laws_vLegs.l0 k x0 x1 (wrap64 (x5+1)))) else(none)) else(none)) else(some true)
def laws_vLegs.f(k:Nat)(l0:List (S82))(l1:List (S82)):Option (Bool):=if(l0.length:Int)=(l1.length:Int)then(laws_vLegs.l0 k l0 l1 0) else(some false)
theorem laws_vLegs.calls (k:Nat) (A0:Option Addr) (c0:Nat) (l0:List (S82)) (A1:Option Addr) (c1:Nat) (l1:List (S82)) (r:Bool) (w:World) (hr0:Kd.C k82 w A0 l0.length l0) (hc0:l0.length≤c0) (hr1:Kd.C k82 w A1 l1.length l1) (hc1:l1.length≤c1) (h:laws_vLegs.f k l0 l1=some r):
  Calls Tryz.prog 23 #[.slice A0 l0.length c0,.slice A1 l1.length c1] w fun e w'=>e= .returned (.bool r)∧Drawn0 w w':=by
 have hu82:=Tryz.underlying82;have HR0:=ak hr0;have HC0:=ak hc0;clear hr0 hc0;have HR1:=ak hr1;have HC1:=ak hc1;clear hr1 hc1;have H:=h;clear h;unfold laws_vLegs.f at H;by_cases c3:(l0.length:Int)=(l1.length:Int)
 ·rw [if_pos c3]at H;have c3b0:((l0.length:Int)==(l1.length:Int))=true:=beq_iff_eq.mpr c3;have c3b1:((l0.length:Int) !=(l1.length:Int))=false:=bne_eq_false_iff_eq.mpr c3;have c3b2:(l0.length==l1.length)=true:=by first|simpa using c3|(simp at c3 ⊢;omega)
  clear c3;have H':=ak H;clear H;go_enter Tryz.func23,Tryz.ntmps23;go_wp2
  repeat(go_quiet (fail);try go_wp2)
  go_loopg [5] k (fun kq v5 w'=>∃(x5_1:Int),v5= .int .i64 x5_1∧Aside0 (laws_vLegs.l0 kq l0 l1 x5_1=some r)∧Aside0 (kq≤k)∧Drawn0 w w')
  case atStart=>exact⟨(0),qz4,H',⟨Nat.le_refl _⟩,qz15⟩
  case round=>
   clear H';(try clear c1);(try clear c2);(try clear p2);(try clear c3);(try clear c3b0);(try clear c3b1);(try clear c3b2);obtain⟨x5_1,rfl,HA,HK1,⟨m1,rfl⟩⟩:=hrel
   cases gk with
   |zero=>exact absurd HA.out (by simp[laws_vLegs.l0])
   | succ k1=>
    have H:=HA.out;clear HA;simp only[laws_vLegs.l0]at H;by_cases c4:x5_1<(l0.length:Int)
    ·rw [if_pos c4]at H;have c4b0:decide (x5_1<(l0.length:Int))=true:=decide_eq_true c4;clear c4;by_cases c5:0≤x5_1
     ·rw[if_pos c5]at H;have c5b0:decide (0≤x5_1)=true:=decide_eq_true c5;clear c5;by_cases c6:x5_1<(l1.length:Int)
      ·rw[if_pos c6]at H;have c6b0:decide (x5_1<(l1.length:Int))=true:=decide_eq_true c6;clear c6;by_cases c7:(!(((rd_T82 l0 x5_1).f0)==((rd_T82 l1 x5_1).f0)) || (!(((rd_T82 l0 x5_1).f1)==((rd_T82 l1 x5_1).f1)) || (!(((rd_T82 l0 x5_1).f2)==((rd_T82 l1 x5_1).f2)) || (!(((rd_T82 l0 x5_1).f3)==((rd_T82 l1 x5_1).f3)) || (!(((rd_T82 l0 x5_1).f4)==((rd_T82 l1 x5_1).f4)))))))=true
       ·rw[if_pos c7]at H;have c7b0:(!(((rd_T82 l0 x5_1).f0)==((rd_T82 l1 x5_1).f0)) || (!(((rd_T82 l0 x5_1).f1)==((rd_T82 l1 x5_1).f1)) || (!(((rd_T82 l0 x5_1).f2)==((rd_T82 l1 x5_1).f2)) || (!(((rd_T82 l0 x5_1).f3)==((rd_T82 l1 x5_1).f3)) || (!(((rd_T82 l0 x5_1).f4)==((rd_T82 l1 x5_1).f4)))))))=true:=c7;clear c7;obtain rfl:=Option.some.inj H;have p1009:0≤(x5_1:Int):=of_decide_eq_true qz7;have q1009:x5_1<(l0.length:Int):=of_decide_eq_true qz7;obtain⟨ad1009,e1009,hx1009_0,hx1009_1,hx1009_2,hx1009_3,hx1009_4⟩:=at_T82 HR0.out x5_1 p1009 q1009;cases e1009;replace p1009:=eq_true p1009;replace q1009:=eq_true q1009;have p1010:0≤(x5_1:Int):=of_decide_eq_true qz7;have q1010:x5_1<(l1.length:Int):=of_decide_eq_true qz7;obtain⟨ad1010,e1010,hx1010_0,hx1010_1,hx1010_2,hx1010_3,hx1010_4⟩:=at_T82 HR1.out x5_1 p1010 q1010;cases e1010;replace p1010:=eq_true p1010;replace q1010:=eq_true q1010;go_wp2
        repeat(go_quiet (fail);try go_wp2)
        go_ret;exact⟨qz4,qz15⟩
       ·rw[if_neg c7]at H;have c7b0:(!(((rd_T82 l0 x5_1).f0)==((rd_T82 l1 x5_1).f0)) || (!(((rd_T82 l0 x5_1).f1)==((rd_T82 l1 x5_1).f1)) || (!(((rd_T82 l0 x5_1).f2)==((rd_T82 l1 x5_1).f2)) || (!(((rd_T82 l0 x5_1).f3)==((rd_T82 l1 x5_1).f3)) || (!(((rd_T82 l0 x5_1).f4)==((rd_T82 l1 x5_1).f4)))))))=false:=by simpa using c7
        clear c7;have H':=ak H;clear H;have p1009:0≤(x5_1:Int):=of_decide_eq_true qz7;have q1009:x5_1<(l0.length:Int):=of_decide_eq_true qz7;obtain⟨ad1009,e1009,hx1009_0,hx1009_1,hx1009_2,hx1009_3,hx1009_4⟩:=at_T82 HR0.out x5_1 p1009 q1009;cases e1009;replace p1009:=eq_true p1009;replace q1009:=eq_true q1009;have p1010:0≤(x5_1:Int):=of_decide_eq_true qz7;have q1010:x5_1<(l1.length:Int):=of_decide_eq_true qz7;obtain⟨ad1010,e1010,hx1010_0,hx1010_1,hx1010_2,hx1010_3,hx1010_4⟩:=at_T82 HR1.out x5_1 p1010 q1010;cases e1010;replace p1010:=eq_true p1010;replace q1010:=eq_true q1010;go_wp2
        repeat(go_quiet (fail);try go_wp2)
        go_roundg k1;(case measure=>have:=HK1.out;omega);(case rel=>exact⟨(wrap64 (x5_1+1)),qz4,H',⟨qz51⟩,qz15⟩)
      ·rw[if_neg c6]at H;exact absurd H (by simp)
     ·rw[if_neg c5]at H;exact absurd H (by simp)
    ·rw[if_neg c4]at H;have c4b0:decide (x5_1<(l0.length:Int))=false:=decide_eq_false c4;clear c4;obtain rfl:=Option.some.inj H;go_wp2
     repeat(go_quiet (fail);try go_wp2)
     go_ret;exact⟨qz4,qz15⟩
 ·rw[if_neg c3]at H;have c3b0:((l0.length:Int)==(l1.length:Int))=false:=beq_eq_false_iff_ne.mpr c3;have c3b1:((l0.length:Int) !=(l1.length:Int))=true:=bne_iff_ne.mpr c3;have c3b2:(l0.length==l1.length)=false:=by first|simpa using c3|(simp at c3 ⊢;omega)
  obtain rfl:=Option.some.inj H;go_enter Tryz.func23,Tryz.ntmps23;go_wp2
  repeat(go_quiet (fail);try go_wp2)
  go_ret;exact⟨qz4,qz15⟩
end
def spec_DrawCleanLegs.f(k:Nat)(l0:List Int):Option ((List (S82))):=(spec_DrawStrainOf.f k l0).bind fun t1029=>(some t1029)
theorem spec_DrawCleanLegs.calls(k:Nat)(A0:Option Addr)(c0:Nat)(l0:List Int)(r:List (S82))(w:World)(hr0:Kd.C (Kd.int .u8) w A0 l0.length l0)(hc0:l0.length≤c0)(h:spec_DrawCleanLegs.f k l0=some r):
  Calls Tryz.prog 28 #[.slice A0 l0.length c0] w fun e w'=>∃v0_:Value,e= .returned (v0_)∧Kd.R k82 82 w' w.heap.size (fun _=>True) v0_ r∧Below w.heap.size w w':=by
 have HR0:=ak hr0;have HC0:=ak hc0;clear hr0 hc0;have HB:=ak (Below.refl w.heap.size w);have H:=h;clear h;unfold spec_DrawCleanLegs.f at H;obtain⟨t1029,A2,H⟩:=ob H;(try dsimp only at H);obtain rfl:=Option.some.inj H;go_enter Tryz.func28,Tryz.ntmps28;go_wp2_with (first|((with_reducible refine gate_callee (f:=15) rfl ?_);refine gL (some 4) Tryz.func15 #[.slice A0 l0.length c0] ?_;(with_reducible refine(spec_DrawStrainOf.calls k _ _ l0 t1029 _ ?side1 ?side2 A2.out).mono ?_);(case side1=>exact qz14);(case side2=>exact HC0.out);rintro e w3 ⟨v1030,rfl,ho0,hb⟩;refine⟨_,rfl,?_⟩;replace HO1031:=ak (Kd.R_lower ho0 (below_size qz0));replace HB:=ak (below_step qz0 hb);clear hb ho0));go_ret;exact⟨_,qz5,(qx0 HO1031.out),qz0⟩
end A
end Go.Proofs.YtmgkbhhnchnkcaaGreatDoor
