/- The walk of network.stations: the placed stations in ascending order. -/
import Derived.Test.YtmgkbhhnchnkcaaGreatDoorKFnResidualsU2
set_option maxHeartbeats 8000000
set_option maxRecDepth 100000
set_option linter.unusedSimpArgs false
set_option linter.unusedVariables false
namespace Go.Proofs.YtmgkbhhnchnkcaaGreatDoor
open Go Go.RowKit YtmgkbhhnchnkcaaGreatDoorW.PrintWords YtmgkbhhnchnkcaaGreatDoorW.PrintLast YtmgkbhhnchnkcaaGreatDoorW.PrintMore
namespace Net
open A Plain
open Elim (Mx swp piv pvI)
structure Rgt(W:World)(g n:Nat)(U:Nat→Int):Prop where
  c:∀i:Nat,i<n→W.cell? ⟨g,i,none⟩=some (.int .i64 (wrap64 (U i)))
  f:∀i:Nat,W.frozen? ⟨g,i,none⟩=false
theorem Rgt.set{W:World}{g n:Nat}{U:Nat→Int}(h:Rgt W g n U){i:Nat}(hi:i<n)(v:Int):Rgt (W.setCell ⟨g,i,none⟩ (.int .i64 (wrap64 (wrap64 (U i)+v)))) g n (fun p=>U p+(if p=i then v else 0)):=by
  refine⟨fun p hp=>?_,fun p=>(frz _ _ _).trans (h.f p)⟩;by_cases c:p=i
  · have e:wrap64 (U i+v)=wrap64 (wrap64 (U i)+v):=(wrap_add _ _).symm
    rw[if_pos c,c,e];exact same (h.c i hi)
  · rw[if_neg c,Int.add_zero]
    exact far (h.c p hp) (offne (fun e=>c e.symm))
theorem Rgt.congr{W:World}{g n:Nat}{U U':Nat→Int}(h:Rgt W g n U)(e:∀i,i<n→U' i=U i):Rgt W g n U':=⟨fun i hi=>by rw[e i hi];exact h.c i hi,h.f⟩
theorem Kd.C_set{W:World}{A:Option Addr}{n:Nat}{xs:List Int}(h:Kd.C (Kd.int .i64) W A n xs){g i:Nat}(hf:∀ad,A=some ad→ad.block≠g)(v:Value):Kd.C (Kd.int .i64) (W.setCell ⟨g,i,none⟩ v) A n xs:=
  Kd.C_keep 0 h ⟨(by simp[World.setCell]),fun k _ hk _=>Below.heap_setCell _ _ _ _ hk⟩ (fun ad e _=>hf ad e)
structure LegX(W:World)(X:Nat)(x:S82):Prop where
  x0:W.cell? ⟨X,0,none⟩=some (.int .i64 x.f0)
  x1:W.cell? ⟨X,1,none⟩=some (.int .i64 x.f1)
  x2:W.cell? ⟨X,2,none⟩=some (.int .i64 x.f2)
  x3:W.cell? ⟨X,3,none⟩=some (.int .i64 x.f3)
  x4:W.cell? ⟨X,4,none⟩=some (.int .i64 x.f4)
structure Blk(bm n:Nat)(R:Nat→Nat)(gr lo:Nat)(vA:Option Addr):Prop where
  b:0<n→bm≠gr
  g:∀i,i<n→R i≠gr
  u:∀i,i<n→∀ad,vA=some ad→ad.block≠R i
  ug:∀ad,vA=some ad→ad.block≠gr
  l:lo≤gr
structure SW(w W:World)(bm n:Nat)(R C:Nat→Nat)(gr:Nat)(vA:Option Addr)(used:List Int)(T:Nat→Nat→Int)(U:Nat→Int)(M:Mx):Prop where
  m:0<n→MatAt W bm n R C M w.heap.size
  h:0<n→Hold n (-1) M T (fun _=>0)
  r:Rgt W gr n U
  u:Kd.C (Kd.int .i64) W vA used.length used
  b:Below w.heap.size w W
  gl:gr<W.heap.size
section
variable {w W W':World} {bm n gr:Nat} {R C:Nat→Nat} {vA:Option Addr} {used:List Int} {T T':Nat→Nat→Int} {U U':Nat→Int} {M:Mx}
theorem SW.keep(h:SW w W bm n R C gr vA used T U M)(hb:Below W.heap.size W W'):SW w W' bm n R C gr vA used T U M:=
  ⟨fun h0=>(h.m h0).keep hb,h.h,⟨fun i hi=>Sine.keepc (h.r.c i hi) hb,fun i=>(hb.frozen (p:=⟨gr,i,none⟩) h.gl).trans (h.r.f i)⟩,Kd.C_below h.u hb,below_step h.b hb,Nat.lt_of_lt_of_le h.gl hb.size⟩
theorem SW.setM(h:SW w W bm n R C gr vA used T U M)(hB:Blk bm n R gr w.heap.size vA){i j:Nat}(hi:i<n)(hj:j<n)(v:Int)(hh:Hold n (-1) (fun a b=>if a=i∧b=j then v else M a b) T' (fun _=>0)):
    SW w (W.setCell ⟨R i,j,none⟩ (.int .i64 v)) bm n R C gr vA used T' U (fun a b=>if a=i∧b=j then v else M a b):=
  ⟨fun h0=>(h.m h0).set hi hj v,fun _=>hh,⟨fun p hp=>far (h.r.c p hp) (blkne (hB.g i hi)),fun p=>(frz _ _ _).trans (h.r.f p)⟩,Kd.C_set h.u (hB.u i hi) _,h.b.setCell ((h.m (by omega)).lr i hi) _,(by simpa using h.gl)⟩
theorem SW.setR(h:SW w W bm n R C gr vA used T U M)(hB:Blk bm n R gr w.heap.size vA){i:Nat}(hi:i<n)(v:Int):
    SW w (W.setCell ⟨gr,i,none⟩ (.int .i64 (wrap64 (wrap64 (U i)+v)))) bm n R C gr vA used T (fun p=>U p+(if p=i then v else 0)) M:=
  ⟨fun h0=>⟨fun a ha=>far ((h.m h0).pc a ha) (blkne (fun e=>hB.b h0 e.symm)),fun a b ha hb=>far ((h.m h0).mc a b ha hb) (blkne (fun e=>hB.g a ha e.symm)),fun a ha=>(frz _ _ _).trans ((h.m h0).fp a ha),fun a b ha hb=>(frz _ _ _).trans ((h.m h0).fm a b ha hb),(h.m h0).inj,(h.m h0).ne,(h.m h0).lb,(h.m h0).lr⟩,h.h,h.r.set hi v,Kd.C_set h.u hB.ug _,h.b.setCell hB.l _,(by simpa using h.gl)⟩
theorem SW.congr(h:SW w W bm n R C gr vA used T U M)(hT:∀p q,p<n→q<n→T' p q=T p q)(hU:∀p,p<n→U' p=U p):SW w W bm n R C gr vA used T' U' M:=
  ⟨h.m,fun h0=>(h.h h0).congr hT (fun e=>absurd e (by omega)),h.r.congr hU,h.u,h.b,h.gl⟩
theorem SW.bump(h:SW w W bm n R C gr vA used T U M)(hB:Blk bm n R gr w.heap.size vA){i j:Nat}(hi:i<n)(hj:j<n)(d v:Int)(hv:v=wrap64 (M i j+d)):
    SW w (W.setCell ⟨R i,j,none⟩ (.int .i64 v)) bm n R C gr vA used (fun p q=>T p q+(if(p:Int)=(i:Int)∧(q:Int)=(j:Int)then d else 0)) U (fun a b=>if a=i∧b=j then v else M a b):=by
  refine h.setM hB hi hj v (fun p q hp hq=>?_);have hh:=h.h (by omega);have hq1:¬(q:Int)= -1:=by omega
  rw[if_neg hq1];show(if p=i∧q=j then v else M p q)=_;by_cases c:p=i∧q=j
  · have h2:=hh i j hi hj
    rw[if_neg (show¬(j:Int)= -1 by omega)]at h2;rw[if_pos c,hv,h2,wrap_add,c.1,c.2,if_pos ⟨rfl,rfl⟩]
  · have h2:=hh p q hp hq
    rw[if_neg hq1]at h2;rw[if_neg c,if_neg (show¬((p:Int)=(i:Int)∧(q:Int)=(j:Int)) by omega),Int.add_zero,h2]
theorem SW.setD(h:SW w W bm n R C gr vA used T U M)(hB:Blk bm n R gr w.heap.size vA){i:Nat}(hi:i<n)(d u:Int)(hu:u=wrap64 (wrap64 (U i)+d)):
    SW w (W.setCell ⟨gr,i,none⟩ (.int .i64 u)) bm n R C gr vA used T (fun p=>U p+(if p=i then d else 0)) M:=by
  rw[hu];exact h.setR hB hi d
theorem LegX.keep{x:S82}{X:Nat}(h:LegX W X x)(hb:Below W.heap.size W W'):LegX W' X x:=⟨Sine.keepc h.x0 hb,Sine.keepc h.x1 hb,Sine.keepc h.x2 hb,Sine.keepc h.x3 hb,Sine.keepc h.x4 hb⟩
theorem LegX.far{x:S82}{X:Nat}(h:LegX W X x){r i:Nat}(hX:r≠X)(v:Value):LegX (W.setCell ⟨r,i,none⟩ v) X x:=⟨Net.far h.x0 (blkne hX),Net.far h.x1 (blkne hX),Net.far h.x2 (blkne hX),Net.far h.x3 (blkne hX),Net.far h.x4 (blkne hX)⟩
end
theorem findQ(A:Option Addr)(c:Nat)(un:List Int)(s:Int)(w:World)(hu:Kd.C (Kd.int .i64) w A un.length un)(hc:un.length≤c)(hl:un.length≤8)(m:Nat):
    Calls Tryz.prog 141 #[.slice A un.length c,.int .i64 s] (w.drewN m) fun e w''=>e= .returned (.int .i64 (fnd un s))∧∃q,w''=w.drewN q:=by
  obtain⟨K,hK⟩:=find_ev un s (by omega);exact Calls.quiet_of ((spec_l9Find.calls K A c un s _ (w.drewN m) (Kd.C_drewN hu m) hc (hK K (Nat.le_refl _))).mono fun e w' h=>⟨h.1,(by obtain⟨nd,h2⟩:=h.2;exact⟨nd,h2⟩)⟩)
theorem specMatrixW (A uA:Option Addr) (c uC:Nat) (ls:L) (un used:List Int) (ax col:Int) (K:Nat) (w:World) (hr0:Kd.C k82 w A ls.length ls) (hc0:ls.length≤c) (hu:Kd.C (Kd.int .i64) w uA un.length un) (huc:un.length≤uC) (hU:spec_l9Legs.f K ls=some used) (hg:∀x∈ls,Good x) (hn8:un.length≤8) (hu100:used.length≤100) (hi:∀i∈used,0≤i∧i<(ls.length:Int)) (hax:ax= -1∨(0≤ax∧ax≤2)) (hc:0≤ax→0≤col∧col<(un.length:Int)):
    Calls Tryz.prog 120 #[.slice A ls.length c,.slice uA un.length uC,.int .i64 ax,.int .i64 col] w fun e w'=>∃A2 c2 bm R C,e= .returned (.slice A2 un.length c2)∧(0<un.length→A2=some ⟨bm,0,none⟩∧MatAt w' bm un.length R C (matM ls un used ax (ecol ax col)) w.heap.size)∧Below w.heap.size w w':=by
  have HR0:=ak hr0;have HR1:=ak hu;have HUL:=ak hU;have HB:=ak (Below.refl w.heap.size w);have HI:=ak hi;have HG:=ak hg;have HAX:=ak hax;have HCO:=ak hc;have HZ:Aside0 (∀n:Nat,List.replicate (n:Int).toNat (0:Int)=List.replicate n 0):=⟨fun n=>by rw[Int.toNat_natCast]⟩;clear hr0 hu hU hi hg hax hc;obtain⟨y0,hy0⟩:∃y_:List (List Int),y_=[]:=⟨_,rfl⟩
  have Ny0:=ak hy0;have n0:(0:Int)≤(un.length:Int):=by omega
  have n1:((un.length:Int)).toNat≤35184372088832:=by omega
  go_enter Tryz.func120,Tryz.ntmps120;go_wp2_with ((with_reducible refine gate_dst (N:=18) rfl ?_);refine Kd.S_lit (Kd.slice 3 (Kd.int .i64)) _ 46 ?hg (N:=18) ?hd (xs:=([]:List (List Int))) (inner:=[]) (ok:=fun _=>True) (okp:=fun _=>True) ?hr ?hp (fun _ hk=>hk) trivial (Below.refl _ _) (Nat.le_refl _) (by simp) ?_;(case hd=>rfl);(case hg=>rfl);(case hr=>exact qz17);(case hp=>exact(Reps.none _ _));intro v0 w5 ho hb hg_ hnew_;clear hg_ hnew_;have HO:=ak ho;replace HB:=ak hb;clear ho hb)
  go_loopw [9,10] (fun v9 v10 W=>∃(j:Nat),j≤un.length∧v10= .int .i64 j∧Aside0 (Kd.S (Kd.slice 3 (Kd.int .i64)) 46 W w.heap.size (fun _=>True) v9 (List.replicate j (List.replicate un.length 0)))∧Aside0 (Below w.heap.size w W)) (fun _ v10 _=>un.length-(intOf v10).toNat)
  case atStart=>exact⟨0,Nat.zero_le _,rfl,HO,HB⟩
  case round=>
    obtain⟨j,hj,rfl,HO2,HB2⟩:=hrel;clear HO HB Ny0 hy0;have HO_9:=HO2;have HB:=HB2;clear HO2 HB2;by_cases hlt:j<un.length
    · have j0:(0:Int)≤(j:Int):=by omega
      have j1:(j:Int)<(un.length:Int):=by omega
      obtain⟨x9,hx9⟩:∃x,x=List.replicate j (List.replicate un.length (0:Int)):=⟨_,rfl⟩
      rw[←hx9]at HO_9;have HXL:=ak (show x9.length≤8 from by rw[hx9,List.length_replicate];omega);have HX9:=ak hx9;obtain⟨y,hy⟩:∃y,y=List.replicate un.length (0:Int):=⟨_,rfl⟩
      have NyL:=ak (show y.length=un.length from by rw[hy,List.length_replicate]);have Ny:=ak hy;clear hx9 hy
      go_wp2_with (first
        |((with_reducible refine gate_dst (N:=28) rfl ?_);refine Kd.R_make (Kd.int .i64) _ 3 rfl (N:=28) rfl 46 _ _ rfl (un.length:Int) rfl rfl Tryz.underlying46 (.int .i64 0) 8 info3 rfl (by decide) (by omega) 0 (ok:=fun _=>True) (okp:=fun _=>True) rfl (fun _ hk=>hk) trivial (by omega) (by omega) (Below.refl _ _) (Nat.le_refl _) ?_;intro v225 w11 ho12 hb hg_ hnew_;clear hg_ hnew_;rw[HZ.out,←Ny.out]at ho12;replace HO_9:=ak (Kd.S_elder' HO_9.out (Kd.R_base ho12) hb);replace HO226:=ak (Kd.R_lower ho12 (below_size HB.out));replace HB:=ak (below_step HB.out hb);clear hb ho12;obtain⟨Ao14,co14,eo14⟩:=Kd.R_slice HO226.out;subst eo14)
        |((with_reducible refine gate_builtin (b:= .append) (xs:= #[.tmp 25,.tmp 29]) rfl ?_);at_builtin;refine Kd.S_append (Kd.slice 3 (Kd.int .i64)) (w0:=w) w.heap.size rfl (.tmp 25) (.tmp 29) 115 46 (.slice none 0 0) 24 rfl Tryz.underlying115 infoS rfl (by decide) (by omega) u9 x9 y [.slice Ao14 y.length co14] (fun _=>True) (fun k_=>some k_=(.slice Ao14 y.length co14:Value).ownBlock) rfl rfl ?aP (fun k_ hk_=>((Kd.R_mono (ok':=fun k_=>((fun _=>True)) k_∧some k_≠(u9:Value).ownBlock) (Kd.R_apart' (HO226.out) (Kd.S_typed HO_9.out) (by decide)) (fun k_ hk=>⟨trivial,hk.2⟩))).1 k_ hk_.symm) ?aF ?aO ?aB ?aS ?aL ?_;(case aP=>exact Kd.M_row (Kd.R_mono (Kd.R_tight rfl (Kd.R_mono (ok':=fun k_=>((fun _=>True)) k_∧some k_≠(u9:Value).ownBlock) (Kd.R_apart' (HO226.out) (Kd.S_typed HO_9.out) (by decide)) (fun k_ hk=>⟨trivial,hk.2⟩))) (fun _ h_=>h_)));(case aB=>exact HB.out);(case aF=>exact(fun _ _=>trivial));(case aO=>exact Kd.S_mono HO_9.out (fun k_ hk=>⟨trivial,fun e_=>hk.2 e_⟩));(case aS=>exact below_size HB.out);(case aL=>have:=HXL.out;omega);intro v228 w13 ho hb hg hat;rw[HX9.out,Ny.out,←List.replicate_succ']at ho;replace HB:=ak hb;replace HO229:=ak ho;clear HO_9 HO226 ho hb hg hat))
      exact⟨⟨j+1,by omega,by go_num,HO229,HB⟩,qz41⟩
    · obtain rfl:j=un.length:=by omega
      have hsl:=Kd.S_slice HO_9.out;rw[List.length_replicate]at hsl;obtain⟨A2,c2,eA⟩:=hsl;subst eA
      have hmm:∃bm R C,0<un.length→A2=some ⟨bm,0,none⟩∧MatAt wr bm un.length R C (fun _ _=>0) w.heap.size:=by
        by_cases hz:0<un.length
        · obtain⟨g,cap,e,_,_,_⟩:=Kd.S_form HO_9.out (by rw[List.length_replicate];exact hz)
          rw[List.length_replicate]at e;injection e with e1 e2 e3
          subst e1;subst e3;obtain⟨R,C,hM⟩:=MatAt.of_S HO_9.out (sq_zero un.length).1 (sq_zero un.length).2 hz;exact⟨g,R,C,fun _=>⟨rfl,hM.congr (fun i j _ _=>(mx_zero un.length i j).symm)⟩⟩
        · exact⟨0,fun _=>0,fun _=>0,fun h=>absurd h hz⟩
      obtain⟨bm,R,C,hmm⟩:=hmm;have HA2:=ak (fun h=>(hmm h).1);have HM:=ak (fun h=>(hmm h).2);clear hmm HO_9;have hmk:=fun W=>makeInts un.length (by omega) W
      go_wp2_with (first
        |(go_at_call 64;(with_reducible refine(spec_l9Legs.calls K A c ls used _ ?s1 hc0 HUL.out).mono ?_);(case s1=>exact Kd.C_below HR0.out HB.out);rintro e w6 ⟨vu,rfl,hq,hw⟩;have HQB:=ak (Kd.R_base hq);have HQL:=ak (Kd.R_lt hq);obtain⟨vA,vC,ev⟩:=Kd.R_slice hq;subst ev;have HQ:=ak (Kd.R_reads' hq).2.2;have HQC:=(Kd.R_reads' hq).2.1;have HM6:=ak (fun h=>(HM.out h).keep hw);have HB6:=ak (below_step HB.out hw);have HRL:=ak (show∀i,i<un.length→R i<wr.heap.size from fun i hi=>World.block_lt_of_cell? wr _ ((HM.out (by omega)).mc i 0 hi (by omega)));clear hq hw)
        |(rw[hmk]))
      have B1:=below_alloc (Below.refl w6.heap.size w6) (Obj.cells (madeCells #[.int .i64 0] un.length) 3);have HBK:=ak (show Blk bm un.length R w6.heap.size w.heap.size vA from⟨fun h=>((HM6.out h).fresh h).1,fun i hi=>((HM6.out (by omega)).fresh (by omega)).2 i hi,fun i hi ad e=>by have h1:=HQB.out ad.block (by rw[e];rfl);have h2:=HRL.out i hi;omega,fun ad e=>by have h1:=HQL.out ad.block (by rw[e];rfl);omega,below_size HB6.out⟩)
      have HS:Aside0 (SW w (w6.alloc (Obj.cells (madeCells #[.int .i64 0] un.length) 3)) bm un.length R C w6.heap.size vA used (lapT ls un (used.take 0)) (fun i=>if 0≤ax then rgtT ls un (used.take 0) ax i else 0) (fun _ _=>0)):=⟨by
        refine⟨fun h=>(HM6.out h).keep B1,fun _ p q _ _=>?_,⟨fun i hi=>?_,fun i=>by go_simp⟩,Kd.C_below HQ.out B1,below_step HB6.out B1,by simp⟩
        · rw[List.take_zero];show(0:Int)=if(q:Int)= -1 then wrap64 0 else wrap64 0;rw[w64 (by omega) (by omega)];split<;>rfl
        · have e:wrap64 (if 0≤ax then rgtT ls un (used.take 0) ax i else 0)=0:=by
            rw[List.take_zero];split
            · show wrap64 0=0;exact w64 (by omega) (by omega)
            · exact w64 (by omega) (by omega)
          rw[e];go_simp
          simp[madeCells,hi,Nat.mod_one]⟩
      clear HM6 HB6 HQ HQB HQL HRL HM HB B1 hmk;generalize w6.alloc (Obj.cells (madeCells #[.int .i64 0] un.length) 3)=W1 at *;generalize w6.heap.size=gr at *
      go_loopw [13] (fun v13 W=>∃(j:Nat) (M:Mx),j≤used.length∧v13= .int .i64 j∧Aside0 (SW w W bm un.length R C gr vA used (lapT ls un (used.take j)) (fun i=>if 0≤ax then rgtT ls un (used.take j) ax i else 0) M)) (fun v13 _=>used.length-(intOf v13).toNat)
      case atStart=>exact⟨0,_,Nat.zero_le _,rfl,HS⟩
      case round=>
        obtain⟨j,M,hj,rfl,HS2⟩:=hrel;clear HS;have HS:=HS2;clear HS2;by_cases hlt:j<used.length
        · have j0:(0:Int)≤(j:Int):=by omega
          have j1:(j:Int)<(used.length:Int):=by omega
          obtain⟨ad,e1,h1⟩:=Kd.at_int HS.out.u (j:Int) j0 j1;subst e1;rw[Int.toNat_natCast,rd_get used j hlt]at h1;have hin:=HI.out _ (List.getElem_mem hlt);have HH2:Aside0 (∀p q,lapT ls un (used.take (j+1)) p q=lapT ls un (used.take j) p q+lapD (fnd un (leg ls used[j]).f0) (fnd un (leg ls used[j]).f1) p q):=⟨fun p q=>by unfold lapT;rw[tot_take _ _ _ hlt]⟩;have HR2:Aside0 (∀p,rgtT ls un (used.take (j+1)) ax p=rgtT ls un (used.take j) ax p+rgtD (fnd un (leg ls used[j]).f0) (fnd un (leg ls used[j]).f1) (meas ls ax used[j]) p):=⟨fun p=>by unfold rgtT;rw[tot_take _ _ _ hlt]⟩;obtain⟨kn,hkn⟩:=Int.eq_ofNat_of_zero_le hin.1;unfold meas at HR2;rw[hkn]at h1 HH2 HR2 hin;have k1:(kn:Int)<(ls.length:Int):=hin.2;have k0:(0:Int)≤(kn:Int):=hin.1;obtain⟨la,e2,g0,g1,g2,g3,g4⟩:=at_T82 (Kd.C_below HR0.out HS.out.b) (kn:Int) k0 k1;cases e2;rw[Int.toNat_natCast]at g0 g1 g2 g3 g4;have HX:Aside0 (Good (leg ls (kn:Int))):=⟨leg_good HG.out kn (by omega)⟩;have ek:rd_T82 ls (kn:Int)=leg ls kn:=rfl;rw[ek]at g0 g1 g2 g3 g4;generalize leg ls (kn:Int)=x at *;clear hin hkn ek
          go_upto_region 12 with fail
          have B1:=below_alloc (Below.refl wr.heap.size wr) (Obj.cells #[Value.int IntKind.i64 x.f0,Value.int IntKind.i64 x.f1,Value.int IntKind.i64 x.f2,Value.int IntKind.i64 x.f3,Value.int IntKind.i64 x.f4] 82);have HX1:Aside0 (LegX (wr.alloc (Obj.cells #[Value.int IntKind.i64 x.f0,Value.int IntKind.i64 x.f1,Value.int IntKind.i64 x.f2,Value.int IntKind.i64 x.f3,Value.int IntKind.i64 x.f4] 82)) wr.heap.size x):=⟨⟨by go_simp,by go_simp,by go_simp,by go_simp,by go_simp⟩⟩;have HF:=ak (show gr≠wr.heap.size∧∀i,i<un.length→R i≠wr.heap.size from⟨Nat.ne_of_lt HS.out.gl,fun i hi=>((HS.out.m (by omega)).fresh (by omega)).2 i hi⟩);have HS1:=ak (HS.out.keep B1);have d0:=HX1.out.x0;have d1:=HX1.out.x1;clear HS B1 g0 g1 g2 g3 g4 h1;generalize wr.alloc (Obj.cells #[Value.int IntKind.i64 x.f0,Value.int IntKind.i64 x.f1,Value.int IntKind.i64 x.f2,Value.int IntKind.i64 x.f3,Value.int IntKind.i64 x.f4] 82)=W2 at *;generalize wr.heap.size=X at *;have q1:=findQ uA uC un x.f0 W2 (Kd.C_below HR1.out HS1.out.b) huc hn8;have q2:=findQ uA uC un x.f1 W2 (Kd.C_below HR1.out HS1.out.b) huc hn8
          go_quiet (first|(go_at_call 141;with_reducible exact q1 _)|(go_at_call 141;with_reducible exact q2 _))
          have HS2:=ak (HS1.out.keep (pw_below_drewN (Below.refl W2.heap.size W2) nq));have HX2:=ak (HX1.out.keep (pw_below_drewN (Below.refl W2.heap.size W2) nq));clear HS1 HX1 q1 q2 d0 d1;generalize W2.drewN nq=W3 at *;have ra:=fnd_range un x.f0;have rb:=fnd_range un x.f1;generalize fnd un x.f0=a at *;generalize fnd un x.f1=b at *;generalize lapT ls un (List.take j used)=T0 at *
          have HU2:Aside0 (∀p:Nat,(if 0≤ax then rgtT ls un (used.take (j+1)) ax p else 0)=(if 0≤ax then rgtT ls un (used.take j) ax p else 0)+(if 0≤ax then rgtD a b (onM (shift x) ax) p else 0)):=⟨fun p=>by
            by_cases c:0≤ax
            · rw[if_pos c,if_pos c,if_pos c,HR2.out]
            · rw[if_neg c,if_neg c,if_neg c];omega⟩
          clear HR2
          obtain⟨U0,hU0⟩:∃U:Nat→Int,U=fun i=>if 0≤ax then rgtT ls un (List.take j used) ax i else 0:=⟨_,rfl⟩
          have HU0:=ak (show∀p,(if 0≤ax then rgtT ls un (List.take j used) ax p else 0)=U0 p from fun p=>by rw[hU0]);rw[←hU0]at HS2;clear hU0;have HS0:=HS2;have HL0:=HX2;clear HS2 HX2
          go_upto_if 58 with fail
          go_cut [] (fun W=>∃M',Aside0 (SW w W bm un.length R C gr (some ad) used (fun p q=>T0 p q+(if(p:Int)=a∧(q:Int)=a then 1 else 0)) (U0) M')∧Aside0 (LegX W X x))
          case first=>
            by_cases hc:a≥0
            · have hA:=HA2.out (by omega)
              subst hA;obtain⟨aN,rfl⟩:=Int.eq_ofNat_of_zero_le hc;have haN:aN<un.length:=by omega
              have i0:(0:Int)≤(aN:Int):=by omega
              have i1:(aN:Int)<(un.length:Int):=by omega
              go_wp2_with fail;have hSd:=HS0.out.keep (below_drew1 (Below.refl W3.heap.size W3));have hLd:=HL0.out.keep (below_drew1 (Below.refl W3.heap.size W3));have p1:=(hSd.m (by omega)).pc aN haN;have p2:=(hSd.m (by omega)).mc aN aN haN haN;have p3:=(hSd.m (by omega)).fm aN aN haN haN;have HSn:=ak (hSd.bump HBK.out haN haN (1) (wrap64 (M aN aN+1)) rfl);have HLn:=ak (hLd.far (i:=aN) (HF.out.2 aN haN) (.int .i64 (wrap64 (M aN aN+1))));clear hSd hLd;refine start_ (n:=15) (S:=fun w'=>w'.cell? ⟨bm,aN,none⟩=some (.slice (some ⟨R aN,0,none⟩) un.length (C aN))∧w'.cell? ⟨R aN,aN,none⟩=some (.int .i64 (M aN aN))) (ds:=[14]) #[false,false,false,false,false,false,false,false,false,false,false,false,false,false,false] qz37 rfl rfl ⟨p1,p2⟩ (fun hHeld=>?_);generalize W3.drew=Wd at HSn HLn p1 p2 p3 hHeld ⊢;refine pY 0 (some 59) (bz 15 1) ?_;refine pY 1 (some 60) (bz 15 3) ?_;refine pY 2 (some 61) (bz 15 7) ?_;refine pY 4 (some 63) (bz 15 23) ?_;refine pY 5 (some 64) (bz 15 55) ?_;refine pY 6 (some 65) (bz 15 119) ?_;refine pY 7 (some 66) (bz 15 247) ?_;refine pY 9 (some 68) (bz 15 759) ?_;refine tZ6 3 (some 62) (bz 15 767) ?_;refine tZ6 8 (some 67) (bz 15 1023) ?_;refine pY 10 (some 69) (bz 15 2047) ?_;refine tZ6 11 (some 70) (bz 15 4095) ?_;refine pY 12 (some 71) (bz 15 8191) ?_;refine pY 13 (some 72) (bz 15 16383) ?_;refine last_ (i:=14) (N:=none) #[true,true,true,true,true,true,true,true,true,true,true,true,true,true,true] rfl rfl qz37 (by decide) (fun K hK=>?_);refine skip_ (w1:=?_) (by rfl) rfl ?_ ?_;rotate_left
              · go_simp
                rfl
              refine hK.out _ _ ?_;clear hK K;refine done_ qz37 ?_;(try go_wp2);go_meet;(case rel=>exact⟨_,HSn,HLn⟩)
            · have HSn:=ak (HS0.out.congr (T':=fun p q=>T0 p q+(if(p:Int)=a∧(q:Int)=a then 1 else 0)) (fun p q hp hq=>by rw[if_neg (show¬((p:Int)=a∧(q:Int)=a) by omega),Int.add_zero]) (fun _ _=>rfl))
              go_wp2;go_meet;(case rel=>exact⟨_,HSn,HL0⟩)
          case rest=>
          obtain⟨M1,HS1,HL1⟩:=hcut;clear HS0 HL0;generalize wc=W5 at *
          go_upto_if 74 with fail
          go_cut [] (fun W=>∃M',Aside0 (SW w W bm un.length R C gr (some ad) used (fun p q=>T0 p q+(if(p:Int)=a∧(q:Int)=a then 1 else 0)+(if(p:Int)=b∧(q:Int)=b then 1 else 0)) (U0) M')∧Aside0 (LegX W X x))
          case first=>
            by_cases hc:b≥0
            · have hA:=HA2.out (by omega)
              subst hA;obtain⟨bN,rfl⟩:=Int.eq_ofNat_of_zero_le hc;have hbN:bN<un.length:=by omega
              have i0:(0:Int)≤(bN:Int):=by omega
              have i1:(bN:Int)<(un.length:Int):=by omega
              go_wp2_with fail;have hSd:=HS1.out.keep (below_drew1 (Below.refl W5.heap.size W5));have hLd:=HL1.out.keep (below_drew1 (Below.refl W5.heap.size W5));have p1:=(hSd.m (by omega)).pc bN hbN;have p2:=(hSd.m (by omega)).mc bN bN hbN hbN;have p3:=(hSd.m (by omega)).fm bN bN hbN hbN;have HSn:=ak (hSd.bump HBK.out hbN hbN (1) (wrap64 (M1 bN bN+1)) rfl);have HLn:=ak (hLd.far (i:=bN) (HF.out.2 bN hbN) (.int .i64 (wrap64 (M1 bN bN+1))));clear hSd hLd;refine start_ (n:=15) (S:=fun w'=>w'.cell? ⟨bm,bN,none⟩=some (.slice (some ⟨R bN,0,none⟩) un.length (C bN))∧w'.cell? ⟨R bN,bN,none⟩=some (.int .i64 (M1 bN bN))) (ds:=[14]) #[false,false,false,false,false,false,false,false,false,false,false,false,false,false,false] qz37 rfl rfl ⟨p1,p2⟩ (fun hHeld=>?_);generalize W5.drew=Wd at HSn HLn p1 p2 p3 hHeld ⊢;refine pY 0 (some 75) (bz 15 1) ?_;refine pY 1 (some 76) (bz 15 3) ?_;refine pY 2 (some 77) (bz 15 7) ?_;refine pY 4 (some 79) (bz 15 23) ?_;refine pY 5 (some 80) (bz 15 55) ?_;refine pY 6 (some 81) (bz 15 119) ?_;refine pY 7 (some 82) (bz 15 247) ?_;refine pY 9 (some 84) (bz 15 759) ?_;refine tZ6 3 (some 78) (bz 15 767) ?_;refine tZ6 8 (some 83) (bz 15 1023) ?_;refine pY 10 (some 85) (bz 15 2047) ?_;refine tZ6 11 (some 86) (bz 15 4095) ?_;refine pY 12 (some 87) (bz 15 8191) ?_;refine pY 13 (some 88) (bz 15 16383) ?_;refine last_ (i:=14) (N:=none) #[true,true,true,true,true,true,true,true,true,true,true,true,true,true,true] rfl rfl qz37 (by decide) (fun K hK=>?_);refine skip_ (w1:=?_) (by rfl) rfl ?_ ?_;rotate_left
              · go_simp
                rfl
              refine hK.out _ _ ?_;clear hK K;refine done_ qz37 ?_;(try go_wp2);go_meet;(case rel=>exact⟨_,HSn,HLn⟩)
            · have HSn:=ak (HS1.out.congr (T':=fun p q=>T0 p q+(if(p:Int)=a∧(q:Int)=a then 1 else 0)+(if(p:Int)=b∧(q:Int)=b then 1 else 0)) (fun p q hp hq=>by rw[if_neg (show¬((p:Int)=b∧(q:Int)=b) by omega),Int.add_zero]) (fun _ _=>rfl))
              go_wp2;go_meet;(case rel=>exact⟨_,HSn,HL1⟩)
          case rest=>
          obtain⟨M2,HS2,HL2⟩:=hcut;clear HS1 HL1;generalize wc=W6 at *;obtain⟨bc,hbc⟩:∃b_,b_=decide (0≤a∧0≤b):=⟨_,rfl⟩
          have Hbc:=ak hbc;clear hbc
          go_upto_region 17 with fail
          go_cut [94] (fun v W=>v= .bool bc∧W=W6)
          case first=>
            by_cases h1:0≤a
            · by_cases h2:0≤b
              · have hde:=ak (show bc=true from Hbc.out.trans (decide_eq_true ⟨h1,h2⟩))
                go_wp2;go_meet;(case rel=>exact⟨qz81,rfl⟩)
              · have hde:=ak (show bc=false from Hbc.out.trans (decide_eq_false (fun e=>h2 e.2)))
                go_wp2;go_meet;(case rel=>exact⟨qz81,rfl⟩)
            · have hde:=ak (show bc=false from Hbc.out.trans (decide_eq_false (fun e=>h1 e.1)))
              go_wp2;go_meet;(case rel=>exact⟨qz81,rfl⟩)
          case rest=>
          obtain⟨rfl,rfl⟩:=hcut;generalize wc=W8 at *
          go_upto_if 94 with fail
          go_cut [] (fun W=>∃M',Aside0 (SW w W bm un.length R C gr (some ad) used (fun p q=>T0 p q+lapD a b p q) (U0) M')∧Aside0 (LegX W X x))
          case first=>
            cases bc with
            | true=>
              have hc:=of_decide_eq_true Hbc.out.symm;have hA:=HA2.out (by omega);subst hA;obtain⟨aN,rfl⟩:=Int.eq_ofNat_of_zero_le hc.1;have haN:aN<un.length:=by omega
              have i0:(0:Int)≤(aN:Int):=by omega
              have i1:(aN:Int)<(un.length:Int):=by omega
              obtain⟨bN,rfl⟩:=Int.eq_ofNat_of_zero_le hc.2;have hbN:bN<un.length:=by omega
              have j0:(0:Int)≤(bN:Int):=by omega
              have j1:(bN:Int)<(un.length:Int):=by omega
              clear hc;go_wp2_with fail;have hSd:=HS2.out.keep (below_drew1 (Below.refl W8.heap.size W8));have hLd:=HL2.out.keep (below_drew1 (Below.refl W8.heap.size W8));have p1:=(hSd.m (by omega)).pc aN haN;have p2:=(hSd.m (by omega)).mc aN bN haN hbN;have p3:=(hSd.m (by omega)).fm aN bN haN hbN;have HSn:=ak (hSd.bump HBK.out haN hbN (-1) (wrap64 (M2 aN bN-1)) (by rw[Int.sub_eq_add_neg]));have HLn:=ak (hLd.far (i:=bN) (HF.out.2 aN haN) (.int .i64 (wrap64 (M2 aN bN-1))));clear hSd hLd;refine start_ (n:=15) (S:=fun w'=>w'.cell? ⟨bm,aN,none⟩=some (.slice (some ⟨R aN,0,none⟩) un.length (C aN))∧w'.cell? ⟨R aN,bN,none⟩=some (.int .i64 (M2 aN bN))) (ds:=[14]) #[false,false,false,false,false,false,false,false,false,false,false,false,false,false,false] qz37 rfl rfl ⟨p1,p2⟩ (fun hHeld=>?_);generalize W8.drew=Wd at HSn HLn p1 p2 p3 hHeld ⊢;refine pY 0 (some 95) (bz 15 1) ?_;refine pY 1 (some 96) (bz 15 3) ?_;refine pY 2 (some 97) (bz 15 7) ?_;refine pY 4 (some 99) (bz 15 23) ?_;refine pY 5 (some 100) (bz 15 55) ?_;refine pY 6 (some 101) (bz 15 119) ?_;refine pY 7 (some 102) (bz 15 247) ?_;refine pY 9 (some 104) (bz 15 759) ?_;refine tZ6 3 (some 98) (bz 15 767) ?_;refine tZ6 8 (some 103) (bz 15 1023) ?_;refine pY 10 (some 105) (bz 15 2047) ?_;refine tZ6 11 (some 106) (bz 15 4095) ?_;refine pY 12 (some 107) (bz 15 8191) ?_;refine pY 13 (some 108) (bz 15 16383) ?_;refine last_ (i:=14) (N:=none) #[true,true,true,true,true,true,true,true,true,true,true,true,true,true,true] rfl rfl qz37 (by decide) (fun K hK=>?_);refine skip_ (w1:=?_) (by rfl) rfl ?_ ?_;rotate_left
              · go_simp
                rfl
              refine hK.out _ _ ?_;clear hK K;refine done_ qz37 ?_;obtain⟨M21,HS21⟩:=(show∃M',Aside0 (SW w (Wd.setCell ⟨R aN,bN,none⟩ (.int .i64 (wrap64 (M2 aN bN-1)))) bm un.length R C gr (some ad) used _ U0 M')from⟨_,HSn⟩);have HL21:=HLn;clear HSn HLn p1 p2 p3 HS2 HL2;generalize Wd.setCell ⟨R aN,bN,none⟩ (.int .i64 (wrap64 (M2 aN bN-1)))=W9 at *;go_wp2_with fail;have hSd:=HS21.out.keep (below_drew1 (Below.refl W9.heap.size W9));have hLd:=HL21.out.keep (below_drew1 (Below.refl W9.heap.size W9));have p1:=(hSd.m (by omega)).pc bN hbN;have p2:=(hSd.m (by omega)).mc bN aN hbN haN;have p3:=(hSd.m (by omega)).fm bN aN hbN haN;have HSn:=ak (hSd.bump HBK.out hbN haN (-1) (wrap64 (M21 bN aN-1)) (by rw[Int.sub_eq_add_neg]));have HLn:=ak (hLd.far (i:=aN) (HF.out.2 bN hbN) (.int .i64 (wrap64 (M21 bN aN-1))));clear hSd hLd;refine start_ (n:=15) (S:=fun w'=>w'.cell? ⟨bm,bN,none⟩=some (.slice (some ⟨R bN,0,none⟩) un.length (C bN))∧w'.cell? ⟨R bN,aN,none⟩=some (.int .i64 (M21 bN aN))) (ds:=[14]) #[false,false,false,false,false,false,false,false,false,false,false,false,false,false,false] qz37 rfl rfl ⟨p1,p2⟩ (fun hHeld=>?_);generalize W9.drew=Wd at HSn HLn p1 p2 p3 hHeld ⊢;refine pY 0 (some 109) (bz 15 1) ?_;refine pY 1 (some 110) (bz 15 3) ?_;refine pY 2 (some 111) (bz 15 7) ?_;refine pY 4 (some 113) (bz 15 23) ?_;refine pY 5 (some 114) (bz 15 55) ?_;refine pY 6 (some 115) (bz 15 119) ?_;refine pY 7 (some 116) (bz 15 247) ?_;refine pY 9 (some 118) (bz 15 759) ?_;refine tZ6 3 (some 112) (bz 15 767) ?_;refine tZ6 8 (some 117) (bz 15 1023) ?_;refine pY 10 (some 119) (bz 15 2047) ?_;refine tZ6 11 (some 120) (bz 15 4095) ?_;refine pY 12 (some 121) (bz 15 8191) ?_;refine pY 13 (some 122) (bz 15 16383) ?_;refine last_ (i:=14) (N:=none) #[true,true,true,true,true,true,true,true,true,true,true,true,true,true,true] rfl rfl qz37 (by decide) (fun K hK=>?_);refine skip_ (w1:=?_) (by rfl) rfl ?_ ?_;rotate_left
              · go_simp
                rfl
              refine hK.out _ _ ?_;clear hK K;refine done_ qz37 ?_;have HSm:=ak (HSn.out.congr (T':=fun p q=>T0 p q+lapD (aN:Int) (bN:Int) p q) (fun p q hp hq=>by unfold lapD;omega) (fun _ _=>rfl));(try go_wp2);go_meet;(case rel=>exact⟨_,HSm,HLn⟩)
            | false=>
              have hc:=of_decide_eq_false Hbc.out.symm;have HSm:=ak (HS2.out.congr (T':=fun p q=>T0 p q+lapD a b p q) (fun p q hp hq=>by unfold lapD;omega) (fun _ _=>rfl));clear hc;go_wp2;go_meet;(case rel=>exact⟨_,HSm,HL2⟩)
          case rest=>
          obtain⟨M3,HS3,HL3⟩:=hcut;clear HS2 HL2 Hbc;generalize wc=W10 at *;have HV:=ak (fun h0=>measure_eq x HX.out ax h0 (by have:=HAX.out;omega));obtain⟨v,hv⟩:∃v,v=onM (shift x) ax:=⟨_,rfl⟩
          rw[←hv]at HU2 HV;clear hv;obtain⟨UU3,hUU3⟩:∃U:Nat→Int,U=fun p=>U0 p+(if 0≤ax∧(p:Int)=a then -v else 0):=⟨_,rfl⟩
          have HU3:=ak (show∀p:Nat,UU3 p=U0 p+(if 0≤ax∧(p:Int)=a then -v else 0)from fun p=>by rw[hUU3]);clear hUU3;obtain⟨bd,hbd⟩:∃b_,b_=decide (0≤ax∧0≤a):=⟨_,rfl⟩
          have Hbd:=ak hbd;clear hbd
          go_upto_region 20 with fail
          go_cut [128] (fun v W=>v= .bool bd∧W=W10)
          case first=>
            by_cases h1:0≤ax
            · by_cases h2:0≤a
              · have hde:=ak (show bd=true from Hbd.out.trans (decide_eq_true ⟨h1,h2⟩))
                go_wp2;go_meet;(case rel=>exact⟨qz81,rfl⟩)
              · have hde:=ak (show bd=false from Hbd.out.trans (decide_eq_false (fun e=>h2 e.2)))
                go_wp2;go_meet;(case rel=>exact⟨qz81,rfl⟩)
            · have hde:=ak (show bd=false from Hbd.out.trans (decide_eq_false (fun e=>h1 e.1)))
              go_wp2;go_meet;(case rel=>exact⟨qz81,rfl⟩)
          case rest=>
          obtain⟨rfl,rfl⟩:=hcut;generalize wc=W11 at *
          go_upto_if 128 with fail
          go_cut [] (fun W=>∃M',Aside0 (SW w W bm un.length R C gr (some ad) used (fun p q=>T0 p q+lapD a b p q) UU3 M')∧Aside0 (LegX W X x))
          case first=>
            cases bd with
            | true=>
              have hc:=of_decide_eq_true Hbd.out.symm;have hm:=HV.out hc.1;have hax0:=hc.1;obtain⟨aN,rfl⟩:=Int.eq_ofNat_of_zero_le hc.2;have haN:aN<un.length:=by omega
              have i0:(0:Int)≤(aN:Int):=by omega
              have i1:(aN:Int)<(un.length:Int):=by omega
              clear hc;go_wp2_with fail;have r0:=HS3.out.r.c aN haN;have r1:=HS3.out.r.f aN;have x0:=HL3.out.x0;have x1:=HL3.out.x1;have x2:=HL3.out.x2;have x3:=HL3.out.x3;have x4:=HL3.out.x4;refine start_ (n:=12) (S:=fun w'=>w'.cell? ⟨gr,aN,none⟩=some (.int .i64 (wrap64 (U0 aN)))∧w'.cell? ⟨X,0,none⟩=some (.int .i64 x.f0)∧w'.cell? ⟨X,1,none⟩=some (.int .i64 x.f1)∧w'.cell? ⟨X,2,none⟩=some (.int .i64 x.f2)∧w'.cell? ⟨X,3,none⟩=some (.int .i64 x.f3)∧w'.cell? ⟨X,4,none⟩=some (.int .i64 x.f4)) (ds:=[11]) #[false,false,false,false,false,false,false,false,false,false,false,false] qz37 rfl rfl ⟨r0,x0,x1,x2,x3,x4⟩ (fun hHeld=>?_);refine pY 0 (some 129) (bz 12 1) ?_;refine pY 1 (some 130) (bz 12 3) ?_;refine pY 2 (some 131) (bz 12 7) ?_;refine pY 3 (some 132) (bz 12 15) ?_;refine pY 4 (some 133) (bz 12 31) ?_;refine pY 7 (some 136) (bz 12 159) ?_;refine tZ7 5 (some 134) (bz 12 191) ?_;refine tZ7 6 (some 135) (bz 12 255) ?_;refine oY 8 (some 137) (bz 12 511) (fun K hK=>?_);refine goes_ Tryz.func122 qz37 rfl #[.agg #[.int .i64 x.f0,.int .i64 x.f1,.int .i64 x.f2,.int .i64 x.f3,.int .i64 x.f4],.int .i64 ax] (by rfl) rfl rfl qz63 ?_;(with_reducible refine(spec_l9Measure.calls x.f0 x.f1 x.f2 x.f3 x.f4 ax v _ hm).mono ?_);rintro e w9 ⟨rfl,hw1⟩;have hB9:Below W11.heap.size W11 w9:=below_step (below_drew1 (Below.refl _ _)) hw1;refine⟨_,rfl,?_⟩;refine hK.out _ _ ⟨Sine.keepc (w:=W11) r0 hB9,Sine.keepc (w:=W11) x0 hB9,Sine.keepc (w:=W11) x1 hB9,Sine.keepc (w:=W11) x2 hB9,Sine.keepc (w:=W11) x3 hB9,Sine.keepc (w:=W11) x4 hB9⟩ (fun hHeld=>?_);clear hK K;refine nZ ?_;refine pY 9 (some 138) (bz 12 1023) ?_;refine pY 10 (some 139) (bz 12 2047) ?_;have y0:=Sine.keepc (w:=W11) r0 hB9;have y1:=keepz (w:=W11) r0 r1 hB9;have HSn:=ak ((HS3.out.keep hB9).setD HBK.out haN (-v) (wrap64 (wrap64 (U0 aN)-v)) (by rw[Int.sub_eq_add_neg]));have HLn:=ak ((HL3.out.keep hB9).far (i:=aN) HF.out.1 (.int .i64 (wrap64 (wrap64 (U0 aN)-v))));refine last_ (i:=11) (N:=none) #[true,true,true,true,true,true,true,true,true,true,true,true] rfl rfl qz37 (by decide) (fun K hK=>?_);refine skip_ (w1:=?_) (by rfl) rfl ?_ ?_;rotate_left
              · go_simp
                rfl
              refine hK.out _ _ ?_;clear hK K;refine done_ qz37 ?_;have HSm:=ak (HSn.out.congr (U':=UU3) (fun _ _ _ _=>rfl) (fun p hp=>by rw[HU3.out];by_cases e:p=aN;(rw[if_pos e,if_pos ⟨hax0,by omega⟩]);(rw[if_neg e,if_neg (fun f=>e (by omega))])));(try go_wp2);go_meet;(case rel=>exact⟨_,HSm,HLn⟩)
            | false=>
              have hc:=of_decide_eq_false Hbd.out.symm;have HSm:=ak (HS3.out.congr (U':=UU3) (fun _ _ _ _=>rfl) (fun p hp=>by rw[HU3.out,if_neg (fun f=>hc ⟨f.1,(by have:=f.2;omega)⟩),Int.add_zero]));clear hc;go_wp2;go_meet;(case rel=>exact⟨_,HSm,HL3⟩)
          case rest=>
          obtain⟨M4,HS4,HL4⟩:=hcut;clear HS3 HL3 Hbd;generalize wc=W14 at *;obtain⟨UU4,hUU4⟩:∃U:Nat→Int,U=fun p=>UU3 p+(if 0≤ax∧(p:Int)=b then v else 0):=⟨_,rfl⟩
          have HU4:=ak (show∀p:Nat,UU4 p=UU3 p+(if 0≤ax∧(p:Int)=b then v else 0)from fun p=>by rw[hUU4]);clear hUU4;obtain⟨be,hbe⟩:∃b_,b_=decide (0≤ax∧0≤b):=⟨_,rfl⟩
          have Hbe:=ak hbe;clear hbe
          go_upto_region 22 with fail
          go_cut [145] (fun v W=>v= .bool be∧W=W14)
          case first=>
            by_cases h1:0≤ax
            · by_cases h2:0≤b
              · have hde:=ak (show be=true from Hbe.out.trans (decide_eq_true ⟨h1,h2⟩))
                go_wp2;go_meet;(case rel=>exact⟨qz81,rfl⟩)
              · have hde:=ak (show be=false from Hbe.out.trans (decide_eq_false (fun e=>h2 e.2)))
                go_wp2;go_meet;(case rel=>exact⟨qz81,rfl⟩)
            · have hde:=ak (show be=false from Hbe.out.trans (decide_eq_false (fun e=>h1 e.1)))
              go_wp2;go_meet;(case rel=>exact⟨qz81,rfl⟩)
          case rest=>
          obtain⟨rfl,rfl⟩:=hcut;generalize wc=W15 at *
          go_upto_if 145 with fail
          ·
            cases be with
            | true=>
              have hc:=of_decide_eq_true Hbe.out.symm;have hm:=HV.out hc.1;have hax0:=hc.1;obtain⟨bN,rfl⟩:=Int.eq_ofNat_of_zero_le hc.2;have hbN:bN<un.length:=by omega
              have i0:(0:Int)≤(bN:Int):=by omega
              have i1:(bN:Int)<(un.length:Int):=by omega
              clear hc;go_wp2_with fail;have r0:=HS4.out.r.c bN hbN;have r1:=HS4.out.r.f bN;have x0:=HL4.out.x0;have x1:=HL4.out.x1;have x2:=HL4.out.x2;have x3:=HL4.out.x3;have x4:=HL4.out.x4;refine start_ (n:=12) (S:=fun w'=>w'.cell? ⟨gr,bN,none⟩=some (.int .i64 (wrap64 (UU3 bN)))∧w'.cell? ⟨X,0,none⟩=some (.int .i64 x.f0)∧w'.cell? ⟨X,1,none⟩=some (.int .i64 x.f1)∧w'.cell? ⟨X,2,none⟩=some (.int .i64 x.f2)∧w'.cell? ⟨X,3,none⟩=some (.int .i64 x.f3)∧w'.cell? ⟨X,4,none⟩=some (.int .i64 x.f4)) (ds:=[11]) #[false,false,false,false,false,false,false,false,false,false,false,false] qz37 rfl rfl ⟨r0,x0,x1,x2,x3,x4⟩ (fun hHeld=>?_);refine pY 0 (some 146) (bz 12 1) ?_;refine pY 1 (some 147) (bz 12 3) ?_;refine pY 2 (some 148) (bz 12 7) ?_;refine pY 3 (some 149) (bz 12 15) ?_;refine pY 4 (some 150) (bz 12 31) ?_;refine pY 7 (some 153) (bz 12 159) ?_;refine tZ7 5 (some 151) (bz 12 191) ?_;refine tZ7 6 (some 152) (bz 12 255) ?_;refine oY 8 (some 154) (bz 12 511) (fun K hK=>?_);refine goes_ Tryz.func122 qz37 rfl #[.agg #[.int .i64 x.f0,.int .i64 x.f1,.int .i64 x.f2,.int .i64 x.f3,.int .i64 x.f4],.int .i64 ax] (by rfl) rfl rfl qz63 ?_;(with_reducible refine(spec_l9Measure.calls x.f0 x.f1 x.f2 x.f3 x.f4 ax v _ hm).mono ?_);rintro e w9 ⟨rfl,hw1⟩;have hB9:Below W15.heap.size W15 w9:=below_step (below_drew1 (Below.refl _ _)) hw1;refine⟨_,rfl,?_⟩;refine hK.out _ _ ⟨Sine.keepc (w:=W15) r0 hB9,Sine.keepc (w:=W15) x0 hB9,Sine.keepc (w:=W15) x1 hB9,Sine.keepc (w:=W15) x2 hB9,Sine.keepc (w:=W15) x3 hB9,Sine.keepc (w:=W15) x4 hB9⟩ (fun hHeld=>?_);clear hK K;refine nZ ?_;refine pY 9 (some 155) (bz 12 1023) ?_;refine pY 10 (some 156) (bz 12 2047) ?_;have y0:=Sine.keepc (w:=W15) r0 hB9;have y1:=keepz (w:=W15) r0 r1 hB9;have HSn:=ak ((HS4.out.keep hB9).setD HBK.out hbN (v) (wrap64 (wrap64 (UU3 bN)+v)) rfl);have HLn:=ak ((HL4.out.keep hB9).far (i:=bN) HF.out.1 (.int .i64 (wrap64 (wrap64 (UU3 bN)+v))));refine last_ (i:=11) (N:=none) #[true,true,true,true,true,true,true,true,true,true,true,true] rfl rfl qz37 (by decide) (fun K hK=>?_);refine skip_ (w1:=?_) (by rfl) rfl ?_ ?_;rotate_left
              · go_simp
                rfl
              refine hK.out _ _ ?_;clear hK K;refine done_ qz37 ?_;have HSm:=ak (HSn.out.congr (U':=UU4) (fun _ _ _ _=>rfl) (fun p hp=>by rw[HU4.out];by_cases e:p=bN;(rw[if_pos e,if_pos ⟨hax0,by omega⟩]);(rw[if_neg e,if_neg (fun f=>e (by omega))])));(try go_wp2);have HSf:=ak (HSm.out.congr (T':=lapT ls un (used.take (j+1))) (U':=fun i=>if 0≤ax then rgtT ls un (used.take (j+1)) ax i else 0) (fun p q _ _=>HH2.out p q) (fun p _=>by rw[HU2.out,HU0.out,HU4.out,HU3.out];unfold rgtD;by_cases c:0≤ax<;>simp only[c,true_and,false_and,if_true,if_false]<;>omega));exact⟨⟨j+1,_,by omega,by go_num,HSf⟩,qz41⟩
            | false=>
              have hc:=of_decide_eq_false Hbe.out.symm;have HSm:=ak (HS4.out.congr (U':=UU4) (fun _ _ _ _=>rfl) (fun p hp=>by rw[HU4.out,if_neg (fun f=>hc ⟨f.1,(by have:=f.2;omega)⟩),Int.add_zero]));clear hc;go_wp2;have HSf:=ak (HSm.out.congr (T':=lapT ls un (used.take (j+1))) (U':=fun i=>if 0≤ax then rgtT ls un (used.take (j+1)) ax i else 0) (fun p q _ _=>HH2.out p q) (fun p _=>by rw[HU2.out,HU0.out,HU4.out,HU3.out];unfold rgtD;by_cases c:0≤ax<;>simp only[c,true_and,false_and,if_true,if_false]<;>omega));exact⟨⟨j+1,_,by omega,by go_num,HSf⟩,qz41⟩
        · obtain rfl:j=used.length:=by omega
          rw[List.take_of_length_le (Nat.le_refl _)]at HS;rcases HAX.out with hx|⟨hx0,hx2⟩
          · subst hx
            have HF:=ak (show 0<un.length→A2=some ⟨bm,0,none⟩∧MatAt wr bm un.length R C (matM ls un used (-1) (ecol (-1) col)) w.heap.size from fun h=>⟨HA2.out h,(HS.out.m h).congr (fun p q hp hq=>by
              have e:=HS.out.h h p q hp hq;have hq1:¬(q:Int)= -1:=by omega
              rw[if_neg hq1]at e;unfold matM ecol
              rw[if_neg (show¬(0:Int)≤ -1 by omega),if_neg hq1,e])⟩)
            have HB:=ak HS.out.b;have HP:=ak (show∃A2' c2' bm' R' C',Ending.returned (.slice A2 un.length c2)= .returned (.slice A2' un.length c2')∧(0<un.length→A2'=some ⟨bm',0,none⟩∧MatAt wr bm' un.length R' C' (matM ls un used (-1) (ecol (-1) col)) w.heap.size)∧Below w.heap.size w wr from⟨_,_,bm,R,C,rfl,HF.out,HB.out⟩);clear HS HF;go_wp2
            go_loopw [17] (fun v17 W=>v17= .int .i64 0∧W=wr) (fun _ _=>0)
            case atStart=>exact⟨rfl,rfl⟩
            case round=>
              obtain⟨rfl,hW⟩:=hrel;subst hW;by_cases hn:0<un.length
              · have hn1:(0:Int)<(un.length:Int):=by omega
                go_wp2;exact bodyPost_ret (v:= .slice A2 un.length c2) qz83 rfl HP.out
              · have hn1:¬(0:Int)<(un.length:Int):=by omega
                go_wp2
                first
                  |exact bodyPost_ret (v:= .slice A2 un.length c2) qz83 rfl HP.out
                  |exact bodyPost_ret (v:= .slice A2 un.length c2) qz83 rfl ⟨⟨_,_,rfl⟩,HB.out⟩
          · have hco:=HCO.out hx0
            obtain⟨cN,rfl⟩:=Int.eq_ofNat_of_zero_le hco.1;have hcN:cN<un.length:=by omega
            have hA:=HA2.out (by omega);subst hA
            have HM:=ak (show∀p q:Nat,p<un.length→q<un.length→M p q=wrap64 (lapT ls un used p q)from fun p q hp hq=>by
              have e:=HS.out.h (by omega) p q hp hq;rw[if_neg (show¬(q:Int)= -1 by omega)]at e
              exact e)
            have HR:Aside0 (Rgt wr gr un.length (rgtT ls un used ax)):=⟨HS.out.r.congr (fun i _=>by rw[if_pos hx0])⟩;have HMA:=ak (HS.out.m (by omega));have HB:=ak HS.out.b;clear HS hco;have c0:(0:Int)≤(cN:Int):=by omega
            have c1:(cN:Int)<(un.length:Int):=by omega
            go_wp2
            go_loopw [17] (fun v17 W=>∃(i:Nat) (M':Mx),i≤un.length∧v17= .int .i64 i∧Aside0 (MatAt W bm un.length R C M' w.heap.size)∧Aside0 (∀p q:Nat,p<un.length→q<un.length→M' p q=if p<i∧q=cN then wrap64 (rgtT ls un used ax p) else wrap64 (lapT ls un used p q))∧Aside0 (Rgt W gr un.length (rgtT ls un used ax))∧Aside0 (Below w.heap.size w W)) (fun v17 _=>un.length-(intOf v17).toNat)
            case atStart=>exact⟨0,M,Nat.zero_le _,rfl,HMA,⟨fun p q hp hq=>by rw[if_neg (by omega)];exact HM.out p q hp hq⟩,HR,HB⟩
            case round=>
              obtain⟨i,M',hi,rfl,HMA2,HM2,HR2,HB2⟩:=hrel;clear HMA HM HR HB;by_cases hil:i<un.length
              · have i0:(0:Int)≤(i:Int):=by omega
                have i1:(i:Int)<(un.length:Int):=by omega
                have z1:=HMA2.out.pc i hil;have z2:=HR2.out.c i hil;have HMd:=ak (HMA2.out.keep (below_drew1 (Below.refl wr.heap.size wr)));have p1:=HMd.out.mc i cN hil hcN;have p3:=HMd.out.fm i cN hil hcN;have HMn:=ak (HMd.out.set hil hcN (wrap64 (rgtT ls un used ax i)));have HRn:Aside0 (Rgt (wr.drew.setCell ⟨R i,cN,none⟩ (.int .i64 (wrap64 (rgtT ls un used ax i)))) gr un.length (rgtT ls un used ax)):=⟨⟨fun p hp=>far (HR2.out.c p hp) (blkne (HBK.out.g i hil)),fun p=>(frz _ _ _).trans (HR2.out.f p)⟩⟩;have HBn:=ak ((below_drew1 HB2.out).setCell (show w.heap.size≤(⟨R i,cN,none⟩:Addr).block from HMA2.out.lr i hil) (.int .i64 (wrap64 (rgtT ls un used ax i))))
                have HMo:=ak (show∀p q:Nat,p<un.length→q<un.length→(fun a b=>if a=i∧b=cN then wrap64 (rgtT ls un used ax i) else M' a b) p q=if p<i+1∧q=cN then wrap64 (rgtT ls un used ax p) else wrap64 (lapT ls un used p q)from fun p q hp hq=>by
                  show(if p=i∧q=cN then wrap64 (rgtT ls un used ax i) else M' p q)=_;by_cases c:p=i∧q=cN
                  · rw[if_pos c,if_pos (by omega),c.1]
                  · rw[if_neg c,HM2.out p q hp hq]
                    by_cases d:p<i∧q=cN
                    · rw[if_pos d,if_pos (by omega)]
                    · rw[if_neg d,if_neg (by omega)])
                clear HMd;go_wp2_with fail
                go_still_tail 10,qz37
                change wpList _ _ _ _ _ wr.drew;generalize wr.drew=Wd at HMn HRn HBn p1 p3 ⊢;clear z1 z2;go_wp2;exact⟨⟨i+1,_,by omega,by go_num,HMn,HMo,HRn,HBn⟩,qz41⟩
              · obtain rfl:i=un.length:=by omega
                have HF:=ak (show 0<un.length→(some ⟨bm,0,none⟩:Option Addr)=some ⟨bm,0,none⟩∧MatAt wr bm un.length R C (matM ls un used ax (ecol ax (cN:Int))) w.heap.size from fun h=>⟨rfl,HMA2.out.congr (fun p q hp hq=>by
                  rw[HM2.out p q hp hq];unfold matM ecol;rw[if_pos hx0];by_cases d:q=cN
                  · rw[if_pos (show(q:Int)=(cN:Int) by omega),if_pos (show p<un.length∧q=cN from⟨hp,d⟩)]
                  · rw[if_neg (show¬(q:Int)=(cN:Int) by omega),if_neg (show¬(p<un.length∧q=cN)from fun e=>d e.2)])⟩)
                have HP:=ak (show∃A2' c2' bm' R' C',Ending.returned (.slice (some ⟨bm,0,none⟩) un.length c2)= .returned (.slice A2' un.length c2')∧(0<un.length→A2'=some ⟨bm',0,none⟩∧MatAt wr bm' un.length R' C' (matM ls un used ax (ecol ax (cN:Int))) w.heap.size)∧Below w.heap.size w wr from⟨_,_,bm,R,C,rfl,HF.out,HB2.out⟩);clear HF;go_wp2;exact bodyPost_ret (v:= .slice (some ⟨bm,0,none⟩) un.length c2) qz83 rfl HP.out
end Net
namespace Net
open A Plain
open Tree (verts legs W)
open Grow (Q)
def selTo(p:Nat→Bool):Nat→List Int
  |0=>[]
  |k+1=>if p k=true then selTo p k++[(k:Int)] else selTo p k
theorem selTo_len(p:Nat→Bool):∀k,(selTo p k).length≤k
  |0=>by simp[selTo]
  | k+1=>by
    have:=selTo_len p k;unfold selTo;split
    · rw[List.length_append,List.length_singleton];omega
    · omega
theorem mem_selTo (p:Nat→Bool):∀(n:Nat) (i:Int),i∈selTo p n↔∃k:Nat,i=k∧k<n∧p k=true
  |0,i=>by simp[selTo]
  | n + 1,i=>by
    have ih:=mem_selTo p n i;unfold selTo;split
    · rename_i c
      rw[List.mem_append,ih,List.mem_singleton]
      constructor
      · rintro(⟨k,h1,h2,h3⟩|rfl)
        · exact⟨k,h1,by omega,h3⟩
        · exact⟨n,rfl,by omega,c⟩
      · rintro⟨k,h1,h2,h3⟩
        by_cases e:k=n
        · exact Or.inr (by rw[h1,e])
        · exact Or.inl ⟨k,h1,by omega,h3⟩
    · rename_i c
      rw[ih]
      constructor
      · rintro⟨k,h1,h2,h3⟩
        exact⟨k,h1,by omega,h3⟩
      · rintro⟨k,h1,h2,h3⟩
        by_cases e:k=n
        · exact absurd (e▸h3) c
        · exact⟨k,h1,by omega,h3⟩
theorem asc_selTo(p:Nat→Bool):∀n,Sort.Asc (selTo p n)
  |0=>by simp[selTo,Sort.Asc]
  | n +1=>by
    have ih:=asc_selTo p n;unfold selTo;split
    · refine List.pairwise_append.mpr ⟨ih,List.pairwise_singleton _ _,fun a ha b hb=>?_⟩
      obtain⟨k,rfl,hk,_⟩:=(mem_selTo p n a).mp ha;rw[List.mem_singleton]at hb;omega
    · exact ih
theorem plL_sel{ls:L}(hg:∀x∈ls,Good x):selTo (Pq (RR ls)) 8=plL (RR ls):=by
  refine Sort.ext (asc_selTo _ _) (asc_plL _) (fun s=>?_);rw[mem_selTo]
  constructor
  · rintro⟨k,rfl,_,h⟩
    rw[Pq_eq]at h;exact of_decide_eq_true h
  · intro h
    have h8:=Grow.in_range (ends ls) (RR_ok hg).1 (Good.range hg) s ((mem_plL _ _).mp h);obtain⟨k,rfl⟩:=Int.eq_ofNat_of_zero_le h8.1;exact⟨k,rfl,by omega,(by rw[Pq_eq];exact decide_eq_true h)⟩
def SelPost(l:List Int)(w:World)(e:Ending)(w':World):Prop:=∃v,e= .returned v∧Kd.R (Kd.int .i64) 3 w' w.heap.size (fun b=>w.heap.size≤b) v l∧Below w.heap.size w w'
theorem run_idx8(w:World)(v:Array Value)(k:Nat)(i:Int)(hi:i=(k:Int))(h8:k<8)(x:Value)(hx:v[k]?=some x):(Instr.index 70 (.agg v) (.int .i64 i)).run Tryz.prog w= .ok x w:=by
  subst hi;have hn:(0:Int)≤(k:Int)∧(k:Int)<((8:Nat):Int):=by omega
  simp[Instr.index,run_underlying Tryz.underlying70,asIntOf,hn,go_sem];rw[if_pos h8,hx];rfl
theorem stationsW {n T g:Nat} {P:Nat→Bool} {X:Nat→S72} {B:Nat→Bool} {cl:Value} (w:World) (hS:St n T g P X B cl w):
    Calls Tryz.prog 115 #[.pointer (some ⟨g,0,none⟩)] w (SelPost (selTo P 8) w):=by
  have HB:=ak (Below.refl w.heap.size w);have p0:=hS.pb 0 (by decide);have p1:=hS.pb 1 (by decide);have p2:=hS.pb 2 (by decide);have p3:=hS.pb 3 (by decide);have p4:=hS.pb 4 (by decide);have p5:=hS.pb 5 (by decide);have p6:=hS.pb 6 (by decide);have p7:=hS.pb 7 (by decide);clear hS;obtain⟨l0,hl0⟩:∃l0,l0=selTo P 0:=⟨_,rfl⟩
  obtain⟨b0,hb0⟩:∃b,b=P 0:=⟨_,rfl⟩
  rw[←hb0]at p0;obtain⟨b1,hb1⟩:∃b,b=P 1:=⟨_,rfl⟩
  rw[←hb1]at p1;obtain⟨b2,hb2⟩:∃b,b=P 2:=⟨_,rfl⟩
  rw[←hb2]at p2;obtain⟨b3,hb3⟩:∃b,b=P 3:=⟨_,rfl⟩
  rw[←hb3]at p3;obtain⟨b4,hb4⟩:∃b,b=P 4:=⟨_,rfl⟩
  rw[←hb4]at p4;obtain⟨b5,hb5⟩:∃b,b=P 5:=⟨_,rfl⟩
  rw[←hb5]at p5;obtain⟨b6,hb6⟩:∃b,b=P 6:=⟨_,rfl⟩
  rw[←hb6]at p6;obtain⟨b7,hb7⟩:∃b,b=P 7:=⟨_,rfl⟩
  rw[←hb7]at p7;have HE0:Aside0 (selTo P (0+1)=if b0=true then selTo P 0++[((0:Nat):Int)] else selTo P 0):=⟨(by rw[hb0];rfl)⟩;have HE1:Aside0 (selTo P (1+1)=if b1=true then selTo P 1++[((1:Nat):Int)] else selTo P 1):=⟨(by rw[hb1];rfl)⟩;have HE2:Aside0 (selTo P (2+1)=if b2=true then selTo P 2++[((2:Nat):Int)] else selTo P 2):=⟨(by rw[hb2];rfl)⟩;have HE3:Aside0 (selTo P (3+1)=if b3=true then selTo P 3++[((3:Nat):Int)] else selTo P 3):=⟨(by rw[hb3];rfl)⟩;have HE4:Aside0 (selTo P (4+1)=if b4=true then selTo P 4++[((4:Nat):Int)] else selTo P 4):=⟨(by rw[hb4];rfl)⟩;have HE5:Aside0 (selTo P (5+1)=if b5=true then selTo P 5++[((5:Nat):Int)] else selTo P 5):=⟨(by rw[hb5];rfl)⟩;have HE6:Aside0 (selTo P (6+1)=if b6=true then selTo P 6++[((6:Nat):Int)] else selTo P 6):=⟨(by rw[hb6];rfl)⟩;have HE7:Aside0 (selTo P (7+1)=if b7=true then selTo P 7++[((7:Nat):Int)] else selTo P 7):=⟨(by rw[hb7];rfl)⟩;have HT:Aside0 (∀k,(selTo P k).length≤k):=⟨selTo_len P⟩;clear hb0 hb1 hb2 hb3 hb4 hb5 hb6 hb7;have HN0:Aside0 (selTo P 0=[]):=⟨rfl⟩;generalize selTo P=S at *;go_enter Tryz.func115,Tryz.ntmps115;go_wp2
  go_loopw [3,10] (fun v3 v10 w'=>∃(j:Nat),j≤8∧v10= .int .i64 j∧Aside0 (Kd.R (Kd.int .i64) 3 w' w.heap.size (fun b=>w.heap.size≤b) v3 (S j))∧Aside0 (Below w.heap.size w w')) (fun _ v10 _=>8-(intOf v10).toNat)
  case atStart=>exact⟨0,by omega,rfl,⟨(by rw[HN0.out];exact Kd.R_nil _ _ _ _ _)⟩,HB⟩
  case round=>
    obtain⟨j,hj,rfl,HV,HB2⟩:=hrel;clear HB;have HB:=HB2;clear HB2;obtain⟨vA,vC,ev⟩:=Kd.R_slice HV.out;subst ev;have HTL:=ak (HT.out j);by_cases hlt:j<8
    · have hj8 : j = 0 ∨j=1∨j=2∨j=3∨j=4∨j=5∨j=6∨j=7:=by omega
      rcases hj8 with rfl|rfl|rfl|rfl|rfl|rfl|rfl|rfl
      · have HE:=HE0
        cases b0
        · rw[if_neg (by decide)]at HE
          go_wp2;rw[run_idx8 _ _ 0 0 rfl (by decide) _ rfl];go_wp2;exact⟨⟨0+1,by omega,by go_num,(qx2 HV),HB⟩,qz77⟩
        · rw[if_pos rfl]at HE
          go_wp2;rw[run_idx8 _ _ 0 0 rfl (by decide) _ rfl]
          go_wp2_with ((with_reducible refine gate_builtin (b:= .append) (xs:= #[.tmp 15,.tmp 17]) rfl ?_);at_builtin;refine Kd.R_append (Kd.int .i64) (w0:=w) w.heap.size rfl (.tmp 15) (.tmp 17) 46 3 (.int .i64 0) 8 rfl Tryz.underlying46 info3 rfl (by decide) (by omega) (.slice vA (S 0).length vC) (S 0) ((0:Nat):Int) [.int .i64 ((0:Nat):Int)] (fun b=>w.heap.size≤b) (fun _=>False) rfl rfl ?aP (fun _ hk=>hk.elim) ?aF ?aO ?aB ?aS ?aL ?_;(case aP=>exact rfl);(case aF=>exact qz68);(case aO=>exact HV.out);(case aB=>exact HB.out);(case aS=>exact below_size HB.out);(case aL=>have:=HTL.out;omega)
                       intro v_ w_ ho hb hg hat;have HP1:=ak ho
                       have HP2:=ak hb)
          exact⟨⟨0+1,by omega,by go_num,(qx2 HP1),HP2⟩,qz77⟩
      · have HE:=HE1
        cases b1
        · rw[if_neg (by decide)]at HE
          go_wp2;rw[run_idx8 _ _ 1 1 rfl (by decide) _ rfl];go_wp2;exact⟨⟨1+1,by omega,by go_num,(qx2 HV),HB⟩,qz77⟩
        · rw[if_pos rfl]at HE
          go_wp2;rw[run_idx8 _ _ 1 1 rfl (by decide) _ rfl]
          go_wp2_with ((with_reducible refine gate_builtin (b:= .append) (xs:= #[.tmp 15,.tmp 17]) rfl ?_);at_builtin;refine Kd.R_append (Kd.int .i64) (w0:=w) w.heap.size rfl (.tmp 15) (.tmp 17) 46 3 (.int .i64 0) 8 rfl Tryz.underlying46 info3 rfl (by decide) (by omega) (.slice vA (S 1).length vC) (S 1) ((1:Nat):Int) [.int .i64 ((1:Nat):Int)] (fun b=>w.heap.size≤b) (fun _=>False) rfl rfl ?aP (fun _ hk=>hk.elim) ?aF ?aO ?aB ?aS ?aL ?_;(case aP=>exact rfl);(case aF=>exact qz68);(case aO=>exact HV.out);(case aB=>exact HB.out);(case aS=>exact below_size HB.out);(case aL=>have:=HTL.out;omega)
                       intro v_ w_ ho hb hg hat;have HP1:=ak ho
                       have HP2:=ak hb)
          exact⟨⟨1+1,by omega,by go_num,(qx2 HP1),HP2⟩,qz77⟩
      · have HE:=HE2
        cases b2
        · rw[if_neg (by decide)]at HE
          go_wp2;rw[run_idx8 _ _ 2 2 rfl (by decide) _ rfl];go_wp2;exact⟨⟨2+1,by omega,by go_num,(qx2 HV),HB⟩,qz77⟩
        · rw[if_pos rfl]at HE
          go_wp2;rw[run_idx8 _ _ 2 2 rfl (by decide) _ rfl]
          go_wp2_with ((with_reducible refine gate_builtin (b:= .append) (xs:= #[.tmp 15,.tmp 17]) rfl ?_);at_builtin;refine Kd.R_append (Kd.int .i64) (w0:=w) w.heap.size rfl (.tmp 15) (.tmp 17) 46 3 (.int .i64 0) 8 rfl Tryz.underlying46 info3 rfl (by decide) (by omega) (.slice vA (S 2).length vC) (S 2) ((2:Nat):Int) [.int .i64 ((2:Nat):Int)] (fun b=>w.heap.size≤b) (fun _=>False) rfl rfl ?aP (fun _ hk=>hk.elim) ?aF ?aO ?aB ?aS ?aL ?_;(case aP=>exact rfl);(case aF=>exact qz68);(case aO=>exact HV.out);(case aB=>exact HB.out);(case aS=>exact below_size HB.out);(case aL=>have:=HTL.out;omega)
                       intro v_ w_ ho hb hg hat;have HP1:=ak ho
                       have HP2:=ak hb)
          exact⟨⟨2+1,by omega,by go_num,(qx2 HP1),HP2⟩,qz77⟩
      · have HE:=HE3
        cases b3
        · rw[if_neg (by decide)]at HE
          go_wp2;rw[run_idx8 _ _ 3 3 rfl (by decide) _ rfl];go_wp2;exact⟨⟨3+1,by omega,by go_num,(qx2 HV),HB⟩,qz77⟩
        · rw[if_pos rfl]at HE
          go_wp2;rw[run_idx8 _ _ 3 3 rfl (by decide) _ rfl]
          go_wp2_with ((with_reducible refine gate_builtin (b:= .append) (xs:= #[.tmp 15,.tmp 17]) rfl ?_);at_builtin;refine Kd.R_append (Kd.int .i64) (w0:=w) w.heap.size rfl (.tmp 15) (.tmp 17) 46 3 (.int .i64 0) 8 rfl Tryz.underlying46 info3 rfl (by decide) (by omega) (.slice vA (S 3).length vC) (S 3) ((3:Nat):Int) [.int .i64 ((3:Nat):Int)] (fun b=>w.heap.size≤b) (fun _=>False) rfl rfl ?aP (fun _ hk=>hk.elim) ?aF ?aO ?aB ?aS ?aL ?_;(case aP=>exact rfl);(case aF=>exact qz68);(case aO=>exact HV.out);(case aB=>exact HB.out);(case aS=>exact below_size HB.out);(case aL=>have:=HTL.out;omega)
                       intro v_ w_ ho hb hg hat;have HP1:=ak ho
                       have HP2:=ak hb)
          exact⟨⟨3+1,by omega,by go_num,(qx2 HP1),HP2⟩,qz77⟩
      · have HE:=HE4
        cases b4
        · rw[if_neg (by decide)]at HE
          go_wp2;rw[run_idx8 _ _ 4 4 rfl (by decide) _ rfl];go_wp2;exact⟨⟨4+1,by omega,by go_num,(qx2 HV),HB⟩,qz77⟩
        · rw[if_pos rfl]at HE
          go_wp2;rw[run_idx8 _ _ 4 4 rfl (by decide) _ rfl]
          go_wp2_with ((with_reducible refine gate_builtin (b:= .append) (xs:= #[.tmp 15,.tmp 17]) rfl ?_);at_builtin;refine Kd.R_append (Kd.int .i64) (w0:=w) w.heap.size rfl (.tmp 15) (.tmp 17) 46 3 (.int .i64 0) 8 rfl Tryz.underlying46 info3 rfl (by decide) (by omega) (.slice vA (S 4).length vC) (S 4) ((4:Nat):Int) [.int .i64 ((4:Nat):Int)] (fun b=>w.heap.size≤b) (fun _=>False) rfl rfl ?aP (fun _ hk=>hk.elim) ?aF ?aO ?aB ?aS ?aL ?_;(case aP=>exact rfl);(case aF=>exact qz68);(case aO=>exact HV.out);(case aB=>exact HB.out);(case aS=>exact below_size HB.out);(case aL=>have:=HTL.out;omega)
                       intro v_ w_ ho hb hg hat;have HP1:=ak ho
                       have HP2:=ak hb)
          exact⟨⟨4+1,by omega,by go_num,(qx2 HP1),HP2⟩,qz77⟩
      · have HE:=HE5
        cases b5
        · rw[if_neg (by decide)]at HE
          go_wp2;rw[run_idx8 _ _ 5 5 rfl (by decide) _ rfl];go_wp2;exact⟨⟨5+1,by omega,by go_num,(qx2 HV),HB⟩,qz77⟩
        · rw[if_pos rfl]at HE
          go_wp2;rw[run_idx8 _ _ 5 5 rfl (by decide) _ rfl]
          go_wp2_with ((with_reducible refine gate_builtin (b:= .append) (xs:= #[.tmp 15,.tmp 17]) rfl ?_);at_builtin;refine Kd.R_append (Kd.int .i64) (w0:=w) w.heap.size rfl (.tmp 15) (.tmp 17) 46 3 (.int .i64 0) 8 rfl Tryz.underlying46 info3 rfl (by decide) (by omega) (.slice vA (S 5).length vC) (S 5) ((5:Nat):Int) [.int .i64 ((5:Nat):Int)] (fun b=>w.heap.size≤b) (fun _=>False) rfl rfl ?aP (fun _ hk=>hk.elim) ?aF ?aO ?aB ?aS ?aL ?_;(case aP=>exact rfl);(case aF=>exact qz68);(case aO=>exact HV.out);(case aB=>exact HB.out);(case aS=>exact below_size HB.out);(case aL=>have:=HTL.out;omega)
                       intro v_ w_ ho hb hg hat;have HP1:=ak ho
                       have HP2:=ak hb)
          exact⟨⟨5+1,by omega,by go_num,(qx2 HP1),HP2⟩,qz77⟩
      · have HE:=HE6
        cases b6
        · rw[if_neg (by decide)]at HE
          go_wp2;rw[run_idx8 _ _ 6 6 rfl (by decide) _ rfl];go_wp2;exact⟨⟨6+1,by omega,by go_num,(qx2 HV),HB⟩,qz77⟩
        · rw[if_pos rfl]at HE
          go_wp2;rw[run_idx8 _ _ 6 6 rfl (by decide) _ rfl]
          go_wp2_with ((with_reducible refine gate_builtin (b:= .append) (xs:= #[.tmp 15,.tmp 17]) rfl ?_);at_builtin;refine Kd.R_append (Kd.int .i64) (w0:=w) w.heap.size rfl (.tmp 15) (.tmp 17) 46 3 (.int .i64 0) 8 rfl Tryz.underlying46 info3 rfl (by decide) (by omega) (.slice vA (S 6).length vC) (S 6) ((6:Nat):Int) [.int .i64 ((6:Nat):Int)] (fun b=>w.heap.size≤b) (fun _=>False) rfl rfl ?aP (fun _ hk=>hk.elim) ?aF ?aO ?aB ?aS ?aL ?_;(case aP=>exact rfl);(case aF=>exact qz68);(case aO=>exact HV.out);(case aB=>exact HB.out);(case aS=>exact below_size HB.out);(case aL=>have:=HTL.out;omega)
                       intro v_ w_ ho hb hg hat;have HP1:=ak ho
                       have HP2:=ak hb)
          exact⟨⟨6+1,by omega,by go_num,(qx2 HP1),HP2⟩,qz77⟩
      · have HE:=HE7
        cases b7
        · rw[if_neg (by decide)]at HE
          go_wp2;rw[run_idx8 _ _ 7 7 rfl (by decide) _ rfl];go_wp2;exact⟨⟨7+1,by omega,by go_num,(qx2 HV),HB⟩,qz77⟩
        · rw[if_pos rfl]at HE
          go_wp2;rw[run_idx8 _ _ 7 7 rfl (by decide) _ rfl]
          go_wp2_with ((with_reducible refine gate_builtin (b:= .append) (xs:= #[.tmp 15,.tmp 17]) rfl ?_);at_builtin;refine Kd.R_append (Kd.int .i64) (w0:=w) w.heap.size rfl (.tmp 15) (.tmp 17) 46 3 (.int .i64 0) 8 rfl Tryz.underlying46 info3 rfl (by decide) (by omega) (.slice vA (S 7).length vC) (S 7) ((7:Nat):Int) [.int .i64 ((7:Nat):Int)] (fun b=>w.heap.size≤b) (fun _=>False) rfl rfl ?aP (fun _ hk=>hk.elim) ?aF ?aO ?aB ?aS ?aL ?_;(case aP=>exact rfl);(case aF=>exact qz68);(case aO=>exact HV.out);(case aB=>exact HB.out);(case aS=>exact below_size HB.out);(case aL=>have:=HTL.out;omega)
                       intro v_ w_ ho hb hg hat;have HP1:=ak ho
                       have HP2:=ak hb)
          exact⟨⟨7+1,by omega,by go_num,(qx2 HP1),HP2⟩,qz77⟩
    · obtain rfl:j=8:=by omega
      go_wp2;exact bodyPost_ret (v:= .slice vA (S 8).length vC) (by simp[results,Tryz.results115,go_sem]) rfl ⟨_,rfl,HV.out,HB.out⟩
end Net
end Go.Proofs.YtmgkbhhnchnkcaaGreatDoor
