/- The program's CleanLegs, in the form of the printed functions, over the laid table of sines. -/
import Derived.Test.YtmgkbhhnchnkcaaGreatDoorKFnFixesU5
import Derived.Test.YtmgkbhhnchnkcaaGreatDoorKFnFixesU7
set_option maxHeartbeats 4000000
set_option maxRecDepth 100000
set_option linter.unusedSimpArgs false
set_option linter.unusedVariables false
namespace Go.Proofs.YtmgkbhhnchnkcaaGreatDoor
open Go.RowKit YtmgkbhhnchnkcaaGreatDoorW.PrintWords
namespace Net
open Go YtmgkbhhnchnkcaaGreatDoorW.PrintLast YtmgkbhhnchnkcaaGreatDoorW.PrintMore A Plain
theorem fixed0(x:S82)(fix:Int)(hf:¬(1≤fix∧fix≤4))(w:World):
    Calls Tryz.prog 112 #[.agg #[.int .i64 x.f0,.int .i64 x.f1,.int .i64 x.f2,.int .i64 x.f3,.int .i64 x.f4],.int .i64 fix] w (FixPost ⟨0,0,0,0,0⟩ false w):=by
  have h1:(fix==1)=false:=by rw[beq_eq_false_iff_ne];omega
  have h2:(fix==2)=false:=by rw[beq_eq_false_iff_ne];omega
  have h3:(fix==3)=false:=by rw[beq_eq_false_iff_ne];omega
  have h4:(fix==4)=false:=by rw[beq_eq_false_iff_ne];omega
  clear hf;go_enter Tryz.func112,Tryz.ntmps112;go_wp2;exact bodyPost_ret (v:= .tuple #[.agg #[.int .i64 0,.int .i64 0,.int .i64 0,.int .i64 0,.int .i64 0],.bool false]) (by simp[results,Tryz.results112,go_sem]) rfl ⟨rfl,(by repeat(first|exact Below.refl _ _|apply below_alloc|apply below_drew1|(refine below_set ?_ (by omega))))⟩
theorem fixedW(x:S82)(fix:Int)(w:World):
    Calls Tryz.prog 112 #[.agg #[.int .i64 x.f0,.int .i64 x.f1,.int .i64 x.f2,.int .i64 x.f3,.int .i64 x.f4],.int .i64 fix] w (FixPost (fixedM x fix).1 (fixedM x fix).2 w):=by
  by_cases hf:1≤fix∧fix≤4
  · unfold fixedM
    rw[if_pos hf];have hc:fix=1∨fix=2∨fix=3∨fix=4:=by omega
    rcases hc with rfl|rfl|rfl|rfl
    · exact fixed1 x _ rfl w
    · exact fixed2 x _ rfl w
    · exact fixed3 x _ rfl w
    · exact fixed4 x _ rfl w
  · unfold fixedM
    rw[if_neg hf];exact fixed0 x fix hf w
theorem eqNil(la:Addr)(n c:Nat)(w:World):(binOp .eql 24 (.slice (some la) n c) (.slice none 0 0)).run Tryz.prog w= .ok (.bool false) w:=by
  have h:∀d:Nat,(Op.equalIn (d+1) 24 (.slice (some la) n c) (.slice none 0 0)).run Tryz.prog w= .ok false w:=fun d=>by simp[Op.equalIn,run_underlying Tryz.underlying24]
  simp[binOp,Op.equal,Op.maxDepth,h]
attribute [local go_sem] eqNil
theorem cloneW(la:Addr)(c:Nat)(ls:L)(w:World)(hr0:Kd.C k82 w (some la) ls.length ls)(hc:ls.length≤c)(hn:ls.length≤12):
    Calls Tryz.prog 75 #[.slice (some la) ls.length c] w fun e w'=>∃v,e= .returned v∧Kd.R k82 82 w' w.heap.size (fun b=>w.heap.size≤b) v ls∧Below w.heap.size w w':=by
  have HR0:=ak hr0;have HB:=ak (Below.refl w.heap.size w);clear hr0;go_enter Tryz.func75,Tryz.ntmps75
  go_wp2_with (first
    |((with_reducible refine gate_dst (N:=5) rfl ?_);refine Kd.R_lit k82 _ 82 ?hg (N:=5) ?hd (xs:=([]:List (S82))) (inner:=[]) (ok:=fun b=>w.heap.size≤b) (okp:=fun b=>w.heap.size≤b) ?hr ?hp (fun _ hk=>hk) (Nat.le_refl _) (Below.refl _ _) (Nat.le_refl _) (by simp) ?_;(case hd=>rfl);(case hg=>rfl);(case hr=>exact qz16);(case hp=>exact(Reps.none _ _));intro v1 w1 ho1 hb hg_ hnew_;clear hg_ hnew_;have HO:=ak ho1;replace HB:=ak (below_step HB.out hb);clear hb ho1)
    |((with_reducible refine gate_builtin (b:= .append) (xs:= #[.tmp 5,.tmp 6]) rfl ?_);at_builtin;refine Kd.R_append_rows k82 (w0:=w) w.heap.size rfl (.tmp 5) (.tmp 6) 24 82 (.agg #[(.int .i64 0),(.int .i64 0),(.int .i64 0),(.int .i64 0),(.int .i64 0)]) 40 rfl Tryz.underlying24 info82 rfl (by decide) (by omega) v1 [] ls _ _ _ (fun b=>w.heap.size≤b) (fun _=>False) rfl rfl ?aO ?aR (fun _ _ h=>h) (fun _ h=>h.elim) ?aF ?aB ?aS ?aL ?_;(case aR=>exact(Kd.C_below HR0.out HB.out));(case aB=>exact HB.out);(case aF=>exact qz54);(case aO=>exact HO.out);(case aS=>exact(below_size HB.out));(case aL=>simp;omega);intro v2 w2 ho hb hg hat;have HP1:=ak ho;have HP2:=ak hb;clear ho hb hg hat))
  go_ret;exact⟨_,rfl,HP1.out,HP2.out⟩
theorem fixLegNo(A:Option Addr)(c:Nat)(ls:L)(k:Nat)(fix:Int)(w:World)(hr0:Kd.C k82 w A ls.length ls)(hk:k<ls.length)(hno:(fixedM (leg ls k) fix).2=false):
    Calls Tryz.prog 70 #[.slice A ls.length c,.int .i64 (k:Int),.int .i64 fix] w fun e w'=>e= .returned (.tuple #[.slice none 0 0,.bool false])∧Below w.heap.size w w':=by
  obtain⟨la,e2,h0,h1,h2,h3,h4⟩:=at_T82 hr0 (k:Int) (by omega) (by omega);cases e2;rw[Int.toNat_natCast,show rd_T82 ls (k:Int)=leg ls k from rfl]at h0 h1 h2 h3 h4;have k0:(0:Int)≤(k:Int):=by omega
  have k1:(k:Int)<(ls.length:Int):=by omega
  have HF:=ak (fun W=>fixedW (leg ls k) fix W);rw[hno]at HF;have HB:=ak (Below.refl w.heap.size w);clear hr0 hno;generalize (fixedM (leg ls k) fix).1=y at *;generalize leg ls (k:Int)=x at *;go_enter Tryz.func70,Tryz.ntmps70;go_wp2_with (go_at_call 112;have hq:=HF.out w;(with_reducible refine hq.mono ?_);clear hq;rintro e w1 ⟨rfl,hw⟩;replace HB:=ak hw;clear hw);exact bodyPost_ret (v:= .tuple #[.slice none 0 0,.bool false]) (by simp[results,Tryz.results70,go_sem]) rfl ⟨rfl,(by repeat(first|exact HB.out|apply below_alloc|apply below_drew1|(refine below_set ?_ (by have:=below_size HB.out;omega))))⟩
theorem fixLegYes(A:Option Addr)(c:Nat)(ls:L)(k:Nat)(fix:Int)(w:World)(hr0:Kd.C k82 w A ls.length ls)(hc:ls.length≤c)(hn:ls.length≤12)(hk:k<ls.length)(hyes:(fixedM (leg ls k) fix).2=true):
    Calls Tryz.prog 70 #[.slice A ls.length c,.int .i64 (k:Int),.int .i64 fix] w fun e w'=>∃v,e= .returned (.tuple #[v,.bool true])∧Kd.R k82 82 w' w.heap.size (fun _=>True) v (ls.set k (fixedM (leg ls k) fix).1)∧Below w.heap.size w w':=by
  obtain⟨la,e2,h0,h1,h2,h3,h4⟩:=at_T82 hr0 (k:Int) (by omega) (by omega);cases e2;rw[Int.toNat_natCast,show rd_T82 ls (k:Int)=leg ls k from rfl]at h0 h1 h2 h3 h4;have k0:(0:Int)≤(k:Int):=by omega
  have k1:(k:Int)<(ls.length:Int):=by omega
  have HF:=ak (fun W=>fixedW (leg ls k) fix W);rw[hyes]at HF;have HR:=ak hr0;have HB:=ak (Below.refl w.heap.size w);clear hr0 hyes;generalize (fixedM (leg ls k) fix).1=y at *;generalize leg ls (k:Int)=x at *;go_enter Tryz.func70,Tryz.ntmps70
  go_wp2_with (first
    |(go_at_call 112;have hq:=HF.out w;(with_reducible refine hq.mono ?_);clear hq;rintro e w1 ⟨rfl,hw⟩;replace HB:=ak hw;clear hw)
    | (go_at_call 75
       have HB2:=ak (below_alloc HB.out (Obj.cells #[Value.int IntKind.i64 y.f0,Value.int IntKind.i64 y.f1,Value.int IntKind.i64 y.f2,Value.int IntKind.i64 y.f3,Value.int IntKind.i64 y.f4] 82));have c0:(w1.alloc (Obj.cells #[Value.int IntKind.i64 y.f0,Value.int IntKind.i64 y.f1,Value.int IntKind.i64 y.f2,Value.int IntKind.i64 y.f3,Value.int IntKind.i64 y.f4] 82)).cell? ⟨w1.heap.size,0,none⟩=some (.int .i64 y.f0):=by go_simp
       have c1:(w1.alloc (Obj.cells #[Value.int IntKind.i64 y.f0,Value.int IntKind.i64 y.f1,Value.int IntKind.i64 y.f2,Value.int IntKind.i64 y.f3,Value.int IntKind.i64 y.f4] 82)).cell? ⟨w1.heap.size,1,none⟩=some (.int .i64 y.f1):=by go_simp
       have c2:(w1.alloc (Obj.cells #[Value.int IntKind.i64 y.f0,Value.int IntKind.i64 y.f1,Value.int IntKind.i64 y.f2,Value.int IntKind.i64 y.f3,Value.int IntKind.i64 y.f4] 82)).cell? ⟨w1.heap.size,2,none⟩=some (.int .i64 y.f2):=by go_simp
       have c3:(w1.alloc (Obj.cells #[Value.int IntKind.i64 y.f0,Value.int IntKind.i64 y.f1,Value.int IntKind.i64 y.f2,Value.int IntKind.i64 y.f3,Value.int IntKind.i64 y.f4] 82)).cell? ⟨w1.heap.size,3,none⟩=some (.int .i64 y.f3):=by go_simp
       have c4:(w1.alloc (Obj.cells #[Value.int IntKind.i64 y.f0,Value.int IntKind.i64 y.f1,Value.int IntKind.i64 y.f2,Value.int IntKind.i64 y.f3,Value.int IntKind.i64 y.f4] 82)).cell? ⟨w1.heap.size,4,none⟩=some (.int .i64 y.f4):=by go_simp
       have hsz:=below_size HB2.out;have hq:=cloneW la c ls (w1.alloc (Obj.cells #[Value.int IntKind.i64 y.f0,Value.int IntKind.i64 y.f1,Value.int IntKind.i64 y.f2,Value.int IntKind.i64 y.f3,Value.int IntKind.i64 y.f4] 82)) (Kd.C_below HR.out HB2.out) hc hn
       (with_reducible refine hq.mono ?_);clear hq;rintro e w3 ⟨v,rfl,hv,hw⟩
       replace c0:=Sine.keepc c0 hw;replace c1:=Sine.keepc c1 hw;replace c2:=Sine.keepc c2 hw;replace c3:=Sine.keepc c3 hw;replace c4:=Sine.keepc c4 hw;have HO:=ak (Kd.R_lower (Kd.R_mono hv (fun _ _=>trivial) (ok':=fun _=>True)) hsz);replace HB:=ak (below_step HB2.out hw);clear HB2 hv hw;obtain⟨gg,cc,eo,gb,gl,cl,HG8⟩:=Kd.R_form HO.out (by omega);subst eo;obtain⟨ce,hcl,hM,hcc,hfr⟩:=Kd.R_elem HO.out z82 (k:Int) k0 k1;obtain rfl:=k82_openM hM;have HP:=ak (Kd.R_seg HO.out (k:Int) k0 k1 (seg:=[.int .i64 y.f0,.int .i64 y.f1,.int .i64 y.f2,.int .i64 y.f3,.int .i64 y.f4]) (j:=0) hcl hcc (show 5≤5 from by decide) (x':=y) (k82_mkM _ _ _ y) (fun _ hk=>hk));have x0:=hcc 0 _ rfl;have x1:=hcc 1 _ rfl;have x2:=hcc 2 _ rfl;have x3:=hcc 3 _ rfl;have x4:=hcc 4 _ rfl;have f0:=hfr 0;have f1:=hfr 1;have f2:=hfr 2;have f3:=hfr 3;have f4:=hfr 4
       (try simp only[show(k82).sz=5 from rfl,Nat.mul_one,Nat.add_zero,Int.toNat_natCast]at x0 x1 x2 x3 x4 f0 f1 f2 f3 f4)))
  exact bodyPost_ret (v:= .tuple #[.slice (some ⟨gg,0,none⟩) ls.length cc,.bool true]) (by simp[results,Tryz.results70,go_sem]) rfl ⟨_,rfl,(by have h:=HP.out.1;rw[Int.toNat_natCast,Nat.add_zero]at h;exact h),(by repeat(first|exact HB.out|(refine below_set ?_ (by omega))))⟩
end Net
namespace A
open YtmgkbhhnchnkcaaGreatDoorW.PrintLast YtmgkbhhnchnkcaaGreatDoorW.PrintMore Net
def impl_FixLeg.f(l0:List (S82))(a1 a2:Int):Option (List (S82)×Bool):=if l0.length≤140737488351232 then some (fixM l0 a1 a2) else none
theorem impl_FixLeg.calls (A0:Option Addr) (c0:Nat) (l0:List (S82)) (a1:Int) (a2:Int) (r1:List (S82)) (r2:Bool) (w:World) (hr0:Kd.C k82 w A0 l0.length l0) (hc0:l0.length≤c0) (h:impl_FixLeg.f l0 a1 a2=some (r1,r2)) (hL:Sine.Laid w):
    Calls Tryz.prog 21 #[.slice A0 l0.length c0,.int .i64 a1,.int .i64 a2] w fun e w'=>∃v0_:Value,e= .returned (.tuple #[v0_,.bool r2])∧Kd.R k82 82 w' w.heap.size (fun _=>True) v0_ r1∧Below w.heap.size w w':=by
  unfold impl_FixLeg.f at h;by_cases hb:l0.length≤140737488351232
  · rw [if_pos hb]at h
    unfold fixM at h;have HR:=ak hr0;have HL:=ak hL;have HB:=ak (Below.refl w.heap.size w);by_cases hm:legsB l0=true∧(0≤a1∧a1<(l0.length:Int))
    · obtain⟨k,rfl⟩:=Int.eq_ofNat_of_zero_le hm.2.1
      have HV:=ak (legsB_iff.mp hm.1);have hv:=hm.1;have h0:=hm.2.1;have h1:=hm.2.2;have hk:k<l0.length:=by omega
      have hgk:=leg_good HV.out.1 k hk;have hpq:Pq (RR l0) (leg l0 k).f0.toNat=decide ((leg l0 k).f0∈plL (RR l0)):=by rw[Pq_eq,Int.toNat_of_nonneg hgk.1.1]
      clear hr0 hL hgk;by_cases hp:(leg l0 k).f0∈plL (RR l0)
      · rw [decide_eq_true hp]at hpq
        have hfx:(fixedM (leg l0 k) a2).2=decide ((1≤a2∧a2≤4)∧Net.Good (fixX (leg l0 k) a2)):=by
          unfold fixedM;by_cases q:1≤a2∧a2≤4
          · rw[if_pos q]
            show decide _=decide _;rw[decide_eq_decide];exact⟨fun z=>⟨q,z⟩,fun z=>z.2⟩
          · rw[if_neg q,decide_eq_false (fun z=>q z.1)]
        by_cases hy:(1≤a2∧a2≤4)∧Net.Good (fixX (leg l0 k) a2)
        · rw[if_pos ⟨hm.1,hm.2,hp,hy.1,hy.2⟩,Int.toNat_natCast]at h
          simp only[Option.some.injEq,Prod.mk.injEq]at h;obtain⟨rfl,rfl⟩:=h;rw[decide_eq_true hy]at hfx;have hfe:fixX (leg l0 k) a2=(fixedM (leg l0 k) a2).1:=by unfold fixedM;rw[if_pos hy.1]
          rw[hfe];have hn:=HV.out.2;clear hm hp hy hfe;go_enter Tryz.func21,Tryz.ntmps21
          go_wp2_with (first
            |(go_at_call 53;(with_reducible refine(placedLeg A0 c0 l0 (k:Int) _ ?s0 ?s1 hc0 hv h0 h1).mono ?_);(case s0=>exact HL.out.keep qz6);(case s1=>exact Kd.C_below HR.out qz6);rintro e w' ⟨g,T,cA,cC,rfl,_,_,hw⟩;rw[hpq];replace HB:=ak (below_step (show Below w.heap.size w _ from by(repeat(first|exact HB.out|exact Below.refl _ _|apply below_alloc|apply pw_below_drewN|apply below_drew1));done) hw);clear hw)
            |(go_at_call 70;have hsz:=below_size HB.out;have hq:=fixLegYes A0 c0 l0 k a2 w' (Kd.C_below HR.out HB.out) hc0 hn hk hfx;(with_reducible refine hq.mono ?_);clear hq;rintro e w3 ⟨v,rfl,hv3,hw⟩;have HO:=ak (Kd.R_lower hv3 hsz);replace HB:=ak (below_step HB.out hw);clear hw hv3))
          exact bodyPost_ret (v:= .tuple #[v,.bool true]) qz89 rfl ⟨_,rfl,HO.out,qz68⟩
        · rw[if_neg (fun e=>hy ⟨e.2.2.2.1,e.2.2.2.2⟩)]at h
          simp only[Option.some.injEq,Prod.mk.injEq]at h;obtain⟨rfl,rfl⟩:=h;rw[decide_eq_false hy]at hfx;clear hm hp hy;go_enter Tryz.func21,Tryz.ntmps21
          go_wp2_with (first
            |(go_at_call 53;(with_reducible refine(placedLeg A0 c0 l0 (k:Int) _ ?s0 ?s1 hc0 hv h0 h1).mono ?_);(case s0=>exact HL.out.keep qz6);(case s1=>exact Kd.C_below HR.out qz6);rintro e w' ⟨g,T,cA,cC,rfl,_,_,hw⟩;rw[hpq];replace HB:=ak (below_step (show Below w.heap.size w _ from by(repeat(first|exact HB.out|exact Below.refl _ _|apply below_alloc|apply pw_below_drewN|apply below_drew1));done) hw);clear hw)
            |(go_at_call 70;have hq:=fixLegNo A0 c0 l0 k a2 w' (Kd.C_below HR.out HB.out) hk hfx;(with_reducible refine hq.mono ?_);clear hq;rintro e w3 ⟨rfl,hw⟩;replace HB:=ak (below_step HB.out hw);clear hw))
          exact bodyPost_ret (v:= .tuple #[.slice none 0 0,.bool false]) qz89 rfl ⟨_,rfl,Kd.R_nil _ _ _ _ _,qz68⟩
      · rw[if_neg (fun e=>hp e.2.2.1)]at h
        simp only[Option.some.injEq,Prod.mk.injEq]at h;obtain⟨rfl,rfl⟩:=h;rw[decide_eq_false hp]at hpq;clear hm hp;go_enter Tryz.func21,Tryz.ntmps21;go_wp2_with (go_at_call 53;(with_reducible refine(placedLeg A0 c0 l0 (k:Int) _ ?s0 ?s1 hc0 hv h0 h1).mono ?_);(case s0=>exact HL.out.keep qz6);(case s1=>exact Kd.C_below HR.out qz6);rintro e w' ⟨g,T,cA,cC,rfl,_,_,hw⟩;rw[hpq];replace HB:=ak (below_step (show Below w.heap.size w _ from by(repeat(first|exact HB.out|exact Below.refl _ _|apply below_alloc|apply pw_below_drewN|apply below_drew1));done) hw);clear hw);exact bodyPost_ret (v:= .tuple #[.slice none 0 0,.bool false]) qz89 rfl ⟨_,rfl,Kd.R_nil _ _ _ _ _,qz68⟩
    · rw[if_neg (by rintro⟨h1,h2,_⟩;exact hm ⟨h1,h2⟩)]at h
      simp only[Option.some.injEq,Prod.mk.injEq]at h;obtain⟨rfl,rfl⟩:=h;have hno:legsB l0=true→¬(0≤a1∧a1<(l0.length:Int)):=fun h1 h2=>hm ⟨h1,h2⟩
      clear hr0 hL hm;go_enter Tryz.func21,Tryz.ntmps21;go_wp2_with (go_at_call 53;(with_reducible refine(placedLeg_no A0 c0 l0 a1 _ ?s1 hc0 hb hno).mono ?_);(case s1=>exact Kd.C_below HR.out qz6);rintro e w' ⟨rfl,hw⟩;replace HB:=ak (below_step (show Below w.heap.size w _ from by(repeat(first|exact HB.out|exact Below.refl _ _|apply below_alloc|apply pw_below_drewN|apply below_drew1));done) hw);clear hw);exact bodyPost_ret (v:= .tuple #[.slice none 0 0,.bool false]) qz89 rfl ⟨_,rfl,Kd.R_nil _ _ _ _ _,qz68⟩
  · rw[if_neg hb]at h
    cases h
end A
namespace A
open Go YtmgkbhhnchnkcaaGreatDoorW.PrintLast YtmgkbhhnchnkcaaGreatDoorW.PrintMore
open Net (L Sine.Laid legsB legsB_iff legsB_set fixM sNum sDen strainW StrainPost)
theorem fixM_ok{ls:L}{i fix:Int}(h:(fixM ls i fix).2=true):(∀x∈(fixM ls i fix).1,Net.Good x)∧(fixM ls i fix).1.length≤12:=by
  unfold fixM at h ⊢;split at h
  · rename_i c
    rw[if_pos c];have hl:=legsB_set c.1 i.toNat (by omega) (Net.fixX (Net.leg ls i) fix);rw[decide_eq_true c.2.2.2.2]at hl;exact legsB_iff.mp hl
  · cases h
def afterM(ls:L)(i fix:Int):Int×Int×Bool:=if(fixM ls i fix).2=true then(sNum (fixM ls i fix).1,sDen (fixM ls i fix).1,true) else(0,0,false)
def impl_StrainAfter.f(l0:List (S82))(a1 a2:Int):Option (Int×Int×Bool):=if l0.length≤140737488351232 then some (afterM l0 a1 a2) else none
theorem impl_StrainAfter.calls(A0:Option Addr)(c0:Nat)(l0:List (S82))(a1:Int)(a2:Int)(r1:Int)(r2:Int)(r3:Bool)(w:World)(hr0:Kd.C k82 w A0 l0.length l0)(hc0:l0.length≤c0)(h:impl_StrainAfter.f l0 a1 a2=some (r1,r2,r3))(hL:Sine.Laid w):
    Calls Tryz.prog 24 #[.slice A0 l0.length c0,.int .i64 a1,.int .i64 a2] w fun e w'=>e= .returned (.tuple #[.int .i64 r1,.int .i64 r2,.bool r3])∧Below w.heap.size w w':=by
  unfold impl_StrainAfter.f at h;by_cases hb:l0.length≤140737488351232;(case neg=>rw[if_neg hb]at h;cases h);rw[if_pos hb]at h;have HR:=ak hr0;have HL:=ak hL;have HB:=ak (Below.refl w.heap.size w);have hfx:impl_FixLeg.f l0 a1 a2=some ((fixM l0 a1 a2).1,(fixM l0 a1 a2).2):=by unfold impl_FixLeg.f;rw[if_pos hb]
  have hok:=fixM_ok (ls:=l0) (i:=a1) (fix:=a2);unfold afterM at h;clear hr0 hL hb;generalize (fixM l0 a1 a2).1=y at *;cases hv:(fixM l0 a1 a2).2
  · rw[if_neg (by rw[hv];simp)]at h
    simp only[Option.some.injEq,Prod.mk.injEq]at h;obtain⟨rfl,rfl,rfl⟩:=h;rw[hv]at hfx;have HFX:=ak hfx;clear hv hok hfx;go_enter Tryz.func24,Tryz.ntmps24;go_wp2_with (go_at_call 21;(with_reducible refine(impl_FixLeg.calls _ _ l0 _ _ y false _ ?s1 hc0 HFX.out ?s2).mono ?_);(case s1=>exact Kd.C_below HR.out qz6);(case s2=>exact HL.out.keep qz6);rintro e w1 ⟨v,rfl,hv,hw⟩;replace HB:=ak (below_step (show Below w.heap.size w _ from by(repeat(first|exact HB.out|exact Below.refl _ _|apply below_alloc|apply pw_below_drewN|apply below_drew1));done) hw);clear hv hw);exact bodyPost_ret (v:= .tuple #[.int .i64 0,.int .i64 0,.bool false]) (by simp[results,Tryz.results24,go_sem]) rfl ⟨rfl,qz6⟩
  · rw[if_pos hv]at h
    simp only[Option.some.injEq,Prod.mk.injEq]at h;obtain⟨rfl,rfl,rfl⟩:=h;obtain⟨hg,hn⟩:=hok hv;rw[hv]at hfx;have HFX:=ak hfx;have HG:=ak hg;clear hv hok hfx hg;go_enter Tryz.func24,Tryz.ntmps24
    go_wp2_with (first
      |(go_at_call 21;(with_reducible refine(impl_FixLeg.calls _ _ l0 _ _ y true _ ?s1 hc0 HFX.out ?s2).mono ?_);(case s1=>exact Kd.C_below HR.out qz6);(case s2=>exact HL.out.keep qz6);rintro e w1 ⟨v,rfl,hv,hw⟩;obtain⟨A1,c1,ev⟩:=Kd.R_slice hv;subst ev;have HV:=ak (Kd.R_reads' hv).2;replace HB:=ak (below_step (show Below w.heap.size w _ from by(repeat(first|exact HB.out|exact Below.refl _ _|apply below_alloc|apply pw_below_drewN|apply below_drew1));done) hw);clear hv hw)
      |(go_at_call 55;(with_reducible refine(strainW A1 c1 y _ ?s1 ?s2 HV.out.1 hn HG.out).mono ?_);(case s1=>exact HL.out.keep qz6);(case s2=>exact Kd.C_below HV.out.2 (by first|exact Below.refl _ _|((repeat(first|exact Below.refl _ _|apply pw_below_drewN|apply below_drew1|exact HB.out|refine below_step ?_ qz42));done)));rintro e w2 ⟨rfl,hw⟩;replace HB:=ak (below_step (show Below w.heap.size w _ from by(repeat(first|exact HB.out|exact Below.refl _ _|apply below_alloc|apply pw_below_drewN|apply below_drew1));done) hw);clear hw))
    have c0:(w2.alloc (Obj.cells #[Value.int IntKind.i64 (sNum y),Value.int IntKind.i64 (sDen y)] 60)).cell? ⟨w2.heap.size,0,none⟩=some (.int .i64 (sNum y)):=by go_simp
    have c1:(w2.alloc (Obj.cells #[Value.int IntKind.i64 (sNum y),Value.int IntKind.i64 (sDen y)] 60)).cell? ⟨w2.heap.size,1,none⟩=some (.int .i64 (sDen y)):=by go_simp
    replace HB:Aside0 (Below w.heap.size w (w2.alloc (Obj.cells #[Value.int IntKind.i64 (sNum y),Value.int IntKind.i64 (sDen y)] 60))):=⟨qz6⟩;generalize w2.alloc (Obj.cells #[Value.int IntKind.i64 (sNum y),Value.int IntKind.i64 (sDen y)] 60)=w3 at *
    go_region_held3 (fun w'=>w'.cell? ⟨w2.heap.size,0,none⟩=some (.int .i64 (sNum y))∧w'.cell? ⟨w2.heap.size,1,none⟩=some (.int .i64 (sDen y)))
      ((repeat' refine And.intro ?_ ?_)<;>first|assumption|exact Net.Sine.keepc (w:=w3) qz42 qz13)
      (fail)
    all_goals go_wp2
    all_goals exact bodyPost_ret (v:= .tuple #[.int .i64 (sNum y),.int .i64 (sDen y),.bool true]) (by simp[results,Tryz.results24,go_sem]) rfl ⟨rfl,qz6⟩
end A
namespace Net
open Plain A Frac
theorem wdiv{a b:Int}(ha:0≤a)(hb:0<b)(h:a≤9000000000000000000):wrap64 (a.tdiv b)=a.tdiv b:=by
  have h1:=tdiv_small a b.toNat (B:=9000000000000000000) (by omega) h;rw[Int.toNat_of_nonneg (by omega)]at h1;exact w64 (by omega) (by omega)
def big:Int:=9000000000000000000
theorem cmp_l0:∀(n:Nat) (s a b c d:Int),(s=1∨s= -1)→0≤a→0<b→0≤c→0<d→a≤big→b≤big→c≤big→d≤big→b.natAbs<n→Ev (fun k=>spec_l10Compare.l0 k a b c d s) (s*cmp a b c d):=by
  intro n
  induction n with
  |zero=>intro s a b c d _ _ _ _ _ _ _ _ _ h;omega
  | succ n ih=>
    intro s a b c d hs ha hb hc hd la lb lc ld h;have hw:wrap64 (-s)= -s:=by unfold wrap64;omega
    have w1:=wdiv ha hb la;have w2:=wdiv hc hd lc;unfold big at *;rcases Int.lt_trichotomy (a.tdiv b) (c.tdiv d)with e|e|e
    · rw[cmp_lt hb hd ha hc e,show s* -1= -s by omega]
      refine Ev.step (f:=fun _=>some (-s)) (fun k=>?_) (Ev.now _)
      conv=>lhs;unfold spec_l10Compare.l0
      rw[if_neg (by omega),if_neg (by omega),w1,w2,if_pos e,hw]
    · have r1:=Int.tmod_nonneg b ha
      have r2:=Int.tmod_nonneg d hc;have l1:=Int.tmod_lt_of_pos a hb;have l2:=Int.tmod_lt_of_pos c hd
      have hst:∀k,spec_l10Compare.l0 (k+1) a b c d s=if Int.tmod a b=0 then spec_l10Compare.j1 k (Int.tmod a b) b (Int.tmod c d) d s true else spec_l10Compare.j1 k (Int.tmod a b) b (Int.tmod c d) d s (Int.tmod c d==0):=fun k=>by
        conv=>lhs;unfold spec_l10Compare.l0
        rw[if_neg (by omega),if_neg (by omega),w1,w2,if_neg (by omega),if_neg (by omega)]
      have hj:∀k,spec_l10Compare.j1 (k+1) (Int.tmod a b) b (Int.tmod c d) d s true=if Int.tmod a b=Int.tmod c d then some 0 else if Int.tmod a b=0 then some (wrap64 (-s)) else some s:=fun k=>by
        conv=>lhs;unfold spec_l10Compare.j1
        rw[if_pos rfl]
      by_cases z1:Int.tmod a b=0
      · refine Ev.step (f:=fun k=>spec_l10Compare.j1 k (Int.tmod a b) b (Int.tmod c d) d s true) (fun k=>by rw[hst,if_pos z1]) ?_
        refine Ev.step (f:=fun _=>some (s*cmp a b c d)) (fun k=>?_) (Ev.now _);rw[hj,cmp_rest e,z1];by_cases z2:Int.tmod c d=0
        · rw[z2,if_pos rfl,cmp_zero,Int.mul_zero]
        · rw[if_neg (fun f=>z2 f.symm),if_pos rfl,cmp_zero_left hb (by omega),hw]
          congr 1;omega
      · by_cases z2:Int.tmod c d=0
        · refine Ev.step (f:=fun k=>spec_l10Compare.j1 k (Int.tmod a b) b (Int.tmod c d) d s true) (fun k=>by rw[hst,if_neg z1,z2];rfl) ?_
          refine Ev.step (f:=fun _=>some (s*cmp a b c d)) (fun k=>?_) (Ev.now _);rw[hj,cmp_rest e,z2,if_neg z1,if_neg z1,cmp_zero_right hd (by omega),Int.mul_one]
        · have hrec:=ih (-s) b (Int.tmod a b) d (Int.tmod c d) (by omega) (by omega) (by omega) (by omega) (by omega) (by omega) (by omega) (by omega) (by omega) (by omega)
          rw[cmp_flip,Int.neg_mul_neg,←cmp_rest e]at hrec;refine Ev.step (f:=fun k=>spec_l10Compare.j1 k (Int.tmod a b) b (Int.tmod c d) d s false) (fun k=>by rw[hst,if_neg z1,show(Int.tmod c d==0)=false from by rw[beq_eq_false_iff_ne];exact z2]) ?_;refine Ev.step (fun k=>?_) hrec
          conv=>lhs;unfold spec_l10Compare.j1
          rw[if_neg (by decide),hw]
    · rw[cmp_gt hb hd ha hc e,Int.mul_one]
      refine Ev.step (f:=fun _=>some s) (fun k=>?_) (Ev.now _)
      conv=>lhs;unfold spec_l10Compare.l0
      rw[if_neg (by omega),if_neg (by omega),w1,w2,if_neg (by omega),if_pos e]
def sCmp(x y:L):Int:=cmp (sNum x) (sDen x) (sNum y) (sDen y)
theorem compare_ev{a b c d:Int}(ha:0≤a)(hb:0<b)(hc:0≤c)(hd:0<d)(la:a≤big)(lb:b≤big)(lc:c≤big)(ld:d≤big):Ev (fun k=>spec_l10Compare.f k a b c d) (cmp a b c d):=by
  have h:=cmp_l0 (b.natAbs+1) 1 a b c d (Or.inl rfl) ha hb hc hd la lb lc ld (by omega);rw[Int.one_mul]at h;exact h
theorem less_eq{a b c d:Int}(ha:0≤a)(hb:0<b)(hc:0≤c)(hd:0<d)(la:a≤59049000000)(lb:b≤6561)(lc:c≤59049000000)(ld:d≤6561):decide (wrap64 (a*d)<wrap64 (c*b))=decide (cmp a b c d= -1):=by
  have m1:a*d≤59049000000*6561:=Int.mul_le_mul (by omega) (by omega) (by omega) (by omega);have m2:c*b≤59049000000*6561:=Int.mul_le_mul (by omega) (by omega) (by omega) (by omega);have n1:0≤a*d:=Int.mul_nonneg (by omega) (by omega);have n2:0≤c*b:=Int.mul_nonneg (by omega) (by omega);rw[w64 (by omega) (by omega),w64 (by omega) (by omega),decide_eq_decide];unfold cmp;split
  · rename_i h;exact⟨fun _=>rfl,fun _=>h⟩
  · rename_i h
    refine⟨fun g=>absurd g h,fun g=>?_⟩;split at g<;>omega
end Net
namespace A
open Plain
open Net (L sNum sDen sCmp)
theorem sless{x y:L}(hx:∀z∈x,Net.Good z)(nx:x.length≤12)(hy:∀z∈y,Net.Good z)(ny:y.length≤12):impl_fraction_less.f (sNum x) (sDen x) (sNum y) (sDen y)=some (decide (sCmp x y= -1)):=by
  have h1:=Net.s_bound nx hx;have h2:=Net.s_bound ny hy;unfold impl_fraction_less.f;rw[Net.less_eq h1.2.1 h1.1.1 h2.2.1 h2.1.1 h1.2.2 h1.1.2 h2.2.2 h2.1.2];rfl
end A
namespace A
open Go YtmgkbhhnchnkcaaGreatDoorW.PrintLast YtmgkbhhnchnkcaaGreatDoorW.PrintMore
open Net (L Sine.Laid legsB legsB_iff areLegs_ev sNum sDen strainW StrainPost sCmp)
def cmpM(x y:L):Int×Bool:=if legsB x=true∧legsB y=true then(sCmp x y,true) else(0,false)
def impl_CompareStrains.f(l0 l1:List (S82)):Option (Int×Bool):=if l0.length≤140737488351232∧l1.length≤140737488351232 then some (cmpM l0 l1) else none
theorem sCmp_three(x y:L):sCmp x y= -1∨sCmp x y=0∨sCmp x y=1:=by
  unfold sCmp Frac.cmp;split
  · exact Or.inl rfl
  · split
    · exact Or.inr (Or.inr rfl)
    · exact Or.inr (Or.inl rfl)
theorem sCmp_swap(x y:L):sCmp y x= - sCmp x y:=Frac.cmp_swap _ _ _ _
theorem impl_CompareStrains.calls (A0:Option Addr) (c0:Nat) (l0:List (S82)) (A1:Option Addr) (c1:Nat) (l1:List (S82)) (r1:Int) (r2:Bool) (w:World) (hr0:Kd.C k82 w A0 l0.length l0) (hc0:l0.length≤c0) (hr1:Kd.C k82 w A1 l1.length l1) (hc1:l1.length≤c1) (h:impl_CompareStrains.f l0 l1=some (r1,r2)) (hL:Sine.Laid w):
    Calls Tryz.prog 10 #[.slice A0 l0.length c0,.slice A1 l1.length c1] w fun e w'=>e= .returned (.tuple #[.int .i64 r1,.bool r2])∧Below w.heap.size w w':=by
  unfold impl_CompareStrains.f at h;by_cases hb:l0.length≤140737488351232∧l1.length≤140737488351232;(case neg=>rw[if_neg hb]at h;cases h);rw[if_pos hb]at h;obtain⟨K,hK⟩:=areLegs_ev l0 hb.1;obtain⟨K1,hK1⟩:=areLegs_ev l1 hb.2;have HA:=ak (hK K (Nat.le_refl _));have HA1:=ak (hK1 K1 (Nat.le_refl _));have HR:=ak hr0;have HR1:=ak hr1;have HL:=ak hL;have HB:=ak (Below.refl w.heap.size w);clear hK hK1 hr0 hr1 hL hb;unfold cmpM at h
  have ARE0:∀b,legsB l0=b→Aside0 (∀W,Below w.heap.size w W→Calls Tryz.prog 61 #[.slice A0 l0.length c0] W fun e w'=>e= .returned (.bool b)∧Below W.heap.size W w'):=fun b hb=>⟨fun W hW=>by
    have hq:=HA.out;rw[hb]at hq
    exact impl_areLegs.calls K _ _ l0 b W (Kd.C_below HR.out hW) hc0 hq⟩
  have ARE1:∀b,legsB l1=b→Aside0 (∀W,Below w.heap.size w W→Calls Tryz.prog 61 #[.slice A1 l1.length c1] W fun e w'=>e= .returned (.bool b)∧Below W.heap.size W w'):=fun b hb=>⟨fun W hW=>by
    have hq:=HA1.out;rw[hb]at hq
    exact impl_areLegs.calls K1 _ _ l1 b W (Kd.C_below HR1.out hW) hc1 hq⟩
  cases hv:legsB l0
  · rw[if_neg (by rw[hv];simp)]at h
    simp only[Option.some.injEq,Prod.mk.injEq]at h;obtain⟨rfl,rfl⟩:=h;have HC:=ARE0 false hv;clear hv ARE0 ARE1;go_enter Tryz.func10,Tryz.ntmps10;go_wp2_with (go_at_call 61;(with_reducible refine(HC.out _ qz6).mono ?_);rintro e w' ⟨rfl,hw⟩;replace HB:=ak (below_step (show Below w.heap.size w _ from by(repeat(first|exact HB.out|exact Below.refl _ _|apply below_alloc|apply pw_below_drewN|apply below_drew1));done) hw);clear hw);exact bodyPost_ret (v:= .tuple #[.int .i64 0,.bool false]) qz82 rfl ⟨rfl,qz6⟩
  · cases hv1:legsB l1
    · rw[if_neg (by rw[hv1];simp)]at h
      simp only[Option.some.injEq,Prod.mk.injEq]at h;obtain⟨rfl,rfl⟩:=h;have HC:=ARE0 true hv;have HD:=ARE1 false hv1;clear hv hv1 ARE0 ARE1;go_enter Tryz.func10,Tryz.ntmps10;go_wp2_with (go_at_call 61;first|((with_reducible refine(HC.out _ qz6).mono ?_);rintro e w' ⟨rfl,hw⟩;replace HB:=ak (below_step (show Below w.heap.size w _ from by(repeat(first|exact HB.out|exact Below.refl _ _|apply below_alloc|apply pw_below_drewN|apply below_drew1));done) hw);clear hw)|((with_reducible refine(HD.out _ qz6).mono ?_);rintro e w' ⟨rfl,hw⟩;replace HB:=ak (below_step (show Below w.heap.size w _ from by(repeat(first|exact HB.out|exact Below.refl _ _|apply below_alloc|apply pw_below_drewN|apply below_drew1));done) hw);clear hw));exact bodyPost_ret (v:= .tuple #[.int .i64 0,.bool false]) qz82 rfl ⟨rfl,qz6⟩
    · rw[if_pos ⟨hv,hv1⟩]at h
      simp only[Option.some.injEq,Prod.mk.injEq]at h;obtain⟨rfl,rfl⟩:=h;have HC:=ARE0 true hv;have HD:=ARE1 true hv1;have hg0:=legsB_iff.mp hv;have hg1:=legsB_iff.mp hv1;have S0:Aside0 (∀W,Below w.heap.size w W→Calls Tryz.prog 55 #[.slice A0 l0.length c0] W (StrainPost l0 W)):=⟨fun W hW=>strainW A0 c0 l0 W (HL.out.keep hW) (Kd.C_below HR.out hW) hc0 hg0.2 hg0.1⟩;have S1:Aside0 (∀W,Below w.heap.size w W→Calls Tryz.prog 55 #[.slice A1 l1.length c1] W (StrainPost l1 W)):=⟨fun W hW=>strainW A1 c1 l1 W (HL.out.keep hW) (Kd.C_below HR1.out hW) hc1 hg1.2 hg1.1⟩;have L0:=ak (sless hg0.1 hg0.2 hg1.1 hg1.2);have L1:=ak (sless hg1.1 hg1.2 hg0.1 hg0.2);rw[sCmp_swap l0 l1]at L1
      have hres:(if decide (sCmp l0 l1= -1)=true then(-1:Int) else if decide (-sCmp l0 l1= -1)=true then 1 else 0)=sCmp l0 l1:=by
        rcases sCmp_three l0 l1 with e|e|e<;>rw[e]<;>decide
      clear hv hv1 ARE0 ARE1 hg0 hg1;rw[←hres];generalize decide (sCmp l0 l1= -1)=b0 at *;generalize decide (-sCmp l0 l1= -1)=b1 at *;clear hres;cases b0<;>cases b1
      all_goals go_enter Tryz.func10,Tryz.ntmps10
      all_goals go_wp2_with (first
        |(go_at_call 61;first|((with_reducible refine(HC.out _ qz6).mono ?_);rintro e w' ⟨rfl,hw⟩;replace HB:=ak (below_step (show Below w.heap.size w _ from by(repeat(first|exact HB.out|exact Below.refl _ _|apply below_alloc|apply pw_below_drewN|apply below_drew1));done) hw);clear hw)|((with_reducible refine(HD.out _ qz6).mono ?_);rintro e w' ⟨rfl,hw⟩;replace HB:=ak (below_step (show Below w.heap.size w _ from by(repeat(first|exact HB.out|exact Below.refl _ _|apply below_alloc|apply pw_below_drewN|apply below_drew1));done) hw);clear hw))
        |(go_at_call 55;first|((with_reducible refine(S0.out _ qz6).mono ?_);rintro e w2 ⟨rfl,hw⟩;replace HB:=ak (below_step (show Below w.heap.size w _ from by(repeat(first|exact HB.out|exact Below.refl _ _|apply below_alloc|apply pw_below_drewN|apply below_drew1));done) hw);clear hw)|((with_reducible refine(S1.out _ qz6).mono ?_);rintro e w3 ⟨rfl,hw⟩;replace HB:=ak (below_step (show Below w.heap.size w _ from by(repeat(first|exact HB.out|exact Below.refl _ _|apply below_alloc|apply pw_below_drewN|apply below_drew1));done) hw);clear hw))
        |(go_at_call 62;(with_reducible refine(impl_fraction_less.calls _ _ _ _ _ _ L0.out).mono ?_);rintro e w4 ⟨rfl,hw4⟩;have q0:w4.cell? ⟨w3.heap.size,0,none⟩=some (.int .i64 (sNum l0)):=Net.Sine.keepc (w:=((w3.alloc (Obj.cells #[Value.int IntKind.i64 (sNum l0),Value.int IntKind.i64 (sDen l0)] 60)).alloc (Obj.cells #[Value.int IntKind.i64 (sNum l1),Value.int IntKind.i64 (sDen l1)] 60))) (by go_simp) hw4;have q1:w4.cell? ⟨w3.heap.size,1,none⟩=some (.int .i64 (sDen l0)):=Net.Sine.keepc (w:=((w3.alloc (Obj.cells #[Value.int IntKind.i64 (sNum l0),Value.int IntKind.i64 (sDen l0)] 60)).alloc (Obj.cells #[Value.int IntKind.i64 (sNum l1),Value.int IntKind.i64 (sDen l1)] 60))) (by go_simp) hw4;have q2:w4.cell? ⟨w3.heap.size+1,0,none⟩=some (.int .i64 (sNum l1)):=Net.Sine.keepc (w:=((w3.alloc (Obj.cells #[Value.int IntKind.i64 (sNum l0),Value.int IntKind.i64 (sDen l0)] 60)).alloc (Obj.cells #[Value.int IntKind.i64 (sNum l1),Value.int IntKind.i64 (sDen l1)] 60))) (by go_simp) hw4;have q3:w4.cell? ⟨w3.heap.size+1,1,none⟩=some (.int .i64 (sDen l1)):=Net.Sine.keepc (w:=((w3.alloc (Obj.cells #[Value.int IntKind.i64 (sNum l0),Value.int IntKind.i64 (sDen l0)] 60)).alloc (Obj.cells #[Value.int IntKind.i64 (sNum l1),Value.int IntKind.i64 (sDen l1)] 60))) (by go_simp) hw4;replace HB:=ak (below_step (show Below w.heap.size w ((w3.alloc (Obj.cells #[Value.int IntKind.i64 (sNum l0),Value.int IntKind.i64 (sDen l0)] 60)).alloc (Obj.cells #[Value.int IntKind.i64 (sNum l1),Value.int IntKind.i64 (sDen l1)] 60))from by(repeat(first|exact HB.out|exact Below.refl _ _|apply below_alloc|apply pw_below_drewN|apply below_drew1));done) hw4);clear hw4)
        |(go_at_call 62;(with_reducible refine(impl_fraction_less.calls _ _ _ _ _ _ L1.out).mono ?_);rintro e w5 ⟨rfl,hw5⟩;replace HB:=ak (below_step HB.out hw5);clear hw5))
      all_goals first
        |exact bodyPost_ret (v:= .tuple #[.int .i64 (-1),.bool true]) qz82 rfl ⟨rfl,qz6⟩
        |exact bodyPost_ret (v:= .tuple #[.int .i64 1,.bool true]) qz82 rfl ⟨rfl,qz6⟩
        |exact bodyPost_ret (v:= .tuple #[.int .i64 0,.bool true]) qz82 rfl ⟨rfl,qz6⟩
end A
namespace Net
open Plain A
theorem specRest_eq(x:S82)(h:Good x)(axis:Int)(h0:0≤axis)(h2:axis≤2)(cs:List Int)(h8:cs.length=8)(den:Int):spec_l9Rest.f x.f0 x.f1 x.f2 x.f3 x.f4 axis cs den=some (resM x axis cs den):=by
  unfold spec_l9Rest.f;rw[measure_eq x h axis h0 h2,Option.bind_some];obtain⟨⟨a0,a8⟩,⟨d0,d8⟩,_⟩:=h;rw[if_pos (by omega),if_pos (by omega),if_pos (by omega),if_pos (by omega)];rfl
theorem specRest{ls:L}(hn:ls.length≤12)(hg:∀x∈ls,Good x)(ax:Int)(h0:0≤ax)(h2:ax≤2){i:Int}(hi:i∈usedL ls):spec_l9Rest.f (rd_T82 ls i).f0 (rd_T82 ls i).f1 (rd_T82 ls i).f2 (rd_T82 ls i).f3 (rd_T82 ls i).f4 ax (coL ls ax) (treesM ls)=some (nT ls ax i):=by
  have hr:=usedL_range ls i hi;obtain⟨m,rfl⟩:=Int.eq_ofNat_of_zero_le hr.1;have hx:Good (leg ls (m:Int)):=hg _ (leg_mem (by omega));have h:=specRest_eq (leg ls (m:Int)) hx ax h0 h2 (coL ls ax) (coL_len ls ax) (treesM ls);rw[res_all hn hg ax hi]at h;exact h
theorem squares_loop {ls:L} (hn:ls.length≤12) (hg:∀x∈ls,Good x) (ax:Int) (h0:0≤ax) (h2:ax≤2):∀(d j:Nat),j+d=(usedL ls).length →
    Ev (fun k=>spec_l9Squares.l0 k ls ax (coL ls ax) (treesM ls) (sqTo (resL ls ax) j) (usedL ls) (j:Int)) (redN (SA ls ax) (treesM ls*treesM ls),redD (SA ls ax) (treesM ls*treesM ls)):=by
  have hul:=usedL_len ls;have hrl:(resL ls ax).length=(usedL ls).length:=by unfold resL;rw[List.length_map]
  intro d
  induction d with
  | zero=>
    intro j hj;have ht1:=trees_pos hn hg;have ht2:=trees_le hn hg;have hs:=SA_bound hn hg ax;have hsq:treesM ls*treesM ls≤6561*6561:=Int.mul_le_mul ht2 ht2 (by omega) (by omega);have hsp:0<treesM ls*treesM ls:=Int.mul_pos (by omega) (by omega);have e:sqTo (resL ls ax) j=SA ls ax:=by rw[←sqTo_all hn hg ax,hrl,show j=(usedL ls).length by omega]
    rw[e];refine Ev.step (f:=fun k=>(spec_l9Reduce.f k (SA ls ax) (wrap64 (treesM ls*treesM ls))).bind fun bt=>some (bt.1,bt.2)) (fun k=>?_) ?_
    · simp only[spec_l9Squares.l0]
      rw[if_neg (by omega)]
    · rw[w64 (by omega) (by omega)]
      exact Ev.bind (l9Reduce_ev (SA ls ax) (treesM ls*treesM ls) hsp (by omega) (by omega) (by omega)) (Ev.now _)
  | succ d ih=>
    intro j hj;have hlt:j<(usedL ls).length:=by omega
    have h:=ih (j+1) (by omega);have hm:rd (usedL ls) (j:Int)∈usedL ls:=by rw[rd_get _ j hlt];exact List.getElem_mem hlt
    have hr:=usedL_range ls _ hm;have hs:=specRest hn hg ax h0 h2 hm
    have e:sqTo (resL ls ax) (j+1)=wrap64 (sqTo (resL ls ax) j+wrap64 (nT ls ax (rd (usedL ls) (j:Int))*nT ls ax (rd (usedL ls) (j:Int)))):=by
      rw[sqTo_step _ j (by omega)]
      have e2:rd (resL ls ax) (j:Int)=nT ls ax (rd (usedL ls) (j:Int)):=by
        rw[rd_get _ j (by omega),rd_get _ j hlt];unfold resL;rw[List.getElem_map]
      rw[e2]
    refine Ev.step (fun k=>?_) h;simp only[spec_l9Squares.l0];rw[if_pos (by omega),if_pos (by omega),if_pos hr.1,if_pos hr.2,hs,Option.bind_some,e,w64 (x:=(j:Int)+1) (by omega) (by omega)];rfl
theorem l9Squares_ev{ls:L}(hv:legsB ls=true)(ax:Int)(h0:0≤ax)(h2:ax≤2):Ev (fun k=>spec_l9Squares.f k ls ax) (redN (SA ls ax) (treesM ls*treesM ls),redD (SA ls ax) (treesM ls*treesM ls)):=by
  have h':=legsB_iff.mp hv;have ht:spec_l9Trees.f ls=some (treesM ls):=by unfold spec_l9Trees.f;rw[if_pos hv]
  have ha:spec_l9Adjust.f ls ax=some (coL ls ax):=by unfold spec_l9Adjust.f;rw[if_pos ⟨hv,h0,h2⟩]
  exact Ev.bindc ha (Ev.bindc ht (Ev.bind (l9Legs_ev h'.2 h'.1) (squares_loop h'.2 h'.1 ax h0 h2 (usedL ls).length 0 (by omega))))
end Net
namespace Net
open Plain A Frac
theorem common_ev(a b:Int)(ha:0≤a)(hb:0<b):Ev (fun k=>spec_l10Common.f k a b) (Int.gcd a b:Int):=by
  obtain⟨z,hz,hs,K,hK⟩:=gcd_loop (g:=spec_l10Common.l0) (fin:=fun a=>a) (fun k a=>by
    unfold spec_l10Common.l0;rw[if_pos rfl]) (fun k a b hb=>by
    conv=>lhs;unfold spec_l10Common.l0
    rw[if_neg hb]) (b.natAbs+1) a b (by omega)
  have h0:=hs ha (by omega);rw[show((Int.gcd a b:Nat):Int)=z by omega];exact⟨K,fun k hk=>hK k hk⟩
theorem strain_step{ls:L}(hv:legsB ls=true)(ax:Int)(h0:0≤ax)(h2:ax≤2){num den N:Int}(hR:Red num den N (treesM ls))(hN:0≤N)(hN2:N≤59049000000):
    ∃num' den',Red num' den' (N+AM ls ax) (treesM ls)∧∀v,Ev (fun k=>spec_l10Strain.l0 k ls num' den' (ax+1)) v→Ev (fun k=>spec_l10Strain.l0 k ls num den ax) v:=by
  have h':=legsB_iff.mp hv;have ht:=trees_pos h'.2 h'.1;have ht2:=trees_le h'.2 h'.1;have hsp:0<treesM ls*treesM ls:=Int.mul_pos (by omega) (by omega);have hq:=squares_red h'.2 h'.1 (red_red (n:=SA ls ax) hsp);have hsq:=l9Squares_ev hv ax h0 h2;generalize redN (SA ls ax) (treesM ls*treesM ls)=a at *;generalize redD (SA ls ax) (treesM ls*treesM ls)=b at *;have hA:=AM_bound h'.2 h'.1 ax;have hb1:=Red.le (by omega) hA.1 hq;have hd1:=Red.le (by omega) hN hR;have hd:=hR.1;have hb:=hq.1;have hg:=gcd_small (n:=den) hb (by omega);have hcm:=common_ev den b (by omega) hb;generalize hgg:Int.gcd den b=g at *;have e1:den.tdiv (g:Int)*(g:Int)=den:=Int.tdiv_mul_cancel (by rw[←hgg];exact Int.gcd_dvd_left ..);have e2:b.tdiv (g:Int)*(g:Int)=b:=Int.tdiv_mul_cancel (by rw[←hgg];exact Int.gcd_dvd_right ..);have hsum:=Red.sum hd hb (g:=(g:Int)) (by omega) hR.2.2 hq.2.2 e1 e2;have q1:=tdiv_small den g (B:=6561) (by omega) (by omega);have q2:=tdiv_small b g (B:=6561) (by omega) (by omega);have p1:0≤den.tdiv (g:Int):=Int.tdiv_nonneg (by omega) (by omega);have p2:0≤b.tdiv (g:Int):=Int.tdiv_nonneg (by omega) (by omega);have w1:=wtdiv den g (by omega) (by omega);have w2:=wtdiv b g (by omega) (by omega)
  have hdp:0<den.tdiv (g:Int):=by
    rcases Int.lt_or_le 0 (den.tdiv (g:Int))with c|c
    · exact c
    · exfalso
      rw[show den.tdiv (g:Int)=0 by omega]at e1;omega
  generalize hu:den.tdiv (g:Int)=u at *;generalize htt:b.tdiv (g:Int)=t at *;have m1:num*t≤59049000000*6561:=Int.mul_le_mul (by omega) (by omega) (by omega) (by omega);have m2:a*u≤59049000000*6561:=Int.mul_le_mul (by omega) (by omega) (by omega) (by omega);have m3:u*b≤6561*6561:=Int.mul_le_mul (by omega) (by omega) (by omega) (by omega);have n1:0≤num*t:=Int.mul_nonneg (by omega) (by omega);have n2:0≤a*u:=Int.mul_nonneg (by omega) (by omega);have n3:0<u*b:=Int.mul_pos hdp hb;have x1:wrap64 (num*t)=num*t:=w64 (by omega) (by omega);have x2:wrap64 (a*u)=a*u:=w64 (by omega) (by omega);have x3:wrap64 (u*b)=u*b:=w64 (by omega) (by omega);have x4:wrap64 (num*t+a*u)=num*t+a*u:=w64 (by omega) (by omega);have hred:=l9Reduce_ev (num*t+a*u) (u*b) n3 (by omega) (by omega) (by omega);have hR2:=Red.change (T:=treesM ls) (N:=N+AM ls ax) n3 (red_red (n:=num*t+a*u) n3) hsum;refine⟨_,_,hR2,fun v hv2=>?_⟩;have hax:wrap64 (ax+1)=ax+1:=w64 (by omega) (by omega);refine Ev.step (f:=fun k=>(spec_l9Squares.f k ls ax).bind fun bt250=>((spec_l10Common.f k den bt250.2).bind fun t252=>(if t252=0 then(none) else((spec_l10Common.f k den bt250.2).bind fun t253=>(if t253=0 then(none) else((spec_l10Common.f k den bt250.2).bind fun t254=>(if t254=0 then(none) else((spec_l9Reduce.f k (wrap64 ((wrap64 (num*(wrap64 (Int.tdiv bt250.2 t252))))+(wrap64 (bt250.1*(wrap64 (Int.tdiv den t253)))))) (wrap64 ((wrap64 (Int.tdiv den t254))*bt250.2))).bind fun bt255=>(spec_l10Strain.l0 k ls bt255.1 bt255.2 (wrap64 (ax+1))))))))))) (fun k=>?_) ?_
  · conv=>lhs;unfold spec_l10Strain.l0
    rw[if_pos (by omega)]
  · refine Ev.bind hsq (Ev.bind hcm (Ev.neg (by omega) (Ev.bind hcm (Ev.neg (by omega) (Ev.bind hcm (Ev.neg (by omega) ?_))))))
    simp only[w1,w2,htt,hu,x1,x2,x3,x4,hax];exact Ev.bind hred hv2
theorem strain_ev{ls:L}(hv:legsB ls=true):Ev (fun k=>spec_l10Strain.f k ls) (sNum ls,sDen ls):=by
  have h':=legsB_iff.mp hv;have ht:=trees_pos h'.2 h'.1;have a0:=AM_bound h'.2 h'.1 0;have a1:=AM_bound h'.2 h'.1 1;have a2:=AM_bound h'.2 h'.1 2;obtain⟨n1,d1,r1,s1⟩:=strain_step hv 0 (by decide) (by decide) (num:=0) (den:=1) (N:=0) ⟨by decide,by decide,by omega⟩ (by decide) (by decide);obtain⟨n2,d2,r2,s2⟩:=strain_step hv 1 (by decide) (by decide) r1 (by omega) (by omega);obtain⟨n3,d3,r3,s3⟩:=strain_step hv 2 (by decide) (by decide) r2 (by omega) (by omega);have hs:=sRed h'.2 h'.1;rw[show(0:Int)+AM ls 0+AM ls 1+AM ls 2=sN ls from by unfold sN;omega]at r3;obtain⟨e1,e2⟩:=Red.unique (by omega) r3 hs;rw[←e1,←e2];refine s1 _ (s2 _ (s3 _ ?_));refine Ev.step (f:=fun _=>some (n3,d3)) (fun k=>?_) (Ev.now _)
  conv=>lhs;unfold spec_l10Strain.l0
  rw[if_neg (by omega)]
structure BS where
  b:Int
  h:Int
  y:L
def stepB(ls:L)(k:Nat)(st:BS)(fix:Int):BS:=if Good (fixX (leg ls k) fix)∧sCmp (ls.set k (fixX (leg ls k) fix)) st.y= -1 then⟨k,fix,ls.set k (fixX (leg ls k) fix)⟩ else st
def fixTo(ls:L)(k:Nat)(st:BS):Nat→BS
  |0=>st
  |m+1=>stepB ls k (fixTo ls k st m) ((m:Int)+1)
def bestL(ls:L)(l:List Int):BS:=l.foldl (fun st k=>fixTo ls k.toNat st 4) ⟨0,0,ls⟩
def bestB(ls:L):BS:=bestL ls (usedL ls)
theorem bestL_snoc(ls:L)(l:List Int)(k:Int):bestL ls (l++[k])=fixTo ls k.toNat (bestL ls l) 4:=by
  unfold bestL;rw[List.foldl_append];rfl
structure BOk(ls:L)(st:BS):Prop where
  len:st.y.length=ls.length
  good:∀x∈st.y,Good x
  what:(st.h=0∧st.b=0∧st.y=ls)∨∃k:Nat,st.b=k∧k<ls.length∧(1≤st.h∧st.h≤4)∧Good (fixX (leg ls k) st.h)∧st.y=ls.set k (fixX (leg ls k) st.h)
theorem BOk.start{ls:L}(hg:∀x∈ls,Good x):BOk ls ⟨0,0,ls⟩:=⟨rfl,hg,Or.inl ⟨rfl,rfl,rfl⟩⟩
theorem set_good{ls:L}(hg:∀x∈ls,Good x)(k:Nat){x:S82}(hx:Good x):∀y∈ls.set k x,Good y:=fun y hy=>by
  rcases List.mem_or_eq_of_mem_set hy with h|h
  · exact hg y h
  · rw[h];exact hx
theorem BOk.step{ls:L}(hg:∀x∈ls,Good x){st:BS}(h:BOk ls st)(k:Nat)(hk:k<ls.length)(fix:Int)(h1:1≤fix)(h4:fix≤4):BOk ls (stepB ls k st fix):=by
  unfold stepB;split
  · rename_i c
    exact⟨List.length_set ..,set_good hg k c.1,Or.inr ⟨k,rfl,hk,⟨h1,h4⟩,c.1,rfl⟩⟩
  · exact h
theorem BOk.fixS{ls:L}(hg:∀x∈ls,Good x){st:BS}(h:BOk ls st)(k:Nat)(hk:k<ls.length):∀m:Nat,m≤4→BOk ls (fixTo ls k st m)
  |0,_=>h
  |m+1,hm=>(BOk.fixS hg h k hk m (by omega)).step hg k hk _ (by omega) (by omega)
theorem BOk.fold{ls:L}(hg:∀x∈ls,Good x):∀(l:List Int) (st:BS),BOk ls st→(∀i∈l,0≤i∧i<(ls.length:Int))→BOk ls (l.foldl (fun st k=>fixTo ls k.toNat st 4) st)
  |[],_,h,_=>h
  | k::l,st,h,hr=>by
    have hk:=hr k (by simp);exact BOk.fold hg l _ (h.fixS hg k.toNat (by omega) 4 (by omega)) (fun i hi=>hr i (by simp[hi]))
theorem BOk.list{ls:L}(hg:∀x∈ls,Good x)(l:List Int)(h:∀i∈l,0≤i∧i<(ls.length:Int)):BOk ls (bestL ls l):=BOk.fold hg l _ (BOk.start hg) h
theorem BOk.best{ls:L}(hg:∀x∈ls,Good x):BOk ls (bestB ls):=BOk.list hg _ (usedL_range ls)
end Net
namespace Net
open Go A Plain
structure Off(g:Nat)(w w':World):Prop where
  os:w'.os=w.os
  tape:w'.tape=w.tape
  output:w'.output=w.output
  size:w.heap.size≤w'.heap.size
  block:∀k,k≠g→k<w.heap.size→w'.heap[k]?=w.heap[k]?
theorem Off.refl(g:Nat)(w:World):Off g w w:=⟨rfl,rfl,rfl,Nat.le_refl _,fun _ _ _=>rfl⟩
theorem Off.trans{g:Nat}{a b c:World}(h:Off g a b)(k:Off g b c):Off g a c:=
  ⟨k.os.trans h.os,k.tape.trans h.tape,k.output.trans h.output,Nat.le_trans h.size k.size,fun i hi hs=>(k.block i hi (Nat.lt_of_lt_of_le hs h.size)).trans (h.block i hi hs)⟩
theorem Off.of{g:Nat}{w w':World}(h:Below w.heap.size w w'):Off g w w':=⟨h.os,h.tape,h.output,h.size,fun k _ hs=>h.block k hs⟩
theorem Off.set{g i:Nat}{a w:World}(h:Off g a w)(u:Value):Off g a (w.setCell ⟨g,i,none⟩ u):=by
  have hb:=(Below.refl 0 w).setCell (p:=⟨g,i,none⟩) (Nat.zero_le _) u;exact h.trans ⟨hb.os,hb.tape,hb.output,hb.size,fun k hk _=>Below.heap_setCell w _ u k hk⟩
theorem Off.below{g:Nat}{w w':World}(h:Off g w w')(hg:g≤w.heap.size):Below g w w':=⟨h.os,h.tape,h.output,h.size,fun k hk=>h.block k (by omega) (by omega)⟩
theorem Off.cell{g:Nat}{w w':World}{p:Addr}{v:Value}(h:Off g w w')(hc:w.cell? p=some v)(hp:p.block≠g):w'.cell? p=some v:=
  (World.cell?_of_block (w:=w) (h.block p.block hp (World.block_lt_of_cell? w _ hc))).trans hc
theorem Off.step{g:Nat}{a w w':World}(h:Off g a w)(hb:Below w.heap.size w w'):Off g a w':=h.trans (Off.of hb)
theorem listForm{w5:World}{v:Value}{l:List Int}{base:Nat}{ok:Nat→Prop}(h:Kd.R (Kd.int .i64) 3 w5 base ok v l):∃A hh cp,v= .slice A l.length cp∧(0<l.length→A=some ⟨hh,0,none⟩∧base≤hh∧hh<w5.heap.size∧∀t:Nat,t<l.length→w5.cell? ⟨hh,t,none⟩=some (.int .i64 (rd l (t:Int)))):=by
  by_cases hp:0<l.length
  · obtain⟨g,cap,rfl,h1,h2,_⟩:=Kd.R_form h hp
    exact⟨_,g,cap,rfl,fun _=>⟨rfl,h1,h2,fun t ht=>by
      have h3:=(Kd.R_celln 0 h (t:Int) (by omega) (by omega)).1;rw[Int.toNat_natCast]at h3
      exact h3⟩⟩
  · obtain⟨A,cp,rfl⟩:=Kd.R_slice h
    exact⟨A,0,cp,rfl,fun h=>absurd h hp⟩
end Net
namespace Net
open Go YtmgkbhhnchnkcaaGreatDoorW.PrintLast YtmgkbhhnchnkcaaGreatDoorW.PrintMore A Plain
structure Lst7(q:Nat)(y:L)(W:World):Prop where
  c0:W.cell? ⟨q,0,none⟩=some (.int .i64 (sNum y))
  c1:W.cell? ⟨q,1,none⟩=some (.int .i64 (sDen y))
  z0:W.frozen? ⟨q,0,none⟩=false
  z1:W.frozen? ⟨q,1,none⟩=false
theorem Lst7.keep{q:Nat}{y:L}{W W':World}(h:Lst7 q y W)(hb:Below W.heap.size W W'):Lst7 q y W':=⟨Sine.keepc h.c0 hb,Sine.keepc h.c1 hb,keepz h.c0 h.z0 hb,keepz h.c1 h.z1 hb⟩
theorem Lst7.put{q:Nat}{y y':L}{W:World}(h:Lst7 q y W):Lst7 q y' ((W.setCell ⟨q,0,none⟩ (.int .i64 (sNum y'))).setCell ⟨q,1,none⟩ (.int .i64 (sDen y'))):=by
  have h0:(W.setCell ⟨q,0,none⟩ (.int .i64 (sNum y'))).cell? ⟨q,0,none⟩=some (.int .i64 (sNum y')):=by simpa using World.cell?_setCell_same _ _ _ h.c0
  have h1:(W.setCell ⟨q,0,none⟩ (.int .i64 (sNum y'))).cell? ⟨q,1,none⟩=some (.int .i64 (sDen y)):=far h.c1 (offne (by decide));exact⟨far h0 (offne (by decide)),(by simpa using World.cell?_setCell_same _ _ _ h1),(by rw[World.frozen?_setCell,World.frozen?_setCell];exact h.z0),(by rw[World.frozen?_setCell,World.frozen?_setCell];exact h.z1)⟩
theorem fixedM_yes{x:S82}{fix:Int}(h1:1≤fix)(h4:fix≤4):(fixedM x fix).1=fixX x fix∧(fixedM x fix).2=decide (Good (fixX x fix)):=by
  unfold fixedM;rw[if_pos ⟨h1,h4⟩];exact⟨rfl,rfl⟩
theorem bestL_take(ls:L)(j:Nat)(h:j<(usedL ls).length):bestL ls ((usedL ls).take (j+1))=fixTo ls (rd (usedL ls) (j:Int)).toNat (bestL ls ((usedL ls).take j)) 4:=by
  rw[List.take_succ_eq_append_getElem h,bestL_snoc,rd_get _ j h]
def BestPost(ls:L)(w:World)(e:Ending)(w':World):Prop:=e= .returned (.tuple #[.int .i64 (bestB ls).b,.int .i64 (bestB ls).h,.bool ((bestB ls).h !=0)])∧Below w.heap.size w w'
theorem bestFixW (A:Option Addr) (c:Nat) (ls:L) (w:World) (hL:Sine.Laid w) (hr0:Kd.C k82 w A ls.length ls) (hc:ls.length≤c) (hn:ls.length≤12) (hg:∀x∈ls,Good x):
    Calls Tryz.prog 73 #[.slice A ls.length c] w (BestPost ls w):=by
  have HR:=ak hr0;have HL:=ak hL;have HG:=ak hg;have HB:=ak (Below.refl w.heap.size w);have hul:=usedL_len ls;have HUR:=ak (usedL_range ls);have HBK:Aside0 (∀l:List Int,(∀i∈l,0≤i∧i<(ls.length:Int))→BOk ls (bestL ls l)):=⟨fun l h=>BOk.list hg l h⟩;have HEND:Aside0 (bestB ls=bestL ls ((usedL ls).take (usedL ls).length)):=⟨(by rw[List.take_length];rfl)⟩;clear hL hr0 hg;go_enter Tryz.func73,Tryz.ntmps73
  go_wp2_with (first
    |(go_at_call 55;(with_reducible refine(strainW A c ls _ ?s1 ?s2 hc hn HG.out).mono ?_);(case s1=>exact HL.out.keep qz6);(case s2=>exact Kd.C_below HR.out qz6);rintro e w2 ⟨rfl,hw⟩;replace HB:=ak (below_alloc (below_step (show Below w.heap.size w _ from by(repeat(first|exact HB.out|exact Below.refl _ _|apply below_alloc|apply pw_below_drewN|apply below_drew1));done) hw) (Obj.cells #[Value.int IntKind.i64 (sNum ls),Value.int IntKind.i64 (sDen ls)] 60));have L7:Lst7 w2.heap.size ls (w2.alloc (Obj.cells #[Value.int IntKind.i64 (sNum ls),Value.int IntKind.i64 (sDen ls)] 60)):=⟨by go_simp,by go_simp,by go_simp,by go_simp⟩;have hq7:w.heap.size≤w2.heap.size:=hw.size;clear hw)
    |(go_at_call 66;generalize w2.alloc (Obj.cells #[Value.int IntKind.i64 (sNum ls),Value.int IntKind.i64 (sDen ls)] 60)=w3 at *;(with_reducible refine(place A c ls _ ?s1 ?s2 hc hn HG.out (RR ls) rfl).mono ?_);(case s1=>exact HL.out.keep HB.out);(case s2=>exact Kd.C_below HR.out HB.out);rintro e w4 ⟨g,T,cl,rfl,hst,ho,hw⟩;replace HB:=ak (below_step HB.out hw);replace L7:=L7.keep hw;have HS:=ak hst;clear ho hw hst)
    |(go_at_call 67;have hq:=placedLegsW A c ls w4 HS.out (World.block_lt_of_cell? _ _ HS.out.tc) HS.out.ge (Kd.C_below HR.out HB.out) hc hn HG.out;(with_reducible refine hq.mono ?_);clear hq;rintro e w5 ⟨v,rfl,hv,hw⟩;replace HB:=ak (below_step HB.out hw);have hq4:=World.block_lt_of_cell? _ _ L7.c0;replace L7:=L7.keep hw;clear HS;obtain⟨A5,hh,c5,ev,hres⟩:=listForm hv;subst ev;rw[show plcL ls (RR ls) ls.length=usedL ls from rfl]at hres;have HRS:=ak hres;clear hv hw hres))
  rw[show(plcL ls (RR ls) ls.length).length=(usedL ls).length from rfl];have HBW:Aside0 (∀W,Off w2.heap.size w5 W→Below w.heap.size w W):=⟨fun W h=>HB.out.trans ((h.below (Nat.le_of_lt (World.block_lt_of_cell? _ _ L7.c0))).mono hq7)⟩;have HL7:=ak L7;clear L7;have HAH:Aside0 (0<(usedL ls).length→A5=some ⟨hh,0,none⟩∧w2.heap.size≠hh):=⟨fun h=>⟨(HRS.out h).1,(by have:=(HRS.out h).2.1;have hq5:w2.heap.size<w4.heap.size:=hq4;omega)⟩⟩;have HC5:Aside0 (∀t:Nat,t<(usedL ls).length→w5.cell? ⟨hh,t,none⟩=some (.int .i64 (rd (usedL ls) (t:Int)))):=⟨fun t ht=>(HRS.out (by omega)).2.2.2 t ht⟩;clear HRS hq4;generalize w2.heap.size=q7 at *
  go_loopw [5,6,21] (fun v5 v6 v21 W=>∃j:Nat,j≤(usedL ls).length∧v21= .int .i64 j∧v5= .int .i64 (bestL ls ((usedL ls).take j)).b∧v6= .int .i64 (bestL ls ((usedL ls).take j)).h∧Aside0 (Lst7 q7 (bestL ls ((usedL ls).take j)).y W)∧Aside0 (Off q7 w5 W)) (fun _ _ v21 _=>(usedL ls).length-(intOf v21).toNat)
  case atStart=>exact⟨0,Nat.zero_le _,rfl,rfl,rfl,HL7,⟨Off.refl _ _⟩⟩
  case round=>
    obtain⟨j,hj,rfl,rfl,rfl,H7,HO⟩:=hrel;clear HL7;by_cases hlt:j<(usedL ls).length
    · have hpos :0<(usedL ls).length:=by omega
      have j0:(0:Int)≤(j:Int):=by omega
      have j1:(j:Int)<((usedL ls).length:Int):=by omega
      have hmem:rd (usedL ls) (j:Int)∈usedL ls:=by rw[rd_get _ j hlt];exact List.getElem_mem hlt
      have hur:=HUR.out _ hmem;have hok:=HBK.out ((usedL ls).take j) (fun i hi=>HUR.out i (List.mem_of_mem_take hi));have h31:=HO.out.cell (HC5.out j hlt) (HAH.out hpos).2.symm;have hA5:=(HAH.out hpos).1;have HNX:=ak (bestL_take ls j hlt);generalize rd (usedL ls) (j:Int)=kz at *;obtain⟨kk,rfl⟩:=Int.eq_ofNat_of_zero_le hur.1;have hkk:kk<ls.length:=by omega
      rw[Int.toNat_natCast]at HNX;subst hA5;have HOK:=ak hok;clear hok hmem hur;generalize bestL ls ((usedL ls).take j)=st at *;go_wp2
      go_loopw [5,6,10] (fun v5 v6 v10 W=>∃m:Nat,m≤4∧v10= .int .i64 ((m+1:Nat):Int)∧v5= .int .i64 (fixTo ls kk st m).b∧v6= .int .i64 (fixTo ls kk st m).h∧Aside0 (Lst7 q7 (fixTo ls kk st m).y W)∧Aside0 (Off q7 w5 W)) (fun _ _ v10 _=>5-(intOf v10).toNat)
      case atStart=>exact⟨0,by omega,rfl,rfl,rfl,H7,HO⟩
      case round=>
        obtain⟨m,hm,rfl,rfl,rfl,H8,HP⟩:=hrel;clear H7 HO h31;by_cases hm4:m<4
        · have f1:(1:Int)≤((m+1:Nat):Int):=by omega
          have f4:((m+1:Nat):Int)≤4:=by omega
          have HE:Aside0 (fixTo ls kk st (m+1)=stepB ls kk (fixTo ls kk st m) ((m+1:Nat):Int)):=⟨rfl⟩;have hok2:=HOK.out.fixS HG.out kk hkk m (by omega);have hnx:wrap64 (((m+1:Nat):Int)+1)=((m+1+1:Nat):Int):=by unfold wrap64;omega
          have HMS:Aside0 (5-((m+1+1:Nat):Int).toNat<5-((m+1:Nat):Int).toNat):=⟨by omega⟩;have HNX2:Aside0 (wrap64 (((m+1:Nat):Int)+1)=((m+1+1:Nat):Int)):=⟨hnx⟩;clear hnx;generalize fixTo ls kk st m=sm at *;generalize hfx:((m+1:Nat):Int)=fx at *;have HFE:=ak hfx;clear hfx;have hy:=fixedM_yes (x:=leg ls (kk:Int)) f1 f4;unfold stepB at HE;by_cases hgd:Good (fixX (leg ls (kk:Int)) fx)
          · rw [decide_eq_true hgd]at hy
            have HYG:=ak (set_good HG.out kk hgd);have hyn:(ls.set kk (fixX (leg ls (kk:Int)) fx)).length≤12:=by rw[List.length_set];exact hn
            have HFY:Aside0 (∀W,Below w.heap.size w W→Calls Tryz.prog 70 #[.slice A ls.length c,.int .i64 (kk:Int),.int .i64 fx] W fun e w'=>∃v,e= .returned (.tuple #[v,.bool true])∧Kd.R k82 82 w' W.heap.size (fun _=>True) v (ls.set kk (fixX (leg ls (kk:Int)) fx))∧Below W.heap.size W w'):=⟨fun W hW=>by
              have hq:=fixLegYes A c ls kk fx W (Kd.C_below HR.out hW) hc hn hkk hy.2;rw[hy.1]at hq
              exact hq⟩
            have HSL:=ak (sless HYG.out hyn hok2.good (by rw[hok2.len];exact hn));clear hy hok2;generalize ls.set kk (fixX (leg ls (kk:Int)) fx)=y at *;by_cases hcmp:sCmp y sm.y= -1
            · rw[decide_eq_true hcmp]at HSL
              have HE2:=ak (HE.out.trans (if_pos ⟨hgd,hcmp⟩));clear HE hcmp hgd
              go_wp2_with (first
                |(go_at_call 70;(with_reducible refine(HFY.out _ (HBW.out _ HP.out)).mono ?_);rintro e w6 ⟨v,rfl,hv,hw⟩;obtain⟨A1,c1,ev⟩:=Kd.R_slice hv;subst ev;have HV:=ak (Kd.R_reads' hv).2;replace H8:=ak (H8.out.keep hw);replace HP:=ak (HP.out.step hw);clear hv hw)
                |(go_at_call 55;(with_reducible refine(strainW A1 c1 y _ ?s1 HV.out.2 HV.out.1 hyn HYG.out).mono ?_);(case s1=>exact HL.out.keep (HBW.out _ HP.out));rintro e w7 ⟨rfl,hw⟩;replace H8:=ak (H8.out.keep hw);replace HP:=ak (HP.out.step hw);have B8:=below_alloc (Below.refl w7.heap.size w7) (Obj.cells #[Value.int IntKind.i64 (sNum y),Value.int IntKind.i64 (sDen y)] 60);obtain⟨x0,x1,_,_⟩:=H8.out.keep B8;have e0:(w7.alloc (Obj.cells #[Value.int IntKind.i64 (sNum y),Value.int IntKind.i64 (sDen y)] 60)).cell? ⟨w7.heap.size,0,none⟩=some (.int .i64 (sNum y)):=(by go_simp);have e1:(w7.alloc (Obj.cells #[Value.int IntKind.i64 (sNum y),Value.int IntKind.i64 (sDen y)] 60)).cell? ⟨w7.heap.size,1,none⟩=some (.int .i64 (sDen y)):=(by go_simp);have H9:=ak (H8.out.keep B8);have HP9:=ak (HP.out.step B8);clear hw B8)
                |(go_at_call 62;generalize w7.alloc (Obj.cells #[Value.int IntKind.i64 (sNum y),Value.int IntKind.i64 (sDen y)] 60)=w8 at *;(with_reducible refine(impl_fraction_less.calls _ _ _ _ _ _ HSL.out).mono ?_);rintro e w9 ⟨rfl,hw⟩;replace e0:=Sine.keepc e0 hw;replace e1:=Sine.keepc e1 hw;replace H9:=ak (H9.out.keep hw);replace HP9:=ak (HP9.out.step hw);obtain⟨y0,y1,y2,y3⟩:=H9.out;clear hw x0 x1))
              go_region
              all_goals go_wp2
              all_goals exact⟨⟨m+1,by omega,qz93,(by rw[HE2.out]),(by rw[HE2.out]),(by rw[HE2.out];exact⟨(H9.out.put (y':=y)).keep (below_drew1 (Below.refl _ _))⟩),⟨((HP9.out.set _).set _).step (below_drew1 (Below.refl _ _))⟩⟩,(by have:=HMS.out;simp[intOf];omega)⟩
            · rw[decide_eq_false hcmp]at HSL
              have HE2:=ak (HE.out.trans (if_neg (fun e=>hcmp e.2)));clear HE hcmp hgd
              go_wp2_with (first
                |(go_at_call 70;(with_reducible refine(HFY.out _ (HBW.out _ HP.out)).mono ?_);rintro e w6 ⟨v,rfl,hv,hw⟩;obtain⟨A1,c1,ev⟩:=Kd.R_slice hv;subst ev;have HV:=ak (Kd.R_reads' hv).2;replace H8:=ak (H8.out.keep hw);replace HP:=ak (HP.out.step hw);clear hv hw)
                |(go_at_call 55;(with_reducible refine(strainW A1 c1 y _ ?s1 HV.out.2 HV.out.1 hyn HYG.out).mono ?_);(case s1=>exact HL.out.keep (HBW.out _ HP.out));rintro e w7 ⟨rfl,hw⟩;replace H8:=ak (H8.out.keep hw);replace HP:=ak (HP.out.step hw);have B8:=below_alloc (Below.refl w7.heap.size w7) (Obj.cells #[Value.int IntKind.i64 (sNum y),Value.int IntKind.i64 (sDen y)] 60);obtain⟨x0,x1,_,_⟩:=H8.out.keep B8;have e0:(w7.alloc (Obj.cells #[Value.int IntKind.i64 (sNum y),Value.int IntKind.i64 (sDen y)] 60)).cell? ⟨w7.heap.size,0,none⟩=some (.int .i64 (sNum y)):=(by go_simp);have e1:(w7.alloc (Obj.cells #[Value.int IntKind.i64 (sNum y),Value.int IntKind.i64 (sDen y)] 60)).cell? ⟨w7.heap.size,1,none⟩=some (.int .i64 (sDen y)):=(by go_simp);have H9:=ak (H8.out.keep B8);have HP9:=ak (HP.out.step B8);clear hw B8)
                |(go_at_call 62;generalize w7.alloc (Obj.cells #[Value.int IntKind.i64 (sNum y),Value.int IntKind.i64 (sDen y)] 60)=w8 at *;(with_reducible refine(impl_fraction_less.calls _ _ _ _ _ _ HSL.out).mono ?_);rintro e w9 ⟨rfl,hw⟩;replace e0:=Sine.keepc e0 hw;replace e1:=Sine.keepc e1 hw;replace H9:=ak (H9.out.keep hw);replace HP9:=ak (HP9.out.step hw);obtain⟨y0,y1,y2,y3⟩:=H9.out;clear hw x0 x1))
              exact⟨⟨m+1,by omega,qz93,(by rw[HE2.out]),(by rw[HE2.out]),(by rw[HE2.out];exact H9),HP9⟩,(by have:=HMS.out;simp[intOf];omega)⟩
          · have HE2:=ak (HE.out.trans (if_neg (fun e=>hgd e.1)))
            rw[decide_eq_false hgd]at hy;have HFN:Aside0 (∀W,Below w.heap.size w W→Calls Tryz.prog 70 #[.slice A ls.length c,.int .i64 (kk:Int),.int .i64 fx] W fun e w'=>e= .returned (.tuple #[.slice none 0 0,.bool false])∧Below W.heap.size W w'):=⟨fun W hW=>fixLegNo A c ls kk fx W (Kd.C_below HR.out hW) hkk hy.2⟩;clear HE hy hgd hok2;go_wp2_with (go_at_call 70;(with_reducible refine(HFN.out _ (HBW.out _ HP.out)).mono ?_);rintro e w6 ⟨rfl,hw⟩;replace H8:=ak (H8.out.keep hw);replace HP:=ak (HP.out.step hw);clear hw);exact⟨⟨m+1,by omega,qz93,(by rw[HE2.out]),(by rw[HE2.out]),(by rw[HE2.out];exact H8),HP⟩,(by have:=HMS.out;simp[intOf];omega)⟩
        · obtain rfl:m=4:=by omega
          have HNX2:=HNX.out;go_wp2;exact⟨⟨j+1,hlt,by go_num,by rw[HNX2],by rw[HNX2],(by rw[HNX2];exact H8),HP⟩,qz45⟩
    · obtain rfl:j=(usedL ls).length:=by omega
      have HE:=HEND.out;go_wp2;exact bodyPost_ret (v:= .tuple #[.int .i64 (bestL ls ((usedL ls).take (usedL ls).length)).b,.int .i64 (bestL ls ((usedL ls).take (usedL ls).length)).h,.bool ((bestL ls ((usedL ls).take (usedL ls).length)).h !=0)]) (by simp[results,Tryz.results73,go_sem]) rfl ⟨by rw[HE],HBW.out _ HO.out⟩
end Net
namespace A
open Go YtmgkbhhnchnkcaaGreatDoorW.PrintLast YtmgkbhhnchnkcaaGreatDoorW.PrintMore
open Net (L Sine.Laid legsB legsB_iff areLegs_ev bestB bestFixW BestPost)
def bstM(ls:L):Int×Int×Bool:=if legsB ls=true then((bestB ls).b,(bestB ls).h,(bestB ls).h !=0) else(0,0,false)
def impl_BestFix.f(l0:List (S82)):Option (Int×Int×Bool):=if l0.length≤140737488351232 then some (bstM l0) else none
theorem impl_BestFix.calls(A0:Option Addr)(c:Nat)(ls:List (S82))(r1:Int)(r2:Int)(r3:Bool)(w:World)(hr0:Kd.C k82 w A0 ls.length ls)(hc:ls.length≤c)(h:impl_BestFix.f ls=some (r1,r2,r3))(hL:Sine.Laid w):
    Calls Tryz.prog 26 #[.slice A0 ls.length c] w fun e w'=>e= .returned (.tuple #[.int .i64 r1,.int .i64 r2,.bool r3])∧Below w.heap.size w w':=by
  unfold impl_BestFix.f at h;by_cases hb:ls.length≤140737488351232;(case neg=>rw[if_neg hb]at h;cases h);rw[if_pos hb]at h;obtain⟨K,hK⟩:=areLegs_ev ls hb;have HA:=ak (hK K (Nat.le_refl _));have HR:=ak hr0;have HL:=ak hL;have HB:=ak (Below.refl w.heap.size w);clear hK hr0 hL hb;unfold bstM at h;cases hv:legsB ls
  · rw[if_neg (by rw[hv];simp)]at h
    simp only[Option.some.injEq,Prod.mk.injEq]at h;obtain⟨rfl,rfl,rfl⟩:=h;rw[hv]at HA;clear hv;go_enter Tryz.func26,Tryz.ntmps26;go_wp2_with (go_at_call 61;(with_reducible refine(impl_areLegs.calls K _ _ ls false _ ?s1 ?s2 HA.out).mono ?_);(case s1=>exact Kd.C_below HR.out qz6);(case s2=>exact hc);rintro e w' ⟨rfl,hw⟩;replace HB:=ak (below_step (show Below w.heap.size w _ from by(repeat(first|exact HB.out|exact Below.refl _ _|apply below_alloc|apply pw_below_drewN|apply below_drew1));done) hw);clear hw);exact bodyPost_ret (v:= .tuple #[.int .i64 0,.int .i64 0,.bool false]) (by simp[results,Tryz.results26,go_sem]) rfl ⟨rfl,qz68⟩
  · rw[hv]at HA
    rw[if_pos hv]at h;simp only[Option.some.injEq,Prod.mk.injEq]at h;obtain⟨rfl,rfl,rfl⟩:=h;have hv':=legsB_iff.mp hv;have HG:=ak hv'.1;have hn:=hv'.2;clear hv hv';go_enter Tryz.func26,Tryz.ntmps26
    go_wp2_with (first
      |(go_at_call 61;(with_reducible refine(impl_areLegs.calls K _ _ ls true _ ?s1 ?s2 HA.out).mono ?_);(case s1=>exact Kd.C_below HR.out qz6);(case s2=>exact hc);rintro e w' ⟨rfl,hw⟩;replace HB:=ak (below_step (show Below w.heap.size w _ from by(repeat(first|exact HB.out|exact Below.refl _ _|apply below_alloc|apply pw_below_drewN|apply below_drew1));done) hw);clear hw)
      |(go_at_call 73;(with_reducible refine(bestFixW A0 c ls _ ?s1 ?s2 hc hn HG.out).mono ?_);(case s1=>exact HL.out.keep qz6);(case s2=>exact Kd.C_below HR.out qz6);rintro e w2 ⟨rfl,hw⟩;replace HB:=ak (below_step (show Below w.heap.size w _ from by(repeat(first|exact HB.out|exact Below.refl _ _|apply below_alloc|apply pw_below_drewN|apply below_drew1));done) hw);clear hw))
    exact bodyPost_ret (v:= .tuple #[.int .i64 (bestB ls).b,.int .i64 (bestB ls).h,.bool ((bestB ls).h !=0)]) (by simp[results,Tryz.results26,go_sem]) rfl ⟨rfl,qz6⟩
end A
namespace A
open Go YtmgkbhhnchnkcaaGreatDoorW.PrintLast YtmgkbhhnchnkcaaGreatDoorW.PrintMore
open Net (L Sine.Laid legsB legsB_iff areLegs_ev sNum sDen strainW StrainPost)
def strM(ls:L):Int×Int×Bool:=if legsB ls=true then(sNum ls,sDen ls,true) else(0,0,false)
def impl_StrainOf.f(l0:List (S82)):Option (Int×Int×Bool):=if l0.length≤140737488351232 then some (strM l0) else none
theorem impl_StrainOf.calls(A0:Option Addr)(c:Nat)(ls:List (S82))(r1:Int)(r2:Int)(r3:Bool)(w:World)(hr0:Kd.C k82 w A0 ls.length ls)(hc:ls.length≤c)(h:impl_StrainOf.f ls=some (r1,r2,r3))(hL:Sine.Laid w):
    Calls Tryz.prog 11 #[.slice A0 ls.length c] w fun e w'=>e= .returned (.tuple #[.int .i64 r1,.int .i64 r2,.bool r3])∧Below w.heap.size w w':=by
  unfold impl_StrainOf.f at h;by_cases hb:ls.length≤140737488351232;(case neg=>rw[if_neg hb]at h;cases h);rw[if_pos hb]at h;obtain⟨K,hK⟩:=areLegs_ev ls hb;have HA:=ak (hK K (Nat.le_refl _));have HR:=ak hr0;have HL:=ak hL;have HB:=ak (Below.refl w.heap.size w);clear hK hr0 hL hb;unfold strM at h;cases hv:legsB ls
  · rw[if_neg (by rw[hv];simp)]at h
    simp only[Option.some.injEq,Prod.mk.injEq]at h;obtain⟨rfl,rfl,rfl⟩:=h;rw[hv]at HA;clear hv;go_enter Tryz.func11,Tryz.ntmps11;go_wp2_with (go_at_call 61;(with_reducible refine(impl_areLegs.calls K _ _ ls false _ ?s1 ?s2 HA.out).mono ?_);(case s1=>exact Kd.C_below HR.out qz6);(case s2=>exact hc);rintro e w' ⟨rfl,hw⟩;replace HB:=ak (below_step (show Below w.heap.size w _ from by(repeat(first|exact HB.out|exact Below.refl _ _|apply below_alloc|apply pw_below_drewN|apply below_drew1));done) hw);clear hw);exact bodyPost_ret (v:= .tuple #[.int .i64 0,.int .i64 0,.bool false]) (by simp[results,Tryz.results11,go_sem]) rfl ⟨rfl,qz68⟩
  · rw[hv]at HA
    rw[if_pos hv]at h;simp only[Option.some.injEq,Prod.mk.injEq]at h;obtain⟨rfl,rfl,rfl⟩:=h;have hv':=legsB_iff.mp hv;have HG:=ak hv'.1;have hn:=hv'.2;clear hv hv';go_enter Tryz.func11,Tryz.ntmps11
    go_wp2_with (first
      |(go_at_call 61;(with_reducible refine(impl_areLegs.calls K _ _ ls true _ ?s1 ?s2 HA.out).mono ?_);(case s1=>exact Kd.C_below HR.out qz6);(case s2=>exact hc);rintro e w' ⟨rfl,hw⟩;replace HB:=ak (below_step (show Below w.heap.size w _ from by(repeat(first|exact HB.out|exact Below.refl _ _|apply below_alloc|apply pw_below_drewN|apply below_drew1));done) hw);clear hw)
      |(go_at_call 55;(with_reducible refine(strainW A0 c ls _ ?s1 ?s2 hc hn HG.out).mono ?_);(case s1=>exact HL.out.keep qz6);(case s2=>exact Kd.C_below HR.out qz6);rintro e w2 ⟨rfl,hw⟩;replace HB:=ak (below_step (show Below w.heap.size w _ from by(repeat(first|exact HB.out|exact Below.refl _ _|apply below_alloc|apply pw_below_drewN|apply below_drew1));done) hw);clear hw))
    have c0:(w2.alloc (Obj.cells #[Value.int IntKind.i64 (sNum ls),Value.int IntKind.i64 (sDen ls)] 60)).cell? ⟨w2.heap.size,0,none⟩=some (.int .i64 (sNum ls)):=by go_simp
    have c1:(w2.alloc (Obj.cells #[Value.int IntKind.i64 (sNum ls),Value.int IntKind.i64 (sDen ls)] 60)).cell? ⟨w2.heap.size,1,none⟩=some (.int .i64 (sDen ls)):=by go_simp
    replace HB:Aside0 (Below w.heap.size w (w2.alloc (Obj.cells #[Value.int IntKind.i64 (sNum ls),Value.int IntKind.i64 (sDen ls)] 60))):=⟨qz6⟩;generalize w2.alloc (Obj.cells #[Value.int IntKind.i64 (sNum ls),Value.int IntKind.i64 (sDen ls)] 60)=w3 at *
    go_region_held3 (fun w'=>w'.cell? ⟨w2.heap.size,0,none⟩=some (.int .i64 (sNum ls))∧w'.cell? ⟨w2.heap.size,1,none⟩=some (.int .i64 (sDen ls)))
      ((repeat' refine And.intro ?_ ?_)<;>first|assumption|exact Net.Sine.keepc (w:=w3) qz42 qz13)
      (fail)
    all_goals go_wp2
    all_goals exact bodyPost_ret (v:= .tuple #[.int .i64 (sNum ls),.int .i64 (sDen ls),.bool true]) (by simp[results,Tryz.results11,go_sem]) rfl ⟨rfl,qz6⟩
end A
namespace Net
open Go YtmgkbhhnchnkcaaGreatDoorW.PrintLast YtmgkbhhnchnkcaaGreatDoorW.PrintMore A Plain
theorem eqNilL0(n c:Nat)(w:World):(binOp .eql 24 (.slice none n c) (.slice none 0 0)).run Tryz.prog w= .ok (.bool true) w:=by
  have h:∀d:Nat,(Op.equalIn (d+1) 24 (.slice none n c) (.slice none 0 0)).run Tryz.prog w= .ok true w:=fun d=>by simp[Op.equalIn,run_underlying Tryz.underlying24]
  simp[binOp,Op.equal,Op.maxDepth,h]
attribute [local go_sem] eqNilL0
theorem cloneL0(n c:Nat)(w:World):Calls Tryz.prog 75 #[.slice none n c] w fun e w'=>e= .returned (.slice none 0 0)∧Below w.heap.size w w':=by
  have HB:=ak (Below.refl w.heap.size w);go_enter Tryz.func75,Tryz.ntmps75;go_wp2;go_ret;exact⟨rfl,HB.out⟩
theorem cloneLAny (A:Option Addr) (c:Nat) (ls:L) (w:World) (hr0:Kd.C k82 w A ls.length ls) (hc:ls.length≤c) (hn:ls.length≤12):
    Calls Tryz.prog 75 #[.slice A ls.length c] w fun e w'=>∃G cap,e= .returned (.slice G ls.length cap)∧Kd.R k82 82 w' w.heap.size (fun _=>True) (.slice G ls.length cap) ls∧Below w.heap.size w w':=by
  cases A with
  | none=>
    have e0:ls=[]:=by
      by_cases hp:0<ls.length
      · obtain⟨ad,e1,_⟩:=at_T82 hr0 0 (by omega) (by omega)
        cases e1
      · exact List.length_eq_zero_iff.mp (by omega)
    subst e0;refine(cloneL0 _ c w).mono ?_;rintro e w' ⟨rfl,hb⟩;exact⟨none,0,rfl,Kd.R_nil _ _ _ _ _,hb⟩
  | some la=>
    refine(cloneW la c ls w hr0 hc hn).mono ?_;rintro e w' ⟨v,rfl,hv,hb⟩;obtain⟨G,cap,rfl⟩:=Kd.R_slice hv;exact⟨G,cap,rfl,Kd.R_mono hv (fun _ _=>trivial) (ok':=fun _=>True),hb⟩
def cleanR:Nat→L→Int→L×Int
  |0,y,n=>(y,n)
  |d+1,y,n=>if(bestB y).h=0 then(y,n) else cleanR d (bestB y).y (n+1)
end Net
namespace A
open Go YtmgkbhhnchnkcaaGreatDoorW.PrintLast YtmgkbhhnchnkcaaGreatDoorW.PrintMore Net
def clnM(ls:L):L×Int×Bool:=if legsB ls=true then((cleanR 3 ls 0).1,(cleanR 3 ls 0).2,true) else([],0,false)
def impl_CleanLegs.f(l0:List (S82)):Option (List (S82)×Int×Bool):=if l0.length≤140737488351232 then some (clnM l0) else none
theorem impl_CleanLegs.calls (A0:Option Addr) (c:Nat) (ls:List (S82)) (r1:List (S82)) (r2:Int) (r3:Bool) (w:World) (hr0:Kd.C k82 w A0 ls.length ls) (hc:ls.length≤c) (h:impl_CleanLegs.f ls=some (r1,r2,r3)) (hL:Sine.Laid w):
    Calls Tryz.prog 29 #[.slice A0 ls.length c] w fun e w'=>∃v0_:Value,e= .returned (.tuple #[v0_,.int .i64 r2,.bool r3])∧Kd.R k82 82 w' w.heap.size (fun _=>True) v0_ r1∧Below w.heap.size w w':=by
  unfold impl_CleanLegs.f at h;by_cases hb:ls.length≤140737488351232;(case neg=>rw[if_neg hb]at h;cases h);rw[if_pos hb]at h;obtain⟨K,hK⟩:=areLegs_ev ls hb;have HA:=ak (hK K (Nat.le_refl _));have HR:=ak hr0;have HL:=ak hL;have HB:=ak (Below.refl w.heap.size w);clear hK hr0 hL hb;unfold clnM at h;cases hv:legsB ls
  · rw[if_neg (by rw[hv];simp)]at h
    simp only[Option.some.injEq,Prod.mk.injEq]at h;obtain⟨rfl,rfl,rfl⟩:=h;rw[hv]at HA;clear hv;go_enter Tryz.func29,Tryz.ntmps29;go_wp2_with (go_at_call 61;(with_reducible refine(impl_areLegs.calls K _ _ ls false _ ?s1 ?s2 HA.out).mono ?_);(case s1=>exact Kd.C_below HR.out qz6);(case s2=>exact hc);rintro e w' ⟨rfl,hw⟩;replace HB:=ak (below_step (show Below w.heap.size w _ from by(repeat(first|exact HB.out|exact Below.refl _ _|apply below_alloc|apply pw_below_drewN|apply below_drew1));done) hw);clear hw);exact bodyPost_ret (v:= .tuple #[.slice none 0 0,.int .i64 0,.bool false]) (by simp[results,Tryz.results29,go_sem]) rfl ⟨_,rfl,Kd.R_nil _ _ _ _ _,qz68⟩
  · rw [hv] at HA
    rw[if_pos hv]at h;simp only[Option.some.injEq,Prod.mk.injEq]at h;obtain⟨rfl,rfl,rfl⟩:=h;have hv':=legsB_iff.mp hv;have HG:=ak hv'.1;have hn:=hv'.2;clear hv hv';go_enter Tryz.func29,Tryz.ntmps29
    go_wp2_with (first
      |(go_at_call 61;(with_reducible refine(impl_areLegs.calls K _ _ ls true _ ?s1 ?s2 HA.out).mono ?_);(case s1=>exact Kd.C_below HR.out qz6);(case s2=>exact hc);rintro e w' ⟨rfl,hw⟩;replace HB:=ak (below_step (show Below w.heap.size w _ from by(repeat(first|exact HB.out|exact Below.refl _ _|apply below_alloc|apply pw_below_drewN|apply below_drew1));done) hw);clear hw)
      |(go_at_call 75;(with_reducible refine(cloneLAny A0 c ls _ ?s1 hc hn).mono ?_);(case s1=>exact Kd.C_below HR.out HB.out);rintro e w2 ⟨G,cap,rfl,hv2,hw2⟩;have HV:=ak (Kd.R_lower hv2 HB.out.size);replace HB:=ak (below_step HB.out hw2);clear hv2 hw2))
    go_loopw [5,15] (fun v5 v15 W=>∃(j:Nat) (y:L) (G:Option Addr) (cap:Nat),j≤3∧v15= .int .i64 j∧v5= .slice G y.length cap∧Aside0 (Kd.R k82 82 W w.heap.size (fun _=>True) (.slice G y.length cap) y)∧Aside0 ((∀x∈y,Net.Good x)∧y.length≤12)∧Aside0 (cleanR (3-j) y j=cleanR 3 ls 0)∧Aside0 (Below w.heap.size w W)) (fun _ v15 _=>3-(intOf v15).toNat)
    case atStart=>exact⟨0,ls,G,cap,by omega,rfl,rfl,HV,⟨HG.out,hn⟩,⟨rfl⟩,HB⟩
    case round=>
      obtain⟨j,y,G1,cap1,hj,rfl,rfl,HV1,HY,HCL,HW⟩:=hrel;clear HV HB;by_cases hlt:j<3
      · have HBO:=ak (BOk.best HY.out.1)
        have HC1:Aside0 (y.length≤cap1∧Kd.C k82 wr G1 y.length y):=⟨(Kd.R_reads' HV1.out).2⟩
        have HST:Aside0 (cleanR (3-j) y j=if(bestB y).h=0 then(y,(j:Int)) else cleanR (3-(j+1)) (bestB y).y ((j+1:Nat):Int)):=⟨by
          obtain⟨d,hd⟩:∃d,3-j=d+1:=⟨3-j-1,by omega⟩
          rw[hd,show 3-(j+1)=d by omega]
          rfl⟩
        by_cases hz:(bestB y).h=0
        · have HQ:Aside0 ((bestB y).h !=0)=Aside0 ((bestB y).h !=0):=rfl
          have HE:=ak (HCL.out.symm.trans (HST.out.trans (if_pos hz)))
          have HBF:Aside0 (∀W,Below w.heap.size w W→Kd.C k82 W G1 y.length y→Calls Tryz.prog 73 #[.slice G1 y.length cap1] W fun e w'=>e= .returned (.tuple #[.int .i64 (bestB y).b,.int .i64 (bestB y).h,.bool false])∧Below W.heap.size W w'):=⟨fun W hW hC=>by
            have hq:=bestFixW G1 cap1 y W (HL.out.keep hW) hC HC1.out.1 HY.out.2 HY.out.1;refine hq.mono ?_;rintro e w' ⟨rfl,hw⟩
            exact⟨(by rw[hz];rfl),hw⟩⟩
          clear hz HQ;go_wp2_with (go_at_call 73;(with_reducible refine(HBF.out _ HW.out HC1.out.2).mono ?_);rintro e w3 ⟨rfl,hw3⟩;replace HV1:=ak (Kd.R_below HV1.out hw3);replace HW:=ak (below_step HW.out hw3);clear hw3);exact bodyPost_ret (v:= .tuple #[.slice G1 y.length cap1,.int .i64 (j:Int),.bool true]) (by simp[results,Tryz.results29,go_sem]) rfl ⟨_,(by rw[HE.out]),(qx2 HV1.out),HW.out⟩
        · have HE:=ak ((HST.out.trans (if_neg hz)).symm.trans HCL.out)
          have hwh:∃k:Nat,(bestB y).b=k∧k<y.length∧(1≤(bestB y).h∧(bestB y).h≤4)∧Net.Good (fixX (leg y k) (bestB y).h)∧(bestB y).y=y.set k (fixX (leg y k) (bestB y).h):=by
            rcases HBO.out.what with h|h
            · exact absurd h.1 hz
            · exact h
          obtain⟨k,hk1,hk2,hk3,hk4,hk5⟩:=hwh;have HY2:Aside0 ((∀x∈(bestB y).y,Net.Good x)∧(bestB y).y.length≤12):=⟨HBO.out.good,(by rw[HBO.out.len];exact HY.out.2)⟩
          have HBF:Aside0 (∀W,Below w.heap.size w W→Kd.C k82 W G1 y.length y→Calls Tryz.prog 73 #[.slice G1 y.length cap1] W fun e w'=>e= .returned (.tuple #[.int .i64 (k:Int),.int .i64 (bestB y).h,.bool true])∧Below W.heap.size W w'):=⟨fun W hW hC=>by
            have hq:=bestFixW G1 cap1 y W (HL.out.keep hW) hC HC1.out.1 HY.out.2 HY.out.1;refine hq.mono ?_;rintro e w' ⟨rfl,hw⟩
            exact⟨(by rw[hk1,bne_iff_ne.mpr hz]),hw⟩⟩
          have hfy:=fixedM_yes (x:=leg y (k:Int)) hk3.1 hk3.2;rw[decide_eq_true hk4,]at hfy
          have HFX:Aside0 (∀W,Kd.C k82 W G1 y.length y→Calls Tryz.prog 70 #[.slice G1 y.length cap1,.int .i64 (k:Int),.int .i64 (bestB y).h] W fun e w'=>∃v,e= .returned (.tuple #[v,.bool true])∧Kd.R k82 82 w' W.heap.size (fun _=>True) v (bestB y).y∧Below W.heap.size W w'):=⟨fun W hC=>by
            have hq:=fixLegYes G1 cap1 y k (bestB y).h W hC HC1.out.1 HY.out.2 hk2 hfy.2;rw[hfy.1,←hk5]at hq
            exact hq⟩
          clear hz hk1 hk3 hk4 hk5 hfy HST;generalize (bestB y).y=y2 at *;generalize (bestB y).h=fx at *
          go_wp2_with (first
            |(go_at_call 73;(with_reducible refine(HBF.out _ HW.out HC1.out.2).mono ?_);rintro e w3 ⟨rfl,hw3⟩;have HC3:=ak (Kd.C_below HC1.out.2 hw3);replace HW:=ak (below_step HW.out hw3);clear hw3)
            |(go_at_call 70;(with_reducible refine(HFX.out _ HC3.out).mono ?_);rintro e w4 ⟨v,rfl,hv4,hw4⟩;obtain⟨A4,c4,ev⟩:=Kd.R_slice hv4;subst ev;have HV4:=ak (Kd.R_lower hv4 HW.out.size);replace HW:=ak (below_step HW.out hw4);clear hv4 hw4))
          exact⟨⟨j+1,y2,A4,c4,hlt,by go_num,rfl,HV4,HY2,HE,HW⟩,qz45⟩
      · obtain rfl:j=3:=by omega
        have HE:Aside0 (cleanR 3 ls 0=(y,3)):=⟨HCL.out.symm⟩;go_wp2;exact bodyPost_ret (v:= .tuple #[.slice G1 y.length cap1,.int .i64 3,.bool true]) (by simp[results,Tryz.results29,go_sem]) rfl ⟨_,(by rw[HE.out]),(qx2 HV1.out),HW.out⟩
end A
end Go.Proofs.YtmgkbhhnchnkcaaGreatDoor
