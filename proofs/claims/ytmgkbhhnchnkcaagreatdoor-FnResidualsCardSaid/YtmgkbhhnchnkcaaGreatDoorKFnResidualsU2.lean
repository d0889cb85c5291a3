/- A matrix while it is filled: what its entries are so far. -/
import Derived.StillTailTactics
import Derived.Test.YtmgkbhhnchnkcaaGreatDoorKFnResiduals5
import Derived.Test.YtmgkbhhnchnkcaaGreatDoorKFnResidualsU1
set_option maxHeartbeats 8000000
set_option maxRecDepth 100000
set_option linter.unusedSimpArgs false
set_option linter.unusedVariables false
namespace Go.Proofs.YtmgkbhhnchnkcaaGreatDoor
open Go.RowKit YtmgkbhhnchnkcaaGreatDoorW.PrintWords YtmgkbhhnchnkcaaGreatDoorW.PrintLast YtmgkbhhnchnkcaaGreatDoorW.PrintMore
namespace Net
open Go A Plain
open Elim (Mx swp piv partR)
theorem l9DetW (bm n cap:Nat) (R C:Nat→Nat) (M:Mx) (lo:Nat) (w:World) (hM:MatAt w bm n R C M lo) (h0:0<n) (hn:n≤8):
    Calls Tryz.prog 119 #[.slice (some ⟨bm,0,none⟩) n cap] w fun e w'=>e= .returned (.int .i64 (Elim.det n 0 1 1 M))∧Below lo w w':=by
  have HM:=ak hM;have HB:=ak (Below.refl lo w);obtain⟨D,hD⟩:∃D,D=Elim.det n 0 1 1 M:=⟨_,rfl⟩
  rw[←hD];have HD:=ak hD;clear hM hD;go_enter Tryz.func119,Tryz.ntmps119;go_wp2
  go_loopw [4,5,6] (fun v4 v5 v6 W=>∃(k:Nat) (s l:Int) (M':Mx) (R' C':Nat→Nat),k≤n∧v6= .int .i64 k∧v4= .int .i64 s∧v5= .int .i64 l∧l≠0∧Aside0 (Elim.det (n-k) k s l M'=D)∧Aside0 (MatAt W bm n R' C' M' lo)∧Aside0 (Below lo w W)) (fun _ _ v6 _=>n-(intOf v6).toNat)
  case atStart=>exact⟨0,1,1,M,R,C,Nat.zero_le _,rfl,rfl,rfl,by omega,⟨HD.out.symm⟩,HM,HB⟩
  case round=>
    obtain⟨k,s,l,M',R',C',hk,rfl,rfl,rfl,hl,HD2,HM2,HB2⟩:=hrel;clear HM HB HD;by_cases hlt:k<n
    · go_wp2
      go_loopw [7] (fun v7 W=>∃(p:Nat),k≤p∧p≤n∧v7= .int .i64 p∧Aside0 (piv M' k (n-p) p=piv M' k (n-k) k)∧Aside0 (MatAt W bm n R' C' M' lo)∧Aside0 (Below lo w W)) (fun v7 _=>n-(intOf v7).toNat)
      case atStart=>exact⟨k,Nat.le_refl _,hk,rfl,⟨rfl⟩,HM2,HB2⟩
      case round=>
        obtain⟨p,hkp,hpn,rfl,HP,HM,HB⟩:=hrel;clear HM2 HB2;by_cases hp:p<n
        · have c1 :=HM.out.pc p hp
          have c2:=HM.out.mc p k hp hlt;have kk0:(0:Int)≤(k:Int):=by omega
          have kk1:(k:Int)<(n:Int):=by omega
          have pp0:(0:Int)≤(p:Int):=by omega
          have pp1:(p:Int)<(n:Int):=by omega
          by_cases hz:M' p k=0
          · rw[hz]at c2
            have HP':Aside0 (piv M' k (n-(p+1)) (p+1)=piv M' k (n-k) k):=⟨by
              have h:=HP.out;rw[show n-p=(n-(p+1))+1 by omega,Elim.piv_succ]at h;rw[if_pos hz]at h
              exact h⟩
            go_wp2;exact⟨⟨p+1,by omega,by omega,by go_num,HP',HM,HB⟩,qz41⟩
          · have hz':(M' p k==0)=false:=by simpa using hz
            have hpv:piv M' k (n-k) k=some p:=by
              have h:=HP.out;rw[show n-p=(n-(p+1))+1 by omega,Elim.piv_succ]at h;rw[if_neg hz]at h;exact h.symm
            have HD3:Aside0 (Elim.det (n-(k+1)) (k+1) (if p=k then s else wrap64 (-s)) ((swp M' k p) k k) (Elim.stp (swp M' k p) k l)=D):=⟨by
              have h:=HD2.out;rw[show n-k=(n-(k+1))+1 by omega]at h hpv;rw[Elim.det_succ,hpv]at h
              exact h⟩
            have HNZ:Aside0 ((swp M' k p) k k≠0):=⟨(by unfold swp;rw[if_pos rfl];exact hz)⟩;clear HD2 HP hpv
            go_upto_if 39 with(fail)
            go_cut [4] (fun v4 W=>∃(R2 C2:Nat→Nat),v4= .int .i64 (if p=k then s else wrap64 (-s))∧Aside0 (MatAt W bm n R2 C2 (swp M' k p) lo)∧Aside0 (Below lo w W))
            case first=>
              by_cases hpk:p=k
              · subst hpk
                have hb:((p:Int) !=(p:Int))=false:=by simp
                have HM3:=ak (HM.out.congr (N:=swp M' p p) (fun i j hi hj=>by
                  unfold swp;by_cases c:i=p
                  · rw[if_pos c,c]
                  · rw[if_neg c,if_neg c]))
                go_wp2;go_meet;(case rel=>exact⟨_,_,by simp,HM3,HB⟩)
              · have hb:((p:Int) !=(k:Int))=true:=by simp;omega
                have d1:=HM.out.pc k hlt;have z1:=HM.out.fp p hp;have d2:=far d1 (v:= .slice (some ⟨R' k,0,none⟩) n (C' k)) (offne (g:=bm) hpk);have z2:=(frz (W:=_) ⟨bm,p,none⟩ (.slice (some ⟨R' k,0,none⟩) n (C' k)) ⟨bm,k,none⟩).trans (HM.out.fp k hlt);have HM3:=ak (HM.out.swap hlt hp hpk);go_wp2;go_meet;(case rel=>exact⟨_,_,(by rw[if_neg hpk]),HM3,⟨(HB.out.setCell HM.out.lb _).setCell HM.out.lb _⟩⟩)
            case rest =>
              obtain⟨R2,C2,rfl,HM3,HB3⟩:=hcut;clear HM HB c1 c2;generalize (if p=k then s else wrap64 (-s))=s2 at *;generalize swp M' k p=M2 at *;have kk0:(0:Int)≤(k:Int):=by omega
              have kk1:(k:Int)<(n:Int):=by omega
              clear hz hz';go_wp2
              go_loopw [9] (fun v9 W=>∃(i:Nat),k+1≤i∧i≤n∧v9= .int .i64 i∧Aside0 (MatAt W bm n R2 C2 (Elim.part M2 k l i) lo)∧Aside0 (Below lo w W)) (fun v9 _=>n-(intOf v9).toNat)
              case atStart=>exact⟨k+1,Nat.le_refl _,hlt,by go_num,⟨(by rw[Elim.part_start];exact HM3.out)⟩,HB3⟩
              case round=>
                obtain⟨i,hki,hin,rfl,HM4,HB4⟩:=hrel;clear HM3 HB3;by_cases hi:i<n
                · go_wp2
                  go_loopw [10] (fun v10 W=>∃(j:Nat),k≤j∧j≤n∧v10= .int .i64 ((j:Int)-1)∧Aside0 (MatAt W bm n R2 C2 (partR M2 k l i j) lo)∧Aside0 (Below lo w W)) (fun v10 _=>(intOf v10+1).toNat)
                  case atStart=>exact⟨n,hk,Nat.le_refl _,by go_num,⟨HM4.out.congr (fun a b ha hb=>Elim.partR_start a b hb)⟩,HB4⟩
                  case round=>
                    obtain⟨j1,hkj,hjn,rfl,HM5,HB5⟩:=hrel;clear HM4 HB4;by_cases hj:k<j1
                    · obtain⟨j,rfl⟩:∃j,j1=j+1:=⟨j1-1,by omega⟩
                      have ej:((j+1:Nat):Int)-1=(j:Int):=by omega
                      rw[ej];have hjn':j<n:=by omega
                      have c1:=HM5.out.pc i hi;have c2:=HM5.out.pc k hlt;have c3:=HM5.out.mc i j hi hjn';have c4:=HM5.out.mc k k hlt hlt;have c5:=HM5.out.mc i k hi hlt;have c6:=HM5.out.mc k j hlt hjn';rw[Elim.partR_row i j (Or.inr (by omega)) (Or.inr (Nat.le_refl _))]at c3;rw[Elim.partR_row k k (Or.inl (by omega)) (Or.inl (Nat.le_refl _))]at c4;rw[Elim.partR_row i k (Or.inr (by omega)) (Or.inr (Nat.le_refl _))]at c5;rw[Elim.partR_row k j (Or.inl (by omega)) (Or.inl (Nat.le_refl _))]at c6;have z1:=HM5.out.fm i j hi hjn';have ii0:(0:Int)≤(i:Int):=by omega
                      have ii1:(i:Int)<(n:Int):=by omega
                      have jj0:(0:Int)≤(j:Int):=by omega
                      have jj1:(j:Int)<(n:Int):=by omega
                      have jk:(j:Int)≥(k:Int):=by omega
                      have hkj':k≤j:=by omega
                      clear ej;go_wp2_with fail
                      go_still_tail 39,qz37
                      have HM7:=ak (HM5.out.keep (below_drew1 (Below.refl wr.heap.size wr)));have HB7:=ak (below_drew1 HB5.out);have HM6:=ak ((HM7.out.set hi hjn' (Elim.val M2 k l i j)).congr (fun a b ha hb=>Elim.partR_next hl hkj' a b));replace z1:=HM7.out.fm i j hi hjn';replace c3:=cdrew c3;change wpList _ _ _ _ _ wr.drew;generalize wr.drew=w2 at HM6 HM7 HB7 z1 c3 ⊢;clear HM5 HB5 c1 c2 c4 c5 c6;go_wp2;exact⟨⟨j,hkj',by omega,by go_num,HM6,⟨HB7.out.setCell (HM7.out.lr i hi) _⟩⟩,qz77⟩
                    · obtain rfl:j1=k:=by omega
                      have HM6:=ak (HM5.out.congr (N:=Elim.part M2 j1 l (i+1)) (fun a b ha hb=>(Elim.partR_end (by omega) a b).symm));have jk:¬((j1:Int)-1≥(j1:Int)):=by omega
                      go_wp2;exact⟨⟨i+1,by omega,by omega,by go_num,HM6,HB5⟩,qz41⟩
                · obtain rfl:i=n:=by omega
                  have c1:=HM4.out.pc k hlt;have c2:=HM4.out.mc k k hlt hlt;rw[Elim.part_row k k (Or.inl (Nat.le_refl _))]at c2
                  have HD4:Aside0 (Elim.det (i-(k+1)) (k+1) s2 (M2 k k) (Elim.part M2 k l i)=D):=⟨by
                    rw[←HD3.out]
                    exact Elim.det_same (n:=i) _ _ _ _ _ _ (by omega) (fun a b ha hai hb hbi=>Elim.part_end ha hai hb)⟩
                  have hnz:=HNZ.out;go_wp2;exact⟨⟨k+1,s2,M2 k k,Elim.part M2 k l i,R2,C2,by omega,by go_num,rfl,rfl,hnz,HD4,HM4,HB4⟩,qz41⟩
        · obtain rfl:p=n:=by omega
          have hz:D=0:=by
            have h:=HP.out;rw[Nat.sub_self,piv]at h;have h2:=HD2.out;rw[show p-k=(p-(k+1))+1 by omega]at h2 h;rw[Elim.det_succ,←h]at h2;exact h2.symm
          subst hz;go_wp2;go_ret;exact⟨rfl,HB.out⟩
    · obtain rfl:k=n:=by omega
      have hz:wrap64 (s*l)=D:=by
        have h:=HD2.out;rw[Nat.sub_self]at h;exact h
      subst hz;go_wp2;go_ret;exact⟨rfl,HB2.out⟩
end Net
namespace Net
open A
open Tree (verts legs)
open Grow (Q sweep grow)
def closeTo(ls:L)(R:Q):Nat→List Int
  |0=>[]
  |k+1=>if Pq R (leg ls k).f0.toNat=true∧Bq R k=false then closeTo ls R k++[(k:Int)] else closeTo ls R k
theorem closeTo_len(ls:L)(R:Q):∀k,(closeTo ls R k).length≤k
  |0=>by simp[closeTo]
  | k+1=>by
    have:=closeTo_len ls R k;unfold closeTo;split
    · simp;omega
    · omega
def Placed(ls:L)(R:Q)(w:World)(e:Ending)(w':World):Prop:=∃g T cl,e= .returned (.pointer (some ⟨g,0,none⟩))∧St ls.length T g (Pq R) (Xq ls R) (Bq R) cl w'∧Kd.R (Kd.int .i64) 3 w' w.heap.size (fun k=>k≠g∧k≠T) cl (closeTo ls R ls.length)∧Below w.heap.size w w'
def Left(ls:L)(R:Q)(k:Nat)(b:Bool)(q:Q):Prop:=Grow.Ok (ends ls) ls.length q∧(b=true→∃f,k=f+1∧8≤f+q.length∧grow (ends ls) ls.length f q=R)∧(b=false→q=R)
def Part(ls:L)(q:Q)(k:Nat)(b:Bool)(p:Q):Prop:=Grow.Ok (ends ls) ls.length p∧sweep (ends ls) (ls.length-k) k p=sweep (ends ls) ls.length 0 q∧q.length≤p.length∧b=decide (q.length<p.length)
theorem Part.start{ls:L}{q:Q}(h:Grow.Ok (ends ls) ls.length q):Part ls q 0 false q:=⟨h,by simp,Nat.le_refl _,by simp⟩
theorem Part.next{ls:L}{q p:Q}{k:Nat}{b:Bool}(h:Part ls q k b p)(hk:k<ls.length):Part ls q (k+1) (decide (q.length<(Grow.step (ends ls) p k).length)) (Grow.step (ends ls) p k):=by
  obtain⟨h1,h2,h3,h4⟩:=h;refine⟨h1.step _ (by omega) (by omega),?_,Nat.le_trans h3 (Grow.step_len _ _ _),rfl⟩;rw[←h2,show ls.length-k=(ls.length-(k+1))+1 by omega];rfl
theorem Part.skip{ls:L}{q p:Q}{k a d:Nat}{b:Bool}(h:Part ls q k b p)(hk:k<ls.length)(he:ends ls k=((a:Int),(d:Int)))(hs:Pq p a=Pq p d):Part ls q (k+1) b p:=by
  have h':=h.next hk
  have e:Grow.step (ends ls) p k=p:=by
    unfold Grow.step;simp only[Pq,decide_eq_decide]at hs;rw[he,if_neg (fun c=>c.2 (hs.mp c.1)),if_neg (fun c=>c.2 (hs.mpr c.1))]
  rw[e,←h.2.2.2]at h';exact h'
theorem Part.fore{ls:L}{q p:Q}{k a d:Nat}{b:Bool}(h:Part ls q k b p)(hk:k<ls.length)(he:ends ls k=((a:Int),(d:Int)))(ha:Pq p a=true)(hd:Pq p d=false):Part ls q (k+1) true ((k,a,d)::p):=by
  have h':=h.next hk
  have e:Grow.step (ends ls) p k=((k:Int),(a:Int),(d:Int))::p:=by
    unfold Grow.step;simp only[Pq,decide_eq_true_eq,decide_eq_false_iff_not]at ha hd;rw[he,if_pos ⟨ha,hd⟩]
  have:=h.2.2.1;rw[e,decide_eq_true qz82]at h';exact h'
theorem Part.back{ls:L}{q p:Q}{k a d:Nat}{b:Bool}(h:Part ls q k b p)(hk:k<ls.length)(he:ends ls k=((a:Int),(d:Int)))(ha:Pq p a=false)(hd:Pq p d=true):Part ls q (k+1) true ((k,d,a)::p):=by
  have h':=h.next hk
  have e:Grow.step (ends ls) p k=((k:Int),(d:Int),(a:Int))::p:=by
    unfold Grow.step;simp only[Pq,decide_eq_true_eq,decide_eq_false_iff_not]at ha hd;rw[he,if_neg (fun c=>ha c.1),if_pos ⟨hd,ha⟩]
  have:=h.2.2.1;rw[e,decide_eq_true qz82]at h';exact h'
theorem ends_range{ls:L}(hg:∀x∈ls,Good x):∀i:Int,0≤i→i<ls.length→0≤(ends ls i).1∧(ends ls i).1<8∧0≤(ends ls i).2∧(ends ls i).2<8:=by
  intro i h0 h1;obtain⟨k,rfl⟩:=Int.eq_ofNat_of_zero_le h0
  have h:=hg (leg ls (k:Int)) (by
    unfold leg rd_T82;rw[Int.toNat_natCast,List.getD_eq_getElem?_getD,List.getElem?_eq_getElem (show k<ls.length by omega)]
    exact List.getElem_mem _)
  exact⟨h.1.1,h.1.2,h.2.1.1,h.2.1.2⟩
theorem Left.next{ls:L}(hg:∀x∈ls,Good x){R q p:Q}{f:Nat}{b:Bool}(h:Left ls R (f+1) true q)(hp:Part ls q ls.length b p):Left ls R f b p:=by
  obtain⟨ok,h1,_⟩:=h;obtain⟨f',hf,h8,hR⟩:=h1 rfl;obtain rfl:f=f':=by omega
  obtain⟨okp,hs,hl,hb⟩:=hp;rw[Nat.sub_self]at hs;have hs:p=sweep (ends ls) ls.length 0 q:=hs;have h7:=ok.len _ (ends_range hg);obtain⟨g,rfl⟩:∃g,f=g+1:=⟨f-1,by omega⟩
  rw[grow,←hs]at hR;refine⟨okp,fun e=>?_,fun e=>?_⟩
  · rw[e]at hb
    have hb:=of_decide_eq_true hb.symm;rw[if_neg (by omega)]at hR;exact⟨g,rfl,by omega,hR⟩
  · rw[e]at hb
    have hb:=of_decide_eq_false hb.symm;rw[if_pos (by omega)]at hR;have:=(Grow.sweep_same (ends ls) (m:=ls.length) (a:=0) (q:=q) (by rw[←hs];omega)).1;rw[hs,this,hR]
theorem leg_mem{ls:L}{k:Nat}(h:k<ls.length):rd_T82 ls (k:Int)∈ls:=by
  unfold rd_T82;rw[Int.toNat_natCast,List.getD_eq_getElem?_getD,List.getElem?_eq_getElem h];exact List.getElem_mem h
theorem place (A:Option Addr) (c:Nat) (ls:L) (w:World) (hL:Sine.Laid w) (hr0:Kd.C k82 w A ls.length ls) (hc0:ls.length≤c) (hn:ls.length≤12) (hg:∀x∈ls,Good x) (R:Q) (hR:grow (ends ls) ls.length 8 []=R):
    Calls Tryz.prog 66 #[.slice A ls.length c] w (Placed ls R w):=by
  have HL:=ak hL;have HR:=ak hr0;have HG:=ak hg;have HB:=ak (Below.refl w.heap.size w);have hmk:=makeBools ls.length hn w;have HS:=ak (St.start ls w);have HQ:=ak (show Left ls R 9 true []from⟨Grow.Ok.nil _ _,fun _=>⟨8,rfl,by simp,hR⟩,fun h=>by cases h⟩);clear hL hr0 hg hR;go_enter Tryz.func66,Tryz.ntmps66;go_wp2;clear hmk
  go_loopg [4] 9 (fun kq v4 w'=>∃(b:Bool) (q:Q),v4= .bool b∧Aside0 (Left ls R kq b q)∧Aside0 (St ls.length w.heap.size (w.heap.size+1) (Pq q) (Xq ls q) (Bq q) (.slice none 0 0) w')∧Aside0 (Below w.heap.size w w'))
  case atStart=>exact⟨true,[],rfl,HQ,HS,⟨qz46⟩⟩
  case round=>
    obtain⟨b,q,rfl,HA,HS1,HB1⟩:=hrel;clear HS HQ HB
    cases b with
    | false =>
      go_wp2;have hq:=HA.out.2.2 rfl;subst hq
      go_loopw [101] (fun v101 w'=>∃(k:Nat) (cl:Value),k≤ls.length∧v101= .int .i64 k∧Aside0 (St ls.length w.heap.size (w.heap.size+1) (Pq q) (Xq ls q) (Bq q) cl w')∧Aside0 (Kd.R (Kd.int .i64) 3 w' w.heap.size (fun k=>k≠w.heap.size+1∧k≠w.heap.size) cl (closeTo ls q k))∧Aside0 (Below w.heap.size w w')) (fun v101 _=>ls.length-(intOf v101).toNat)
      case atStart=>exact⟨0,.slice none 0 0,Nat.zero_le _,rfl,HS1,⟨Kd.R_nil _ _ _ _ _⟩,HB1⟩
      case round=>
        obtain⟨k,cl,hk,rfl,HS,HO,HB⟩:=hrel;clear HS1 HB1;by_cases hlt:k<ls.length
        · obtain⟨_,e2,h0,h1,h2,h3,h4⟩:=at_T82 HR.out (k:Int) (by omega) (by omega)
          cases e2;have HX:Aside0 (Good (leg ls (k:Int))):=⟨HG.out _ (leg_mem hlt)⟩;have ek:rd_T82 ls (k:Int)=leg ls k:=rfl;rw[Int.toNat_natCast]at h0 h1 h2 h3 h4;rw[ek]at h0 h1 h2 h3 h4;have HC:=ak (show closeTo ls q (k+1)=if Pq q (leg ls k).f0.toNat=true∧Bq q k=false then closeTo ls q k++[(k:Int)] else closeTo ls q k from rfl);generalize leg ls (k:Int)=x at *;obtain⟨a,ha⟩:=Int.eq_ofNat_of_zero_le HX.out.1.1;have ha8:(a:Int)<8:=by have:=HX.out.1.2;omega
          rw[ha]at h0;rw[ha,Int.toNat_natCast]at HC;replace h0:=Sine.keepc h0 HB.out;replace h1:=Sine.keepc h1 HB.out;replace h2:=Sine.keepc h2 HB.out;replace h3:=Sine.keepc h3 HB.out;replace h4:=Sine.keepc h4 HB.out;go_wp2;have B1:=below_alloc (Below.refl wr.heap.size wr) (Obj.cells #[Value.int IntKind.i64 ↑a,Value.int IntKind.i64 x.f1,Value.int IntKind.i64 x.f2,Value.int IntKind.i64 x.f3,Value.int IntKind.i64 x.f4] 82);replace HB:=ak (below_step HB.out B1);replace HS:=ak (HS.out.keep B1);replace HO:=ak (Kd.R_alloc HO.out (Obj.cells #[Value.int IntKind.i64 ↑a,Value.int IntKind.i64 x.f1,Value.int IntKind.i64 x.f2,Value.int IntKind.i64 x.f3,Value.int IntKind.i64 x.f4] 82));clear B1 h0 h1 h2 h3 h4;have h0:(wr.alloc (Obj.cells #[Value.int IntKind.i64 ↑a,Value.int IntKind.i64 x.f1,Value.int IntKind.i64 x.f2,Value.int IntKind.i64 x.f3,Value.int IntKind.i64 x.f4] 82)).cell? ⟨wr.heap.size,0,none⟩=some (.int .i64 (a:Int)):=by go_simp
          generalize wr.alloc (Obj.cells #[Value.int IntKind.i64 ↑a,Value.int IntKind.i64 x.f1,Value.int IntKind.i64 x.f2,Value.int IntKind.i64 x.f3,Value.int IntKind.i64 x.f4] 82)=W1 at *;generalize wr.heap.size=X at *;have pa:=HS.out.pb a (by omega);have tc:=HS.out.tc;have cc:=HS.out.cc;have zc:=HS.out.fg 33;have tk:=HS.out.tb k hlt;have k0:(0:Int)≤(k:Int):=by omega
          have k1:(k:Int)<(ls.length:Int):=by omega
          by_cases hpa:Pq q a=true
          · rw[hpa]at pa
            by_cases hbk:Bq q k=true
            · rw[hbk]at tk
              go_quiet (fail)
              go_wp2;exact⟨⟨k+1,cl,by omega,by go_num,⟨HS.out.keep (pw_below_drewN (Below.refl _ _) _)⟩,⟨(by rw[HC.out,if_neg (by simp[hbk])];exact Kd.R_drewN HO.out _)⟩,⟨pw_below_drewN HB.out _⟩⟩,qz41⟩
            · have hbk':Bq q k=false:=by simpa using hbk
              rw[hbk']at tk;have hTs:w.heap.size+1<W1.heap.size:=World.block_lt_of_cell? _ _ tc;have hcl:=closeTo_len ls q k;have HN1:Aside0 (∀b,cl.ownBlock=some b→b≠w.heap.size+1∧b≠w.heap.size):=⟨HO.out.1⟩;obtain⟨cA,cC,ecl⟩:=Kd.R_slice HO.out;subst ecl
              go_quiet (fail)
              go_wp2_with ((with_reducible refine gate_builtin (b:= .append) (xs:= #[.tmp 127,.tmp 129]) rfl ?_);at_builtin;refine Kd.R_append (Kd.int .i64) (w0:=w) w.heap.size rfl (.tmp 127) (.tmp 129) 46 3 (.int .i64 0) 8 rfl Tryz.underlying46 info3 rfl (by decide) (by omega) (.slice cA (closeTo ls q k).length cC) (closeTo ls q k) (k:Int) [.int .i64 (k:Int)] (fun b=>b≠w.heap.size+1∧b≠w.heap.size) (fun _=>False) rfl rfl ?aP (fun _ hk=>hk.elim) ?aF ?aO ?aB ?aS ?aL ?_
                           (case aP=>exact rfl);(case aF=>exact(by intro b hb;simp only[World.heap_drewN]at hb;omega));(case aO=>exact Kd.R_drewN HO.out _);(case aB=>exact pw_below_drewN HB.out _);(case aS=>exact qz80);(case aL=>omega);intro v1 w1 ho hb hg hat;obtain⟨A1,c1,ev1⟩:=Kd.R_slice ho;subst ev1;rw[show(closeTo ls q k++[(k:Int)]).length=(closeTo ls q k).length+1 from by simp]at ho hat;have HS5:=ak ((HS.out.keep (W:=W1.drewN nq) (pw_below_drewN (Below.refl _ _) _)).blocks (W:=w1) (hg.block _ qz80 (fun e=>(HN1.out _ e.symm).1 rfl)) (hg.block _ qz80 (fun e=>(HN1.out _ e.symm).2 rfl)) hg.size);have HB5:=ak hb;have HO5:=ak ho;clear ho hb hg hat HO;have cc5:=HS5.out.cc
                           have zc5:=HS5.out.fg 33)
              exact⟨⟨k+1,_,by omega,by go_num,⟨HS5.out.setC _⟩,⟨(by rw[HC.out,if_pos ⟨hpa,hbk'⟩];exact Kd.R_far HO5.out (p:=⟨w.heap.size+1,33,none⟩) (fun b hb=>hb.1) _)⟩,⟨below_set HB5.out (by omega)⟩⟩,qz41⟩
          · have hpa':Pq q a=false:=by simpa using hpa
            rw[hpa']at pa
            go_quiet (fail)
            go_wp2;exact⟨⟨k+1,cl,by omega,by go_num,⟨HS.out.keep (pw_below_drewN (Below.refl _ _) _)⟩,⟨(by rw[HC.out,if_neg (by simp[hpa'])];exact Kd.R_drewN HO.out _)⟩,⟨pw_below_drewN HB.out _⟩⟩,qz41⟩
        · obtain rfl:k=ls.length:=by omega
          go_wp2;go_ret;exact⟨_,_,cl,rfl,HS.out,HO.out,HB.out⟩
    | true=>
      go_wp2
      go_loopw [4,21] (fun v4 v21 w'=>∃(k:Nat) (b:Bool) (p:Q),k≤ls.length∧v4= .bool b∧v21= .int .i64 k∧Aside0 (Part ls q k b p)∧Aside0 (St ls.length w.heap.size (w.heap.size+1) (Pq p) (Xq ls p) (Bq p) (.slice none 0 0) w')∧Aside0 (Below w.heap.size w w')) (fun _ v21 _=>ls.length-(intOf v21).toNat)
      case atStart=>exact⟨0,false,q,Nat.zero_le _,rfl,rfl,⟨Part.start HA.out.1⟩,HS1,HB1⟩
      case round=>
        obtain⟨k,b,p,hk,rfl,rfl,HP,HS,HB⟩:=hrel;clear HS1 HB1;by_cases hlt:k<ls.length
        · obtain ⟨_, e2,h0,h1,h2,h3,h4⟩:=at_T82 HR.out (k:Int) (by omega) (by omega)
          cases e2;have HX:Aside0 (Good (leg ls (k:Int))):=⟨HG.out _ (leg_mem hlt)⟩;have ek:rd_T82 ls (k:Int)=leg ls k:=rfl;have HE:=ak (show ends ls k=((leg ls k).f0,(leg ls k).f1)from rfl);rw[Int.toNat_natCast]at h0 h1 h2 h3 h4;rw[ek]at h0 h1 h2 h3 h4;generalize hxe:leg ls (k:Int)=x at *;have HXE:=ak hxe;clear hxe ek;obtain⟨a,ha⟩:=Int.eq_ofNat_of_zero_le HX.out.1.1;obtain⟨d,hd⟩:=Int.eq_ofNat_of_zero_le HX.out.2.1.1;have ha8:(a:Int)<8:=by have:=HX.out.1.2;omega
          have hd8:(d:Int)<8:=by have:=HX.out.2.1.2;omega
          have had:=HX.out.2.2.1;rw[ha,hd]at had;have LS:=fun W (hl:Sine.Laid W)=>legShift x W hl HX.out
          rw[ha,hd]at LS;have HLS:=ak LS;clear LS;rw[ha]at h0 HE;rw[hd]at h1 HE;replace h0:=Sine.keepc h0 HB.out;replace h1:=Sine.keepc h1 HB.out;replace h2:=Sine.keepc h2 HB.out;replace h3:=Sine.keepc h3 HB.out;replace h4:=Sine.keepc h4 HB.out;go_wp2;have B1:=below_alloc (Below.refl wr.heap.size wr) (Obj.cells #[Value.int IntKind.i64 ↑a,Value.int IntKind.i64 ↑d,Value.int IntKind.i64 x.f2,Value.int IntKind.i64 x.f3,Value.int IntKind.i64 x.f4] 82);replace HB:=ak (below_step HB.out B1);have HSo:=HS;replace HS:=ak (HS.out.keep B1);clear B1 h0 h1 h2 h3 h4;have h0:(wr.alloc (Obj.cells #[Value.int IntKind.i64 ↑a,Value.int IntKind.i64 ↑d,Value.int IntKind.i64 x.f2,Value.int IntKind.i64 x.f3,Value.int IntKind.i64 x.f4] 82)).cell? ⟨wr.heap.size,0,none⟩=some (.int .i64 (a:Int)):=by go_simp
          have h1:(wr.alloc (Obj.cells #[Value.int IntKind.i64 ↑a,Value.int IntKind.i64 ↑d,Value.int IntKind.i64 x.f2,Value.int IntKind.i64 x.f3,Value.int IntKind.i64 x.f4] 82)).cell? ⟨wr.heap.size,1,none⟩=some (.int .i64 (d:Int)):=by go_simp
          have h2:(wr.alloc (Obj.cells #[Value.int IntKind.i64 ↑a,Value.int IntKind.i64 ↑d,Value.int IntKind.i64 x.f2,Value.int IntKind.i64 x.f3,Value.int IntKind.i64 x.f4] 82)).cell? ⟨wr.heap.size,2,none⟩=some (.int .i64 x.f2):=by go_simp
          have h3:(wr.alloc (Obj.cells #[Value.int IntKind.i64 ↑a,Value.int IntKind.i64 ↑d,Value.int IntKind.i64 x.f2,Value.int IntKind.i64 x.f3,Value.int IntKind.i64 x.f4] 82)).cell? ⟨wr.heap.size,3,none⟩=some (.int .i64 x.f3):=by go_simp
          have h4:(wr.alloc (Obj.cells #[Value.int IntKind.i64 ↑a,Value.int IntKind.i64 ↑d,Value.int IntKind.i64 x.f2,Value.int IntKind.i64 x.f3,Value.int IntKind.i64 x.f4] 82)).cell? ⟨wr.heap.size,4,none⟩=some (.int .i64 x.f4):=by go_simp
          generalize wr.alloc (Obj.cells #[Value.int IntKind.i64 ↑a,Value.int IntKind.i64 ↑d,Value.int IntKind.i64 x.f2,Value.int IntKind.i64 x.f3,Value.int IntKind.i64 x.f4] 82)=W1 at *;have hgX:w.heap.size+1≠wr.heap.size:=fun e=>by have:=World.block_lt_of_cell? _ _ HSo.out.tc;simp only at this;omega
          clear HSo;generalize wr.heap.size=X at *;have pa:=HS.out.pb a (by omega);have pd:=HS.out.pb d (by omega);by_cases hpa:Pq p a=true
          · rw [hpa] at pa
            by_cases hpd:Pq p d=true
            · rw[hpd]at pd
              go_quiet (fail)
              go_wp2;exact⟨⟨k+1,b,p,by omega,rfl,by go_num,⟨HP.out.skip hlt HE.out (hpa.trans hpd.symm)⟩,⟨HS.out.keep (pw_below_drewN (Below.refl _ _) _)⟩,⟨pw_below_drewN HB.out _⟩⟩,qz41⟩
            · have hpd':Pq p d=false:=by simpa using hpd
              rw[hpd']at pd;have x0:=HS.out.px a (by omega);have x1:=HS.out.py a (by omega);have x2:=HS.out.pz a (by omega);have y0:=HS.out.px d (by omega);have y1:=HS.out.py d (by omega);have y2:=HS.out.pz d (by omega)
              go_quiet (fail)
              go_wp2
              go_quiet (fail)
              go_wp2_with fail
              go_region_held3 (fun w'=>w'.cell? ⟨X,0,none⟩=some (.int .i64 (a:Int))∧w'.cell? ⟨X,1,none⟩=some (.int .i64 (d:Int))∧w'.cell? ⟨X,2,none⟩=some (.int .i64 x.f2)∧w'.cell? ⟨X,3,none⟩=some (.int .i64 x.f3)∧w'.cell? ⟨X,4,none⟩=some (.int .i64 x.f4)
                  ∧w'.cell? ⟨w.heap.size+1,8+a*3,none⟩=some (.int .i64 (Xq ls p a).f0)∧w'.cell? ⟨w.heap.size+1,8+a*3+1,none⟩=some (.int .i64 (Xq ls p a).f1)∧w'.cell? ⟨w.heap.size+1,8+a*3+2,none⟩=some (.int .i64 (Xq ls p a).f2))
                ((repeat' refine And.intro ?_ ?_)<;>first
                  |((with_reducible refine far (far (far ?_ ?_) ?_) ?_)<;>first|exact blkne hgX|exact offne (by omega)|exact Sine.keepc (w:=W1) qz74 qz13)
                  |exact Sine.keepc (w:=W1) qz74 qz13)
                (first
                  |(go_at_call 111;(with_reducible refine(HLS.out _ ?s1).mono ?_);(case s1=>exact HL.out.keep qz13);rintro e w' ⟨rfl,hw1⟩)
                  | (go_at_call 110;(with_reducible refine(shiftPlus (Xq ls p a) (shift x) 1 _).mono ?_);rintro e w' ⟨rfl,hw2⟩
                     have HS2:=ak (HS.out.keep (W:=w') qz13);have HB2:Aside0 (Below w.heap.size w w'):=⟨qz13⟩;have y0:=HS2.out.px d (by omega);have y1:=HS2.out.py d (by omega);have y2:=HS2.out.pz d (by omega);have z0:=HS2.out.fg (8+d*3);have z1:=HS2.out.fg (8+d*3+1)
                     have z2:=HS2.out.fg (8+d*3+2)))
              have h1':=far (far (far (Sine.keepc (w:=W1) h1 (show Below W1.heap.size W1 w' from by(repeat(first|exact Below.refl _ _|apply pw_below_drewN|apply below_drew1|exact HB.out|refine below_step ?_ qz74));done)) (v:= .int .i64 (plus (Xq ls p a) (shift x) 1).f0) (blkne (i:=8+d*3) hgX)) (v:= .int .i64 (plus (Xq ls p a) (shift x) 1).f1) (blkne (i:=8+d*3+1) hgX)) (v:= .int .i64 (plus (Xq ls p a) (shift x) 1).f2) (blkne (i:=8+d*3+2) hgX);have HS3:=ak (HS2.out.setX (s:=d) (by omega) (plus (Xq ls p a) (shift x) 1));have HB3:=ak (below_set (below_set (below_set HB2.out (j:=8+d*3) (v:= .int .i64 (plus (Xq ls p a) (shift x) 1).f0) (g:=w.heap.size+1) (by omega)) (j:=8+d*3+1) (v:= .int .i64 (plus (Xq ls p a) (shift x) 1).f1) (g:=w.heap.size+1) (by omega)) (j:=8+d*3+2) (v:= .int .i64 (plus (Xq ls p a) (shift x) 1).f2) (g:=w.heap.size+1) (by omega));clear HS2 HB2 y0 y1 y2 z0 z1 z2 x0 x1 x2 h0 h1 h2 h3 h4 pa pd;generalize ((w'.setCell {block:=w.heap.size+1,off:=8+d*3} (Value.int IntKind.i64 (plus (Xq ls p a) (shift x) 1).f0)).setCell {block:=w.heap.size+1,off:=8+d*3+1} (Value.int IntKind.i64 (plus (Xq ls p a) (shift x) 1).f1)).setCell {block:=w.heap.size+1,off:=8+d*3+2} (Value.int IntKind.i64 (plus (Xq ls p a) (shift x) 1).f2)=W3 at *;have pd:=HS3.out.pb d (by omega);have zd:=HS3.out.fg d;go_wp2_with fail
              go_region_held3 (fun w'=>w'.cell? ⟨X,1,none⟩=some (.int .i64 (d:Int)))
                (first
                  |((with_reducible refine cdrew (far ?_ ?_))<;>first|exact blkne hgX|exact h1')
                  |exact Sine.keepc (w:=W3) h1' qz13)
                (first|fail)
              have HS4:=ak (HS3.out.setP (s:=d) (by omega)).drew;have HB4:=ak (below_drew1 (below_set HB3.out (j:=d) (v:= .bool true) (g:=w.heap.size+1) (by omega)));clear HS3 HB3 pd zd h1';generalize (W3.setCell {block:=w.heap.size+1,off:=d} (Value.bool true)).drew=W4 at *;have tc:=HS4.out.tc;have tk:=HS4.out.tb k hlt;have zk:=HS4.out.ft k;have k0:(0:Int)≤(k:Int):=by omega
              have k1:(k:Int)<(ls.length:Int):=by omega
              go_wp2;exact⟨⟨k+1,true,((k:Int),(a:Int),(d:Int))::p,by omega,rfl,by go_num,⟨HP.out.fore hlt HE.out hpa hpd'⟩,⟨(HS4.out.setB hlt).congr (fun s _=>Pq_cons k a d s p) (fun s _=>Xq_fore HE.out HXE.out s) (fun i _=>Bq_cons k a d i p)⟩,⟨below_set HB4.out (by omega)⟩⟩,qz41⟩
          · have hpa':Pq p a=false:=by simpa using hpa
            rw[hpa']at pa;by_cases hpd:Pq p d=true
            · rw [hpd]at pd
              have x0:=HS.out.px d (by omega);have x1:=HS.out.py d (by omega);have x2:=HS.out.pz d (by omega);have y0:=HS.out.px a (by omega);have y1:=HS.out.py a (by omega);have y2:=HS.out.pz a (by omega)
              go_quiet (fail)
              go_wp2
              go_quiet (fail)
              go_wp2_with fail
              go_region_held3 (fun w'=>w'.cell? ⟨X,0,none⟩=some (.int .i64 (a:Int))∧w'.cell? ⟨X,1,none⟩=some (.int .i64 (d:Int))∧w'.cell? ⟨X,2,none⟩=some (.int .i64 x.f2)∧w'.cell? ⟨X,3,none⟩=some (.int .i64 x.f3)∧w'.cell? ⟨X,4,none⟩=some (.int .i64 x.f4)
                  ∧w'.cell? ⟨w.heap.size+1,8+d*3,none⟩=some (.int .i64 (Xq ls p d).f0)∧w'.cell? ⟨w.heap.size+1,8+d*3+1,none⟩=some (.int .i64 (Xq ls p d).f1)∧w'.cell? ⟨w.heap.size+1,8+d*3+2,none⟩=some (.int .i64 (Xq ls p d).f2))
                ((repeat' refine And.intro ?_ ?_)<;>first
                  |((with_reducible refine far (far (far ?_ ?_) ?_) ?_)<;>first|exact blkne hgX|exact offne (by omega)|exact Sine.keepc (w:=W1) qz74 qz13)
                  |exact Sine.keepc (w:=W1) qz74 qz13)
                (first
                  |(go_at_call 111;(with_reducible refine(HLS.out _ ?s1).mono ?_);(case s1=>exact HL.out.keep qz13);rintro e w' ⟨rfl,hw1⟩)
                  | (go_at_call 110;(with_reducible refine(shiftPlus (Xq ls p d) (shift x) (-1) _).mono ?_);rintro e w' ⟨rfl,hw2⟩
                     have HS2:=ak (HS.out.keep (W:=w') qz13);have HB2:Aside0 (Below w.heap.size w w'):=⟨qz13⟩;have y0:=HS2.out.px a (by omega);have y1:=HS2.out.py a (by omega);have y2:=HS2.out.pz a (by omega);have z0:=HS2.out.fg (8+a*3);have z1:=HS2.out.fg (8+a*3+1)
                     have z2:=HS2.out.fg (8+a*3+2)))
              have h0':=far (far (far (Sine.keepc (w:=W1) h0 (show Below W1.heap.size W1 w' from by(repeat(first|exact Below.refl _ _|apply pw_below_drewN|apply below_drew1|exact HB.out|refine below_step ?_ qz74));done)) (v:= .int .i64 (plus (Xq ls p d) (shift x) (-1)).f0) (blkne (i:=8+a*3) hgX)) (v:= .int .i64 (plus (Xq ls p d) (shift x) (-1)).f1) (blkne (i:=8+a*3+1) hgX)) (v:= .int .i64 (plus (Xq ls p d) (shift x) (-1)).f2) (blkne (i:=8+a*3+2) hgX);have HS3:=ak (HS2.out.setX (s:=a) (by omega) (plus (Xq ls p d) (shift x) (-1)));have HB3:=ak (below_set (below_set (below_set HB2.out (j:=8+a*3) (v:= .int .i64 (plus (Xq ls p d) (shift x) (-1)).f0) (g:=w.heap.size+1) (by omega)) (j:=8+a*3+1) (v:= .int .i64 (plus (Xq ls p d) (shift x) (-1)).f1) (g:=w.heap.size+1) (by omega)) (j:=8+a*3+2) (v:= .int .i64 (plus (Xq ls p d) (shift x) (-1)).f2) (g:=w.heap.size+1) (by omega));clear HS2 HB2 y0 y1 y2 z0 z1 z2 x0 x1 x2 h0 h1 h2 h3 h4 pd pa;generalize ((w'.setCell {block:=w.heap.size+1,off:=8+a*3} (Value.int IntKind.i64 (plus (Xq ls p d) (shift x) (-1)).f0)).setCell {block:=w.heap.size+1,off:=8+a*3+1} (Value.int IntKind.i64 (plus (Xq ls p d) (shift x) (-1)).f1)).setCell {block:=w.heap.size+1,off:=8+a*3+2} (Value.int IntKind.i64 (plus (Xq ls p d) (shift x) (-1)).f2)=W3 at *;have pa:=HS3.out.pb a (by omega);have zd:=HS3.out.fg a;go_wp2_with fail
              go_region_held3 (fun w'=>w'.cell? ⟨X,0,none⟩=some (.int .i64 (a:Int)))
                (first
                  |((with_reducible refine cdrew (far ?_ ?_))<;>first|exact blkne hgX|exact h0')
                  |exact Sine.keepc (w:=W3) h0' qz13)
                (first|fail)
              have HS4:=ak (HS3.out.setP (s:=a) (by omega)).drew;have HB4:=ak (below_drew1 (below_set HB3.out (j:=a) (v:= .bool true) (g:=w.heap.size+1) (by omega)));clear HS3 HB3 pa zd h0';generalize (W3.setCell {block:=w.heap.size+1,off:=a} (Value.bool true)).drew=W4 at *;have tc:=HS4.out.tc;have tk:=HS4.out.tb k hlt;have zk:=HS4.out.ft k;have k0:(0:Int)≤(k:Int):=by omega
              have k1:(k:Int)<(ls.length:Int):=by omega
              go_wp2;exact⟨⟨k+1,true,((k:Int),(d:Int),(a:Int))::p,by omega,rfl,by go_num,⟨HP.out.back hlt HE.out hpa' hpd⟩,⟨(HS4.out.setB hlt).congr (fun s _=>Pq_cons k d a s p) (fun s _=>Xq_back HE.out had HXE.out s) (fun i _=>Bq_cons k d a i p)⟩,⟨below_set HB4.out (by omega)⟩⟩,qz41⟩
            · have hpd':Pq p d=false:=by simpa using hpd
              rw[hpd']at pd
              go_quiet (fail)
              go_wp2;exact⟨⟨k+1,b,p,by omega,rfl,by go_num,⟨HP.out.skip hlt HE.out (hpa'.trans hpd'.symm)⟩,⟨HS.out.keep (pw_below_drewN (Below.refl _ _) _)⟩,⟨pw_below_drewN HB.out _⟩⟩,qz41⟩
        · obtain rfl:k=ls.length:=by omega
          go_wp2;obtain⟨f,hf,_⟩:=HA.out.2.1 rfl;subst hf;have HN:=ak (HA.out.next HG.out HP.out);go_roundg f;(case measure=>omega);(case rel=>exact⟨b,p,rfl,HN,HS,HB⟩)
end Net
namespace Net
open A Plain
open Tree (verts legs)
open Grow (Q sweep grow)
theorem Ev.step_ge{α:Type}{g f:Nat→Option α}{r:α}(N:Nat)(h:∀k,N≤k→g (k+1)=f k)(k:Ev f r):Ev g r:=by
  obtain⟨K,hK⟩:=k;refine⟨max N K+1,fun m hm=>?_⟩;obtain⟨m,rfl⟩:∃x,m=x+1:=⟨m-1,by omega⟩
  rw[h m (by omega)];exact hK m (by omega)
theorem has_loop(l:List Int)(n:Int)(hl:l.length≤1000000):∀(d i k:Nat),i+d=l.length→d<k→spec_l1Has.l0 k l n (i:Int)=some (decide (n∈l.drop i)):=by
  intro d
  induction d with
  | zero=>
    intro i k hi hk;obtain⟨k,rfl⟩:∃m,k=m+1:=⟨k-1,by omega⟩
    simp only[spec_l1Has.l0];rw[if_neg (by omega),List.drop_eq_nil_of_le (by omega)];simp
  | succ d ih=>
    intro i k hi hk;obtain⟨k,rfl⟩:∃m,k=m+1:=⟨k-1,by omega⟩
    have hlt:i<l.length:=by omega
    have er:rd l (i:Int)=l[i]:=by
      unfold rd;rw[Int.toNat_natCast,List.getD_eq_getElem?_getD,List.getElem?_eq_getElem hlt];rfl
    have e:wrap64 ((i:Int)+1)=((i+1:Nat):Int):=by rw[w64 (by omega) (by omega)];omega
    rw[List.drop_eq_getElem_cons hlt];simp only[spec_l1Has.l0];by_cases hc:l[i]=n
    · rw[if_pos (by omega),if_pos (by omega),er,if_pos hc,hc]
      simp
    · have hd:decide (n∈l[i]::l.drop (i+1))=decide (n∈l.drop (i+1)):=by rw[decide_eq_decide,List.mem_cons];exact⟨fun h=>h.resolve_left (fun e=>hc e.symm),Or.inr⟩
      rw[if_pos (by omega),if_pos (by omega),er,if_neg hc,e,hd];exact ih (i+1) k (by omega) (by omega)
theorem has_at(l:List Int)(n:Int)(hl:l.length≤1000000)(k:Nat)(hk:l.length<k):spec_l1Has.f k l n=some (decide (n∈l)):=has_loop l n hl l.length 0 k (by omega) hk
theorem has_ev(l:List Int)(n:Int)(hl:l.length≤1000000):Ev (fun k=>spec_l1Has.f k l n) (decide (n∈l)):=⟨l.length+1,fun k hk=>has_at l n hl k hk⟩
theorem put_split(n:Int):∀(p s:List Int),(∀x∈p,x<n)→(∀y∈s.head?,n<y)→Sort.put (p++s) n=p++n::s
  |[],[],_,_=>rfl
  | [],y::s,_,h=>by
    have:=h y rfl;simp only[List.nil_append,Sort.put];rw[if_neg (by omega),if_neg (by omega)]
  | x::p,s,h,hs=>by
    have:=h x List.mem_cons_self;simp only[List.cons_append,Sort.put];rw[if_pos this,put_split n p s (fun x hx=>h x (List.mem_cons_of_mem _ hx)) hs]
theorem put_loop (l:List Int) (n:Int) (hl:l.length≤1000000) (ha:Sort.Asc l) (hn:n∉l):∀(d i k:Nat),i+d=l.length→d<k→(∀x∈l.take i,x<n)→spec_l1Put.l0 k l n (i:Int)=some (Sort.put l n):=by
  intro d
  induction d with
  | zero=>
    intro i k hi hk h;obtain⟨k,rfl⟩:∃m,k=m+1:=⟨k-1,by omega⟩
    have e1:Sort.put l n=l.take i++n::l.drop i:=by
      have:=put_split n (l.take i) (l.drop i) h (by rw[List.drop_eq_nil_of_le (by omega)];simp)
      rwa [List.take_append_drop]at this
    simp only[spec_l1Put.l0];rw[if_neg (by omega)];simp only[Option.bind_some,Int.toNat_natCast];rw[if_pos (by omega),if_pos (by omega),if_pos qz82,if_pos qz82,if_pos qz82,e1];simp
  | succ d ih=>
    intro i k hi hk h;obtain⟨k,rfl⟩:∃m,k=m+1:=⟨k-1,by omega⟩
    have hlt:i<l.length:=by omega
    have er:rd l (i:Int)=l[i]:=by
      unfold rd;rw[Int.toNat_natCast,List.getD_eq_getElem?_getD,List.getElem?_eq_getElem hlt];rfl
    have e:wrap64 ((i:Int)+1)=((i+1:Nat):Int):=by rw[w64 (by omega) (by omega)];omega
    have hne:l[i]≠n:=fun e=>hn (e▸List.getElem_mem hlt)
    by_cases hc:l[i]<n
    · simp only[spec_l1Put.l0]
      rw[if_pos (by omega),if_pos (by omega),er,if_pos hc,e];refine ih (i+1) k (by omega) (by omega) (fun x hx=>?_)
      · rw[List.take_succ_eq_append_getElem hlt,List.mem_append,List.mem_singleton]at hx
        rcases hx with hx|rfl
        · exact h x hx
        · exact hc
    · have e1:Sort.put l n=l.take i++n::l.drop i:=by
        have:=put_split n (l.take i) (l.drop i) h (by
          rw[List.drop_eq_getElem_cons hlt];intro y hy;simp only[List.head?_cons,Option.mem_def,Option.some.injEq]at hy
          omega)
        rwa [List.take_append_drop]at this
      simp only[spec_l1Put.l0];rw[if_pos (by omega),if_pos (by omega),er,if_neg hc,if_neg hne];simp only[Option.bind_some,Int.toNat_natCast];rw[if_pos (by omega),if_pos qz82,if_pos qz82,if_pos qz82,e1];simp
theorem put_at(l:List Int)(n:Int)(hl:l.length≤1000000)(ha:Sort.Asc l)(hn:n∉l)(k:Nat)(hk:l.length<k):spec_l1Put.f k l n=some (Sort.put l n):=put_loop l n hl ha hn l.length 0 k (by omega) hk (by simp)
theorem div_eq(a:Int)(h0: -1000000000≤a)(h1:a≤1000000000):spec_l2Div.f a 1000=some (rnd a):=by
  unfold spec_l2Div.f rnd;have e2:wrap64 (2*1000)=2000:=by unfold wrap64;omega
  by_cases h:a<0
  · have e1:wrap64 ((-2)*a)=2*(-a):=by unfold wrap64;omega
    have e3:wrap64 (2*(-a)+1000)=2*(-a)+1000:=by unfold wrap64;omega
    have e4:Int.tdiv (2*(-a)+1000) 2000=(2*(-a)+1000)/2000:=Int.tdiv_eq_ediv_of_nonneg (by omega);have e5:wrap64 ((2*(-a)+1000)/2000)=(2*(-a)+1000)/2000:=by unfold wrap64;omega
    have e6:wrap64 (-((2*(-a)+1000)/2000))= -((2*(-a)+1000)/2000):=by unfold wrap64;omega
    rw[if_pos h,e2,if_neg (by decide),e1,e3,e4,e5,e6,if_pos h]
  · have e1:wrap64 (2*a)=2*a:=by unfold wrap64;omega
    have e3:wrap64 (2*a+1000)=2*a+1000:=by unfold wrap64;omega
    have e4:Int.tdiv (2*a+1000) 2000=(2*a+1000)/2000:=Int.tdiv_eq_ediv_of_nonneg (by omega);have e5:wrap64 ((2*a+1000)/2000)=(2*a+1000)/2000:=by unfold wrap64;omega
    rw[if_neg h,e2,if_neg (by decide),e1,e3,e4,e5,if_neg h]
theorem table_eq:spec_l2Table.f=some Sine.tab:=rfl
theorem sine_eq (a:Int) (h0: -1000000≤a) (h1:a≤1000000):spec_l2Sine.f a=some (Sine.f a):=by
  have hm:Int.tmod (wrap64 (Int.tmod a 360+360)) 360=a % 360:=by
    have e0:Int.tmod a 360=a % 360∨Int.tmod a 360=a % 360-360:=by
      rw[Int.tmod_eq_emod];split
      · left;omega
      · right;simp
    have e1:wrap64 (Int.tmod a 360+360)=Int.tmod a 360+360:=by unfold wrap64;omega
    rw[e1,Int.tmod_eq_emod_of_nonneg (by omega)];omega
  unfold spec_l2Sine.f Sine.f;simp only[hm];have g0:0≤a % 360:=by omega
  have g1:a % 360<360:=by omega
  generalize a % 360=d at *;have hlen:(Sine.tab.length:Int)=91:=rfl;have w1:wrap64 (180-d)=180-d:=by unfold wrap64;omega
  have w2:wrap64 (d-180)=d-180:=by unfold wrap64;omega
  have w3:wrap64 (360-d)=360-d:=by unfold wrap64;omega
  have hb:∀i:Nat,wrap64 (-(Sine.tab.getD i 0))= -(Sine.tab.getD i 0):=fun i=>by have:=Sine.getD_bound i;unfold wrap64;omega
  by_cases c1:d≤90
  · rw[if_pos c1,table_eq,Option.bind_some,if_pos g0,if_pos (by omega),if_pos (by omega)]
    unfold Sine.s rd;rw[if_pos c1]
  · rw [if_neg c1]
    by_cases c2:d≤180
    · rw[if_pos c2,table_eq,Option.bind_some,w1,if_pos (by omega),if_pos (by omega),if_pos c2]
      unfold Sine.s rd;rw[if_neg c1]
    · rw[if_neg c2,if_neg c2]
      by_cases c3:d≤270
      · rw[if_pos c3,table_eq,Option.bind_some,w2,if_pos (by omega),if_pos (by omega)]
        unfold Sine.s rd;rw[if_pos (by omega),hb]
      · rw[if_neg c3,table_eq,Option.bind_some,w3,if_pos (by omega),if_pos (by omega)]
        unfold Sine.s rd;rw[if_neg (by omega),hb,show 180-(d-180)=360-d by omega]
theorem cosine_eq(a:Int)(h0: -100000≤a)(h1:a≤100000):spec_l2Cosine.f a=some (Sine.f (a+90)):=by
  unfold spec_l2Cosine.f;rw[w64 (by omega) (by omega),sine_eq _ (by omega) (by omega)];rfl
theorem shift_eq(x:S82)(h:Good x):spec_l4Shift.f x.f0 x.f1 x.f2 x.f3 x.f4=some ((shift x).f0,(shift x).f1,(shift x).f2):=by
  obtain⟨_,_,_,h2,h3,h4⟩:=h;have a:=part_bound x.f2 x.f4 500 (by omega) (by omega);have p1:=prod_bound x.f2 (x.f4+90) (by omega) (by omega);have p2:=prod_bound x.f2 x.f4 (by omega) (by omega);have p3:=prod_bound (part x.f2 x.f4).1 (x.f3+90) (by omega) (by omega);have p4:=prod_bound (part x.f2 x.f4).1 x.f3 (by omega) (by omega);have ep:rnd (x.f2*Sine.f (x.f4+90))=(part x.f2 x.f4).1:=rfl;unfold spec_l4Shift.f
  rw[cosine_eq _ (by omega) (by omega),Option.bind_some,w64 (by omega) (by omega),div_eq _ (by omega) (by omega),Option.bind_some,ep,sine_eq _ (by omega) (by omega),Option.bind_some,w64 (by omega) (by omega),div_eq _ (by omega) (by omega),Option.bind_some,
    cosine_eq _ (by omega) (by omega),Option.bind_some,w64 (by omega) (by omega),div_eq _ (by omega) (by omega),Option.bind_some,sine_eq _ (by omega) (by omega),Option.bind_some,w64 (by omega) (by omega),div_eq _ (by omega) (by omega),Option.bind_some]
  rfl
def plL:Q→List Int
  |[]=>[0]
  |(_,_,s)::q=>Sort.put (plL q) s
def trL:Q→List Int
  |[]=>[]
  |(i,_,_)::q=>Sort.put (trL q) i
def XL(ls:L)(q:Q):List S72:=(List.range 8).map (Xq ls q)
theorem mem_plL(q:Q)(s:Int):s∈plL q↔s∈verts 0 q:=by
  induction q with
  |nil=>simp[plL,verts]
  | cons x q ih=>
    obtain⟨i,u,t⟩:=x;simp only[plL,Sort.mem_put,ih,verts,List.map_cons,List.mem_cons]
    constructor
    · rintro(h|h|h)
      · exact Or.inr (Or.inl h)
      · exact Or.inl h
      · exact Or.inr (Or.inr h)
    · rintro(h|h|h)
      · exact Or.inr (Or.inl h)
      · exact Or.inl h
      · exact Or.inr (Or.inr h)
theorem mem_trL(q:Q)(i:Int):i∈trL q↔i∈legs q:=by
  induction q with
  |nil=>simp[trL,legs]
  | cons x q ih=>
    obtain⟨j,u,t⟩:=x;simp only[trL,Sort.mem_put,ih,legs,List.map_cons,List.mem_cons]
theorem put_len_le(l:List Int)(n:Int):(Sort.put l n).length≤l.length+1:=by
  induction l with
  |nil=>simp[Sort.put]
  | cons x l ih=>
    simp only[Sort.put];split
    · simp;omega
    · split<;>simp
theorem asc_plL(q:Q):Sort.Asc (plL q):=by
  induction q with
  |nil=>simp[plL,Sort.Asc]
  |cons x q ih=>exact Sort.asc_put ih _
theorem asc_trL(q:Q):Sort.Asc (trL q):=by
  induction q with
  |nil=>simp[trL,Sort.Asc]
  |cons x q ih=>exact Sort.asc_put ih _
theorem plL_len(q:Q):(plL q).length≤q.length+1:=by
  induction q with
  |nil=>simp[plL]
  | cons x q ih=>
    obtain⟨i,u,s⟩:=x;have:=put_len_le (plL q) s;simp only[plL,List.length_cons];omega
theorem trL_len(q:Q):(trL q).length≤q.length:=by
  induction q with
  |nil=>simp[trL]
  | cons x q ih=>
    obtain⟨i,u,s⟩:=x;have:=put_len_le (trL q) i;simp only[trL,List.length_cons];omega
theorem XL_len(ls:L)(q:Q):(XL ls q).length=8:=by simp[XL]
theorem XL_at(ls:L)(q:Q)(a:Nat)(h:a<8):rd_T72 (XL ls q) (a:Int)=Xq ls q a:=by
  unfold rd_T72 XL;rw[Int.toNat_natCast,List.getD_eq_getElem?_getD,List.getElem?_map,List.getElem?_range h];rfl
theorem XL_set(ls:L)(q q':Q)(d:Nat)(v:S72)(h:∀i,i<8→Xq ls q' i=if i=d then v else Xq ls q i):(XL ls q).set d v=XL ls q':=by
  apply List.ext_getElem
  · simp[XL]
  · intro i h1 h2
    rw[List.getElem_set];simp only[XL,List.getElem_map,List.getElem_range];have hi:i<8:=by simpa[XL]using h2
    rw[h i hi];by_cases e:i=d
    · subst e;simp
    · rw[if_neg e,if_neg (fun e'=>e e'.symm)]
theorem leg_good{ls:L}(hg:∀x∈ls,Good x)(i:Nat)(hi:i<ls.length):Good (leg ls (i:Int)):=hg _ (by
  unfold leg rd_T82;rw[Int.toNat_natCast,List.getD_eq_getElem?_getD,List.getElem?_eq_getElem hi]
  exact List.getElem_mem _)
theorem one_leg (ls:L) (hn:ls.length≤12) (hg:∀x∈ls,Good x) (q:Q) (ok:Grow.Ok (ends ls) ls.length q) (i:Nat) (hi:i<ls.length) (b:Bool) (hb:q.length≤7) (r:List S72×List Int×List Int)
    (h:∀b',b'=(b || decide (q.length<(Grow.step (ends ls) q i).length))→Ev (fun k=>spec_l6Place.l1 k ls (XL ls (Grow.step (ends ls) q i)) (plL (Grow.step (ends ls) q i)) (trL (Grow.step (ends ls) q i)) b' ((i+1:Nat):Int)) r):
    Ev (fun k=>spec_l6Place.l1 k ls (XL ls q) (plL q) (trL q) b (i:Int)) r:=by
  have b1:(i:Int)<(ls.length:Int):=Int.ofNat_lt.mpr hi;have b0:(0:Int)≤(i:Int):=Int.natCast_nonneg i;have e:wrap64 ((i:Int)+1)=((i+1:Nat):Int):=by rw[w64 (by omega) (by omega)];omega
  have hgood:=leg_good hg i hi;have hE:ends ls i=((leg ls i).f0,(leg ls i).f1):=rfl;have hrd:rd_T82 ls (i:Int)=leg ls i:=rfl;have hsh:=shift_eq _ hgood;generalize hx:leg ls (i:Int)=x at hgood hE hrd hsh;obtain⟨⟨a0,a8⟩,⟨d0,d8⟩,had,_⟩:=hgood;obtain⟨a,ha⟩:=Int.eq_ofNat_of_zero_le a0;obtain⟨d,hd⟩:=Int.eq_ofNat_of_zero_le d0;rw[ha,hd]at had hE;have ka0:(0:Int)≤(a:Int):=Int.natCast_nonneg a;have kd0:(0:Int)≤(d:Int):=Int.natCast_nonneg d;rw[ha]at a8;rw[hd]at d8;have na8:a<8:=Int.ofNat_lt.mp a8;have nd8:d<8:=Int.ofNat_lt.mp d8;have hlen:((XL ls q).length:Int)=8:=by rw[XL_len];rfl
  have ka1:(a:Int)<((XL ls q).length:Int):=by rw[hlen];exact Int.ofNat_lt.mpr na8
  have kd1:(d:Int)<((XL ls q).length:Int):=by rw[hlen];exact Int.ofNat_lt.mpr nd8
  have l1:(plL q).length≤8:=Nat.le_trans (plL_len q) (Nat.succ_le_succ hb);have l2:(trL q).length≤7:=Nat.le_trans (trL_len q) hb;have l1m:(plL q).length≤1000000:=Nat.le_trans l1 (by decide);have l2m:(trL q).length≤1000000:=Nat.le_trans l2 (by decide);have l1k:∀{k:Nat},20≤k→(plL q).length<k:=fun hk=>Nat.lt_of_le_of_lt l1 (Nat.lt_of_lt_of_le (by decide:8<20) hk)
  have l2k:∀{k:Nat},20≤k→(trL q).length<k:=fun hk=>Nat.lt_of_le_of_lt l2 (Nat.lt_of_lt_of_le (by decide:7<20) hk)
  have A1:=fun k (hk:20≤k)=>has_at (plL q) (a:Int) l1m k (l1k hk)
  have D1:=fun k (hk:20≤k)=>has_at (plL q) (d:Int) l1m k (l1k hk)
  simp only[mem_plL]at A1 D1
  have hitr:¬((a:Int)∈verts 0 q∧(d:Int)∈verts 0 q)→(i:Int)∉trL q:=by
    intro c h;rw[mem_trL]at h;have:=ok.legs_ends _ h;rw[hE]at this;exact c ⟨this.1,this.2.1⟩
  have na:∀{c:Nat},(c:Int)∉verts 0 q→(c:Int)∉plL q:=fun h h'=>h ((mem_plL q _).mp h')
  by_cases pa:(a:Int)∈verts 0 q
  · by_cases pd:(d:Int)∈verts 0 q
    · have hs:Grow.step (ends ls) q i=q:=by
        unfold Grow.step;rw[hE,if_neg (fun c=>c.2 pd),if_neg (fun c=>c.2 pa)]
      rw[hs]at h;refine Ev.step_ge 20 (f:=fun k=>spec_l6Place.j2 k ls (XL ls q) (plL q) (trL q) b (i:Int) (a:Int) (d:Int) false) (fun k hk=>?_) ?_
      · simp only[spec_l6Place.l1]
        rw[if_pos b1,if_pos b0,hrd,ha,hd,A1 k hk,Option.bind_some,decide_eq_true pa,if_pos rfl,D1 k hk,Option.bind_some,decide_eq_true pd];rfl
      refine Ev.step_ge 20 (f:=fun k=>spec_l6Place.j3 k ls (XL ls q) (plL q) (trL q) b (i:Int) (a:Int) (d:Int) false) (fun k hk=>?_) ?_
      · simp only[spec_l6Place.j2]
        rw[if_neg (by decide),D1 k hk,Option.bind_some,decide_eq_true pd,if_pos rfl,A1 k hk,Option.bind_some,decide_eq_true pa];rfl
      refine Ev.step_ge 20 (fun k hk=>?_) (h b (by simp));simp only[spec_l6Place.j3];rw[if_neg (by decide),e]
    · have hs:Grow.step (ends ls) q i=((i:Int),(a:Int),(d:Int))::q:=by
        unfold Grow.step;rw[hE,if_pos ⟨pa,pd⟩]
      rw[hs]at h;refine Ev.step_ge 20 (f:=fun k=>spec_l6Place.j2 k ls (XL ls q) (plL q) (trL q) b (i:Int) (a:Int) (d:Int) true) (fun k hk=>?_) ?_
      · simp only[spec_l6Place.l1]
        rw[if_pos b1,if_pos b0,hrd,ha,hd,A1 k hk,Option.bind_some,decide_eq_true pa,if_pos rfl,D1 k hk,Option.bind_some,decide_eq_false pd];rfl
      refine Ev.step_ge 20 (fun k hk=>?_) (h true (by simp));simp only[spec_l6Place.j2];rw[if_pos trivial,if_pos ka0,if_pos ka1,if_pos b0,if_pos b1,hrd,hsh,Option.bind_some];simp only[spec_l4Plus.f,Option.bind_some];rw[if_pos kd0,if_pos kd1,put_at _ _ l1m (asc_plL q) (na pd) k (l1k hk),Option.bind_some,put_at _ _ l2m (asc_trL q) (hitr (fun c=>pd c.2)) k (l2k hk),Option.bind_some,e,XL_at _ _ _ na8,Int.toNat_natCast];rw[←XL_set ls q (((i:Int),(a:Int),(d:Int))::q) d (plus (Xq ls q a) (shift x) 1) (fun s _=>Xq_fore hE hx s)];rfl
  · by_cases pd:(d:Int)∈verts 0 q
    · have hs:Grow.step (ends ls) q i=((i:Int),(d:Int),(a:Int))::q:=by
        unfold Grow.step;rw[hE,if_neg (fun c=>pa c.1),if_pos ⟨pd,pa⟩]
      rw[hs]at h;refine Ev.step_ge 20 (f:=fun k=>spec_l6Place.j2 k ls (XL ls q) (plL q) (trL q) b (i:Int) (a:Int) (d:Int) false) (fun k hk=>?_) ?_
      · simp only[spec_l6Place.l1]
        rw[if_pos b1,if_pos b0,hrd,ha,hd,A1 k hk,Option.bind_some,decide_eq_false pa,if_neg (by decide)]
      refine Ev.step_ge 20 (f:=fun k=>spec_l6Place.j3 k ls (XL ls q) (plL q) (trL q) b (i:Int) (a:Int) (d:Int) true) (fun k hk=>?_) ?_
      · simp only[spec_l6Place.j2]
        rw[if_neg (by decide),D1 k hk,Option.bind_some,decide_eq_true pd,if_pos rfl,A1 k hk,Option.bind_some,decide_eq_false pa];rfl
      refine Ev.step_ge 20 (fun k hk=>?_) (h true (by simp));simp only[spec_l6Place.j3];rw[if_pos trivial,if_pos kd0,if_pos kd1,if_pos b0,if_pos b1,hrd,hsh,Option.bind_some];simp only[spec_l4Plus.f,Option.bind_some];rw[if_pos ka0,if_pos ka1,put_at _ _ l1m (asc_plL q) (na pa) k (l1k hk),Option.bind_some,put_at _ _ l2m (asc_trL q) (hitr (fun c=>pa c.1)) k (l2k hk),Option.bind_some,e,XL_at _ _ _ nd8,Int.toNat_natCast];rw[←XL_set ls q (((i:Int),(d:Int),(a:Int))::q) a (plus (Xq ls q d) (shift x) (-1)) (fun s _=>Xq_back hE had hx s)];rfl
    · have hs:Grow.step (ends ls) q i=q:=by
        unfold Grow.step;rw[hE,if_neg (fun c=>pa c.1),if_neg (fun c=>pd c.1)]
      rw[hs]at h;refine Ev.step_ge 20 (f:=fun k=>spec_l6Place.j2 k ls (XL ls q) (plL q) (trL q) b (i:Int) (a:Int) (d:Int) false) (fun k hk=>?_) ?_
      · simp only[spec_l6Place.l1]
        rw[if_pos b1,if_pos b0,hrd,ha,hd,A1 k hk,Option.bind_some,decide_eq_false pa,if_neg (by decide)]
      refine Ev.step_ge 20 (f:=fun k=>spec_l6Place.j3 k ls (XL ls q) (plL q) (trL q) b (i:Int) (a:Int) (d:Int) false) (fun k hk=>?_) ?_
      · simp only[spec_l6Place.j2]
        rw[if_neg (by decide),D1 k hk,Option.bind_some,decide_eq_false pd,if_neg (by decide)]
      refine Ev.step_ge 20 (fun k hk=>?_) (h b (by simp));simp only[spec_l6Place.j3];rw[if_neg (by decide),e]
theorem Good.range{ls:L}(hg:∀x∈ls,Good x):∀i:Int,0≤i→i<ls.length→0≤(ends ls i).1∧(ends ls i).1<8∧0≤(ends ls i).2∧(ends ls i).2<8:=by
  intro i h0 h1;obtain⟨k,rfl⟩:=Int.eq_ofNat_of_zero_le h0;have h:=leg_good hg k (Int.ofNat_lt.mp h1);exact⟨h.1.1,h.1.2,h.2.1.1,h.2.1.2⟩
theorem round_ev(ls:L)(hn:ls.length≤12)(hg:∀x∈ls,Good x)(r:List S72×List Int×List Int)(q0:Q):∀(d i:Nat) (q:Q),i+d=ls.length→Grow.Ok (ends ls) ls.length q→q0.length≤q.length →
    (Ev (fun k=>spec_l6Place.l0 k ls (XL ls (sweep (ends ls) d i q)) (plL (sweep (ends ls) d i q)) (trL (sweep (ends ls) d i q)) (decide (q0.length<(sweep (ends ls) d i q).length))) r)→
    Ev (fun k=>spec_l6Place.l1 k ls (XL ls q) (plL q) (trL q) (decide (q0.length<q.length)) (i:Int)) r:=by
  intro d
  induction d with
  | zero=>
    intro i q hi ok hq h;refine Ev.step (fun k=>?_) h;simp only[spec_l6Place.l1];rw[if_neg (fun c=>by have:=Int.ofNat_lt.mp c;omega)];rfl
  | succ d ih=>
    intro i q hi ok hq h;refine one_leg ls hn hg q ok i (by omega) _ (ok.len _ (Good.range hg)) r (fun b' hb'=>?_);have hl:=Grow.step_len (ends ls) q i
    have hb2:b'=decide (q0.length<(Grow.step (ends ls) q i).length):=by
      rw[hb',←Bool.decide_or,decide_eq_decide];omega
    rw[hb2];exact ih (i+1) _ (by omega) (ok.step _ (by omega) (by omega)) (by omega) h
theorem rounds_ev (ls:L) (hn:ls.length≤12) (hg:∀x∈ls,Good x) (R:Q):∀(f:Nat) (q:Q),Grow.Ok (ends ls) ls.length q→8≤f+q.length→grow (ends ls) ls.length f q=R→Ev (fun k=>spec_l6Place.l0 k ls (XL ls q) (plL q) (trL q) true) (XL ls R,plL R,trL R):=by
  intro f
  induction f with
  | zero=>
    intro q ok h8 hR;have:=ok.len _ (Good.range hg);omega
  | succ f ih=>
    intro q ok h8 hR;refine Ev.step (f:=fun k=>spec_l6Place.l1 k ls (XL ls q) (plL q) (trL q) (decide (q.length<q.length)) ((0:Nat):Int)) (fun k=>?_) ?_
    · simp only[spec_l6Place.l0]
      rw[if_pos trivial,decide_eq_false (Nat.lt_irrefl _)];rfl
    · refine round_ev ls hn hg _ q ls.length 0 q (by omega) ok (Nat.le_refl _) ?_
      rw[grow]at hR;have hl:=Grow.sweep_len (ends ls) ls.length 0 q;by_cases c:(sweep (ends ls) ls.length 0 q).length=q.length
      · rw[if_pos c]at hR
        have hs:=(Grow.sweep_same (ends ls) c).1;have e0:sweep (ends ls) ls.length ((0:Nat):Int) q=q:=hs;rw[e0,decide_eq_false (Nat.lt_irrefl _),hR];refine Ev.step (f:=fun _=>some (XL ls R,plL R,trL R)) (fun k=>?_) (Ev.now _);simp only[spec_l6Place.l0];rw[if_neg (by decide)]
      · rw[if_neg c]at hR
        have e1:decide (q.length<(sweep (ends ls) ls.length ((0:Nat):Int) q).length)=true:=decide_eq_true (by
          show q.length<(sweep (ends ls) ls.length 0 q).length
          omega)
        rw[e1];exact ih _ (ok.sweep _ (by omega) (by omega)) (by show 8≤f+(sweep (ends ls) ls.length 0 q).length;omega) hR
theorem place_ev(ls:L)(hn:ls.length≤12)(hg:∀x∈ls,Good x)(R:Q)(hR:grow (ends ls) ls.length 8 []=R):Ev (fun k=>spec_l6Place.f k ls) (XL ls R,plL R,trL R):=by
  refine Ev.congr (f:=fun k=>spec_l6Place.l0 k ls (XL ls []) (plL []) (trL []) true) (fun k=>?_) (rounds_ev ls hn hg R 8 [] (Grow.Ok.nil _ _) (by simp) hR);unfold spec_l6Place.f;rw[if_pos (by decide)];rfl
instance:DecidablePred Good:=fun x=>by unfold Good;infer_instance
theorem within_eq(x a b:Int):impl_within.f x a b=some (decide (a≤x∧x≤b)):=by
  unfold impl_within.f;by_cases h:x≥a
  · rw[if_pos h];congr 1;rw[decide_eq_decide];omega
  · rw[if_neg h,decide_eq_false (by omega)]
theorem IsLeg_eq (x:S82):impl_IsLeg.f x.f0 x.f1 x.f2 x.f3 x.f4=some (decide (Good x)):=by
  unfold impl_IsLeg.f impl_isStation.f impl_isBearing.f;simp only[within_eq,Option.bind_some];by_cases h0:0≤x.f0∧x.f0≤7
  · rw [decide_eq_true h0,if_pos rfl]
    by_cases h1:0≤x.f1∧x.f1≤7
    · rw [decide_eq_true h1,if_pos rfl]
      by_cases h2:x.f0=x.f1
      · rw[if_pos h2,decide_eq_false (fun c=>c.2.2.1 h2)]
      · rw [if_neg h2]
        by_cases h3:1≤x.f2∧x.f2≤500
        · rw[decide_eq_true h3,if_pos rfl]
          by_cases h4:0≤x.f3∧x.f3≤359
          · rw[decide_eq_true h4,if_pos rfl]
            congr 1
            rw[decide_eq_decide];exact⟨fun c=>⟨⟨h0.1,by omega⟩,⟨h1.1,by omega⟩,h2,h3,h4,c⟩,fun c=>c.2.2.2.2.2⟩
          · rw[decide_eq_false h4,if_neg (by decide),decide_eq_false (fun c=>h4 c.2.2.2.2.1)]
        · rw[decide_eq_false h3,if_neg (by decide),decide_eq_false (fun c=>h3 c.2.2.2.1)]
    · rw[decide_eq_false h1,if_neg (by decide),decide_eq_false (fun c=>h1 ⟨c.2.1.1,(by have:=c.2.1.2;omega)⟩)]
  · rw[decide_eq_false h0,if_neg (by decide),decide_eq_false (fun c=>h0 ⟨c.1.1,(by have:=c.1.2;omega)⟩)]
theorem l4Leg_eq(x:S82):spec_l4Leg.f x.f0 x.f1 x.f2 x.f3 x.f4=some (decide (Good x)):=IsLeg_eq x
def legsB(ls:L):Bool:=decide ((∀x∈ls,Good x)∧ls.length≤12)
theorem legsB_all(ls:L):(if allFrom (fun i=>decide (Good (ls.getD i z82))) 0 ls.length=true then some (decide ((ls.length:Int)≤12)) else some false)=some (legsB ls):=by
  rw[allFrom_all ls z82 (fun x=>decide (Good x))];unfold legsB;by_cases h:∀x∈ls,Good x
  · rw[if_pos (by simpa using h)]
    congr 1
    rw[decide_eq_decide];exact⟨fun c=>⟨h,by omega⟩,fun c=>by have:=c.2;omega⟩
  · rw[if_neg (by simpa using h),decide_eq_false (fun c=>h c.1)]
theorem areLegs_ev(ls:L)(hb:ls.length≤140737488351232):Ev (fun k=>impl_areLegs.f k ls) (legsB ls):=by
  obtain⟨K,hK⟩:=all_ev (fun i=>decide (Good (ls.getD i z82))) ls.length hb (fun k i=>impl_areLegs.l0 k ls ls (ls.length:Int) i) (some (decide ((ls.length:Int)≤12))) (by
      intro k i hi;simp only[impl_areLegs.l0];rw[if_pos (by omega),if_pos (by omega),if_pos (by omega),IsLeg_eq,Option.bind_some]
      rfl) (by
      intro k;simp only[impl_areLegs.l0]
      rw[if_neg (by omega)])
  refine⟨K,fun k hk=>?_⟩;have:=hK k hk;rw[legsB_all]at this;exact this
theorem l4Legs_ev(ls:L)(hb:ls.length≤140737488351232):Ev (fun k=>spec_l4Legs.f k ls) (legsB ls):=by
  obtain⟨K,hK⟩:=all_ev (fun i=>decide (Good (ls.getD i z82))) ls.length hb (fun k i=>spec_l4Legs.l0 k ls i) (some (decide ((ls.length:Int)≤12))) (by
      intro k i hi;simp only[spec_l4Legs.l0];rw[if_pos (by omega),if_pos (by omega),l4Leg_eq,Option.bind_some]
      rfl) (by
      intro k;simp only[spec_l4Legs.l0]
      rw[if_neg (by omega)])
  refine⟨K,fun k hk=>?_⟩;have:=hK k hk;rw[legsB_all]at this;exact this
def RR(ls:L):Q:=grow (ends ls) ls.length 8 []
theorem RR_ok{ls:L}(hg:∀x∈ls,Good x):Grow.Ok (ends ls) ls.length (RR ls)∧∀i:Int,0≤i→i<ls.length→((ends ls i).1∈verts 0 (RR ls)↔(ends ls i).2∈verts 0 (RR ls)):=by
  have h:=Grow.grow_end (ends ls) (Good.range hg) 8 [] (Grow.Ok.nil _ _) (by simp);exact⟨h.1,h.2.2⟩
theorem RR_len{ls:L}(hg:∀x∈ls,Good x):(RR ls).length≤7:=(RR_ok hg).1.len _ (Good.range hg)
theorem plL_small{ls:L}(hg:∀x∈ls,Good x):(plL (RR ls)).length≤8:=Nat.le_trans (plL_len _) (Nat.succ_le_succ (RR_len hg))
theorem trL_small{ls:L}(hg:∀x∈ls,Good x):(trL (RR ls)).length≤7:=Nat.le_trans (trL_len _) (RR_len hg)
theorem Pq_eq(q:Q)(a:Nat):Pq q a=decide ((a:Int)∈plL q):=by
  unfold Pq;rw[decide_eq_decide,mem_plL]
theorem Bq_eq(q:Q)(a:Nat):Bq q a=decide ((a:Int)∈trL q):=by
  unfold Bq;rw[decide_eq_decide,mem_trL]
theorem closing_loop(ls:L)(hn:ls.length≤12)(hg:∀x∈ls,Good x)(q:Q)(h1:(plL q).length≤8)(h2:(trL q).length≤7):∀(d i:Nat),i+d=ls.length→Ev (fun k=>spec_l6Closing.l0 k ls (closeTo ls q i) (plL q) (trL q) (i:Int)) (closeTo ls q ls.length):=by
  intro d
  induction d with
  | zero=>
    intro i hi;obtain rfl:i=ls.length:=by omega
    refine Ev.step (f:=fun _=>some (closeTo ls q ls.length)) (fun k=>?_) (Ev.now _);simp only[spec_l6Closing.l0];rw[if_neg (by omega)]
  | succ d ih=>
    intro i hi;have e:wrap64 ((i:Int)+1)=((i+1:Nat):Int):=by rw[w64 (by omega) (by omega)];omega
    have b1:(i:Int)<(ls.length:Int):=by omega
    have b0:(0:Int)≤(i:Int):=by omega
    have hlen:=closeTo_len ls q i;have bl:(closeTo ls q i).length<17592186044416:=by omega
    have hgood:=leg_good hg i (by omega);have hrd:rd_T82 ls (i:Int)=leg ls i:=rfl
    have hc:closeTo ls q (i+1)=if Pq q (leg ls i).f0.toNat=true∧Bq q i=false then closeTo ls q i++[(i:Int)] else closeTo ls q i:=rfl
    have h:=ih (i+1) (by omega);rw[hc]at h;generalize leg ls (i:Int)=x at hgood hrd h;obtain⟨a,ha⟩:=Int.eq_ofNat_of_zero_le hgood.1.1;rw[ha,Int.toNat_natCast,Pq_eq,Bq_eq]at h;refine Ev.step_ge 20 (fun k hk=>?_) h;simp only[spec_l6Closing.l0];rw[if_pos b1,if_pos b0,hrd,ha,has_at _ _ (Nat.le_trans h1 (by decide)) k (Nat.lt_of_le_of_lt h1 (Nat.lt_of_lt_of_le (by decide:8<20) hk)),Option.bind_some];by_cases c1:(a:Int)∈plL q
    · rw[decide_eq_true c1,if_pos rfl,has_at _ _ (Nat.le_trans h2 (by decide)) k (Nat.lt_of_le_of_lt h2 (Nat.lt_of_lt_of_le (by decide:7<20) hk)),Option.bind_some]
      by_cases c2:(i:Int)∈trL q
      · rw[decide_eq_true c2,if_pos rfl,e,if_neg (fun h=>by cases h.2)]
      · rw[decide_eq_false c2,if_neg (by decide),if_pos bl,e,if_pos ⟨rfl,rfl⟩]
    · rw[decide_eq_false c1,if_neg (by decide),e,if_neg (fun h=>by cases h.1)]
def closeL(ls:L):List Int:=closeTo ls (RR ls) ls.length
theorem closing_ev(ls:L)(hn:ls.length≤12)(hg:∀x∈ls,Good x):Ev (fun k=>spec_l6Closing.f k ls) (closeL ls):=by
  refine Ev.congr (f:=fun k=>(spec_l6Place.f k ls).bind fun bt193=>spec_l6Closing.l0 k ls [] bt193.2.1 bt193.2.2 0) (fun k=>rfl) ?_;refine Ev.bind (place_ev ls hn hg (RR ls) rfl) ?_;exact closing_loop ls hn hg (RR ls) (plL_small hg) (trL_small hg) ls.length 0 (by omega)
theorem legsB_iff{ls:L}:legsB ls=true↔(∀x∈ls,Good x)∧ls.length≤12:=by
  unfold legsB;exact decide_eq_true_iff
def countM(ls:L):Int×Bool:=if legsB ls=true then((closeL ls).length,true) else(0,false)
end Net
namespace Net
open Go A Plain
def onM(s:S72)(axis:Int):Int:=if axis=0 then s.f0 else if axis=1 then s.f1 else s.f2
theorem run_idx3(w:World)(v:Array Value)(k:Nat)(i:Int)(hi:i=(k:Int))(h8:k<3)(x:Value)(hx:v[k]?=some x):(Instr.index 129 (.agg v) (.int .i64 i)).run Tryz.prog w= .ok x w:=by
  subst hi;have hn:(0:Int)≤(k:Int)∧(k:Int)<((3:Nat):Int):=by omega
  simp[Instr.index,run_underlying Tryz.underlying129,asIntOf,hn,go_sem];rw[if_pos h8,hx];rfl
theorem onW(s:S72)(axis:Int)(h0:0≤axis)(h2:axis≤2)(w:World):
    Calls Tryz.prog 123 #[.agg #[.int .i64 s.f0,.int .i64 s.f1,.int .i64 s.f2],.int .i64 axis] w fun e w'=>e= .returned (.int .i64 (onM s axis))∧Below w.heap.size w w':=by
  have HB:=ak (Below.refl w.heap.size w);have hc:axis=0∨axis=1∨axis=2:=by omega
  rcases hc with rfl|rfl|rfl
  · go_enter Tryz.func123,Tryz.ntmps123
    go_wp2;rw[run_idx3 _ _ 0 0 rfl (by decide) _ rfl];go_wp2;go_ret;exact⟨rfl,qz46⟩
  · go_enter Tryz.func123,Tryz.ntmps123
    go_wp2;rw[run_idx3 _ _ 1 1 rfl (by decide) _ rfl];go_wp2;go_ret;exact⟨rfl,qz46⟩
  · go_enter Tryz.func123,Tryz.ntmps123
    go_wp2;rw[run_idx3 _ _ 2 2 rfl (by decide) _ rfl];go_wp2;go_ret;exact⟨rfl,qz46⟩
theorem measure_eq(x:S82)(h:Good x)(axis:Int)(h0:0≤axis)(h2:axis≤2):spec_l9Measure.f x.f0 x.f1 x.f2 x.f3 x.f4 axis=some (onM (shift x) axis):=by
  unfold spec_l9Measure.f;rw[shift_eq x h,Option.bind_some,Option.bind_some,if_pos h0,if_pos (by show axis<3;omega)];have hc:axis=0∨axis=1∨axis=2:=by omega
  rcases hc with rfl|rfl|rfl<;>rfl
end Net
namespace Net
open A Plain
def fnd(un:List Int)(s:Int):Int:=if s∈un then(un.idxOf s:Int) else -1
theorem fnd_range(un:List Int)(s:Int): -1≤fnd un s∧fnd un s<(un.length:Int):=by
  unfold fnd;by_cases h:s∈un
  · rw[if_pos h]
    have:=List.idxOf_lt_length_iff.mpr h;omega
  · rw[if_neg h];omega
theorem rd_get(l:List Int)(i:Nat)(h:i<l.length):rd l (i:Int)=l[i]:=by
  unfold rd;rw[Int.toNat_natCast,List.getD_eq_getElem?_getD,List.getElem?_eq_getElem h];rfl
theorem find_loop (un:List Int) (s:Int) (hl:un.length≤1000000):∀(d i k:Nat),i+d=un.length→d<k→s∉un.take i→spec_l9Find.l0 k un s (i:Int)=some (fnd un s):=by
  intro d
  induction d with
  | zero=>
    intro i k hi hk hn;obtain⟨k,rfl⟩:∃m,k=m+1:=⟨k-1,by omega⟩
    rw[List.take_of_length_le (by omega)]at hn;simp only[spec_l9Find.l0];rw[if_neg (by omega)];unfold fnd;rw[if_neg hn]
  | succ d ih=>
    intro i k hi hk hn;obtain⟨k,rfl⟩:∃m,k=m+1:=⟨k-1,by omega⟩
    have hlt:i<un.length:=by omega
    simp only[spec_l9Find.l0];rw[if_pos (by omega),if_pos (by omega),rd_get un i hlt];by_cases c:un[i]=s
    · rw [if_pos c]
      have hm:s∈un:=c▸List.getElem_mem hlt;unfold fnd;rw[if_pos hm]
      congr 1
      have h1:un.idxOf s=i:=by
        have h2:=List.idxOf_lt_length_iff.mpr hm;have h3:un[un.idxOf s]=s:=List.getElem_idxOf h2;rcases Nat.lt_trichotomy (un.idxOf s) i with h|h|h
        · exfalso
          apply hn;rw[List.mem_take_iff_getElem];exact⟨un.idxOf s,by omega,h3⟩
        · exact h
        · exfalso
          have h4:=List.not_of_lt_findIdx (p:=(· ==s)) (xs:=un) (i:=i) (by unfold List.idxOf at h;exact h);simp[c]at h4
      omega
    · rw[if_neg c,w64 (by omega) (by omega)]
      have:=ih (i+1) k (by omega) (by omega) (by
        rw[List.take_succ_eq_append_getElem hlt,List.mem_append,List.mem_singleton];rintro(h|h)
        · exact hn h
        · exact c h.symm)
      rw[Int.natCast_add]at this;exact this
theorem find_ev(un:List Int)(s:Int)(hl:un.length≤1000000):Ev (fun k=>spec_l9Find.f k un s) (fnd un s):=⟨un.length+1,fun k hk=>find_loop un s hl un.length 0 k (by omega) hk (by simp)⟩
def Sq(n:Nat)(rows:List (List Int)):Prop:=rows.length=n∧∀r∈rows,r.length=n
def lapD(a b:Int)(i j:Nat):Int:=(if(i:Int)=a∧(j:Int)=a then 1 else 0)+(if(i:Int)=b∧(j:Int)=b then 1 else 0)-(if(i:Int)=a∧(j:Int)=b then 1 else 0)-(if(i:Int)=b∧(j:Int)=a then 1 else 0)
def rgtD(a b v:Int)(i:Nat):Int:=(if(i:Int)=b then v else 0)-(if(i:Int)=a then v else 0)
def tot(f:Int→Int)(l:List Int):Int:=(l.map f).sum
theorem tot_take(f:Int→Int)(l:List Int)(j:Nat)(h:j<l.length):tot f (l.take (j+1))=tot f (l.take j)+f l[j]:=by
  unfold tot;rw[List.take_succ_eq_append_getElem h,List.map_append,List.sum_append];simp
def meas(ls:L)(ax k:Int):Int:=onM (shift (leg ls k)) ax
def lapT(ls:L)(un used:List Int)(i j:Nat):Int:=tot (fun k=>lapD (fnd un (leg ls k).f0) (fnd un (leg ls k).f1) i j) used
def rgtT(ls:L)(un used:List Int)(ax:Int)(i:Nat):Int:=tot (fun k=>rgtD (fnd un (leg ls k).f0) (fnd un (leg ls k).f1) (meas ls ax k) i) used
def matM(ls:L)(un used:List Int)(ax col:Int):Elim.Mx:=fun i j=>if(j:Int)=col then wrap64 (rgtT ls un used ax i) else wrap64 (lapT ls un used i j)
theorem wrap_add(x d:Int):wrap64 (wrap64 x+d)=wrap64 (x+d):=by unfold wrap64;omega
def ecol(ax col:Int):Int:=if 0≤ax then col else -1
theorem sq_zero(n:Nat):Sq n (List.replicate n (List.replicate n 0)):=⟨List.length_replicate,fun r hr=>by rw[List.eq_of_mem_replicate hr,List.length_replicate]⟩
theorem mx_zero(n i j:Nat):mx (List.replicate n (List.replicate n 0)) i j=0:=by
  unfold mx;rw[List.getD_eq_getElem?_getD,List.getD_eq_getElem?_getD];by_cases c:i<n
  · rw[List.getElem?_replicate_of_lt c,Option.getD_some]
    by_cases d:j<n
    · rw[List.getElem?_replicate_of_lt d];rfl
    · rw[List.getElem?_eq_none (l:=List.replicate n 0) (by rw[List.length_replicate];omega)];rfl
  · rw[List.getElem?_eq_none (l:=List.replicate n (List.replicate n 0)) (by rw[List.length_replicate];omega),Option.getD_none];rfl
end Net
namespace Net
open Go A Plain
open Elim (Mx swp piv pvI)
theorem infoS:(Tryz.prog.info? 46).map (fun i=>(i.zero,i.size,i.bytes))=some (some (.slice none 0 0),1,24):=by kernel_rfl
theorem makeInts(n:Nat)(hn:n≤12)(w:World):(Instr.makeSlice 46 (.int .i64 (n:Int)) (.int .i64 (n:Int))).run Tryz.prog w= .ok (.slice (some ⟨w.heap.size,0,none⟩) n n) (w.alloc (.cells (madeCells #[.int .i64 0] n) 3)):=by
  obtain⟨i0,hi,hzz⟩:=Option.map_eq_some_iff.1 info3;simp only[Prod.mk.injEq]at hzz;obtain⟨hz0,hz1,hz2⟩:=hzz;have h:=run_make (P:=Tryz.prog) w 46 3 i0 (.int .i64 0) Tryz.underlying46 hi hz0 .i64 .i64 (n:Int) (n:Int) (by omega) (Int.le_refl _) (by rw[hz2];omega) (by omega);rw[hz1]at h;simpa[Value.cells]using h
theorem makeRows(n:Nat)(hn:n≤12)(w:World):(Instr.makeSlice 115 (.int .i64 (n:Int)) (.int .i64 (n:Int))).run Tryz.prog w= .ok (.slice (some ⟨w.heap.size,0,none⟩) n n) (w.alloc (.cells (madeCells #[.slice none 0 0] n) 46)):=by
  obtain⟨i0,hi,hzz⟩:=Option.map_eq_some_iff.1 infoS;simp only[Prod.mk.injEq]at hzz;obtain⟨hz0,hz1,hz2⟩:=hzz;have h:=run_make (P:=Tryz.prog) w 115 46 i0 (.slice none 0 0) Tryz.underlying115 hi hz0 .i64 .i64 (n:Int) (n:Int) (by omega) (Int.le_refl _) (by rw[hz2];omega) (by omega);rw[hz1]at h;simpa[Value.cells]using h
theorem indexW (A:Option Addr) (c:Nat) (un:List Int) (s:Int) (w:World) (hu:Kd.C (Kd.int .i64) w A un.length un) (hl:un.length≤8):
    Calls Tryz.prog 140 #[.slice A un.length c,.int .i64 s] w fun e w'=>e= .returned (.int .i64 (fnd un s))∧w'=w:=by
  have HU:=ak hu;obtain⟨r,hr⟩:∃r,r=fnd un s:=⟨_,rfl⟩
  have HF:=ak (hr▸find_loop un s (by omega) un.length 0 (un.length+1) (by omega) (by omega) (by simp));rw[←hr];clear hu hr;go_enter Tryz.func140,Tryz.ntmps140;go_wp2
  go_loopw [8] (fun v8 W=>∃(j:Nat),j≤un.length∧v8= .int .i64 j∧Aside0 (spec_l9Find.l0 (un.length+1-j) un s (j:Int)=some r)∧W=w) (fun v8 _=>un.length-(intOf v8).toNat)
  case atStart=>exact⟨0,Nat.zero_le _,rfl,HF,rfl⟩
  case round=>
    obtain⟨j,hj,rfl,HI,hww⟩:=hrel;subst hww;clear HF;by_cases hlt:j<un.length
    · obtain⟨ad,e1,h1⟩:=Kd.at_int HU.out (j:Int) (by omega) (by omega)
      subst e1;rw[Int.toNat_natCast]at h1;have j0:(0:Int)≤(j:Int):=by omega
      have j1:(j:Int)<(un.length:Int):=by omega
      have h2:=HI.out;rw[show un.length+1-j=(un.length-j)+1 by omega]at h2;simp only[spec_l9Find.l0]at h2;rw[if_pos j1,if_pos j0]at h2;have HI2:=ak h2;clear h2 HI;by_cases hz:rd un (j:Int)=s
      · have HI3:=HI2.out
        rw[if_pos hz]at HI3;have hr:=Option.some.inj HI3;clear HI2 HI3;subst hr;subst hz;have hbb:(rd un (j:Int)==rd un (j:Int))=true:=by simp
        go_wp2;go_ret;exact⟨rfl,rfl⟩
      · have HI3:=ak (show spec_l9Find.l0 (un.length+1-(j+1)) un s ((j+1:Nat):Int)=some r from by
          have h3:=HI2.out;rw[if_neg hz,w64 (by omega) (by omega)]at h3;rw[show un.length+1-(j+1)=un.length-j by omega]
          exact h3)
        have hbb:(s==rd un (j:Int))=false:=by simp;exact fun e=>hz e.symm
        have hbb2:¬s=rd un (j:Int):=fun e=>hz e.symm
        go_wp2;exact⟨⟨j+1,by omega,by go_num,HI3,by trivial⟩,qz41⟩
    · obtain rfl:j=un.length:=by omega
      have h2:=HI.out;rw[show un.length+1-un.length=0+1 by omega]at h2;simp only[spec_l9Find.l0]at h2;rw[if_neg (by omega)]at h2;have hr:=Option.some.inj h2;clear h2 HI;subst hr;go_wp2;go_ret;exact⟨rfl,rfl⟩
theorem indexQ(A:Option Addr)(c:Nat)(un:List Int)(s:Int)(w:World)(hu:Kd.C (Kd.int .i64) w A un.length un)(hl:un.length≤8)(m:Nat):
    Calls Tryz.prog 140 #[.slice A un.length c,.int .i64 s] (w.drewN m) fun e w''=>e= .returned (.int .i64 (fnd un s))∧∃q,w''=w.drewN q:=
  Calls.quiet_of_same (indexW A c un s _ (Kd.C_drewN hu m) hl)
def Hold(n:Nat)(col:Int)(M:Mx)(T:Nat→Nat→Int)(U:Nat→Int):Prop:=∀p q:Nat,p<n→q<n→M p q=if(q:Int)=col then wrap64 (U p) else wrap64 (T p q)
theorem Hold.congr{n:Nat}{col:Int}{M:Mx}{T T':Nat→Nat→Int}{U U':Nat→Int}(h:Hold n col M T U)(hT:∀p q,p<n→q<n→T' p q=T p q)(hU:0≤col→∀p,p<n→U' p=U p):Hold n col M T' U':=fun p q hp hq=>by
  rw[hT p q hp hq,h p q hp hq];by_cases c:(q:Int)=col
  · rw[if_pos c,if_pos c,hU (by omega) p hp]
  · rw[if_neg c,if_neg c]
theorem Hold.diag{n:Nat}{col:Int}{M:Mx}{T:Nat→Nat→Int}{U:Nat→Int}(h:Hold n col M T U){i:Nat}(hi:i<n)(hc:(i:Int)≠col):
    Hold n col (fun a b=>if a=i∧b=i then wrap64 (M i i+1) else M a b) (fun p q=>T p q+(if p=i∧q=i then 1 else 0)) U:=fun p q hp hq=>by
  by_cases c:p=i∧q=i
  · rw[c.1,c.2]
    show(if i=i∧i=i then wrap64 (M i i+1) else M i i)=if(i:Int)=col then wrap64 (U i) else wrap64 (T i i+if i=i∧i=i then 1 else 0)
    rw[if_pos (show i=i∧i=i from⟨rfl,rfl⟩),if_neg hc,h i i hi hi,if_neg hc,wrap_add,if_pos (show i=i∧i=i from⟨rfl,rfl⟩)]
  · simp only[if_neg c,Int.add_zero]
    exact h p q hp hq
theorem Hold.diag0{n:Nat}{col:Int}{M:Mx}{T:Nat→Nat→Int}{U:Nat→Int}(h:Hold n col M T U){i:Nat}(hc:(i:Int)=col):
    Hold n col M (fun p q=>T p q+(if p=i∧q=i then 1 else 0)) U:=fun p q hp hq=>by
  rw[h p q hp hq];by_cases c:(q:Int)=col
  · rw[if_pos c,if_pos c]
  · rw[if_neg c,if_neg c]
    show wrap64 (T p q)=wrap64 (T p q+if p=i∧q=i then 1 else 0);rw[if_neg (fun e=>c (by rw[e.2];exact hc)),Int.add_zero]
theorem Hold.side{n:Nat}{col:Int}{M:Mx}{T:Nat→Nat→Int}{U:Nat→Int}(h:Hold n col M T U){i j:Nat}(hi:i<n)(hj:j<n)(hc:(j:Int)≠col):
    Hold n col (fun a b=>if a=i∧b=j then wrap64 (M i j-1) else M a b) (fun p q=>T p q-(if p=i∧(q:Int)=(j:Int)then 1 else 0)) U:=fun p q hp hq=>by
  by_cases c:p=i∧q=j
  · obtain⟨rfl,rfl⟩:=c
    simp only[and_self,if_true];rw[if_neg hc,h p q hp hq,if_neg hc];exact wrap_add (T p q) (-1)
  · simp only[if_neg c]
    rw[h p q hp hq];by_cases d:(q:Int)=col
    · rw[if_pos d,if_pos d]
    · rw[if_neg d,if_neg d,if_neg (show¬(p=i∧(q:Int)=(j:Int))from fun e=>c ⟨e.1,by omega⟩),Int.sub_zero]
theorem Hold.side0{n:Nat}{col:Int}{M:Mx}{T:Nat→Nat→Int}{U:Nat→Int}(h:Hold n col M T U){i:Nat}{j:Int}(hc:j<0∨j=col):
    Hold n col M (fun p q=>T p q-(if p=i∧(q:Int)=j then 1 else 0)) U:=fun p q hp hq=>by
  rw[h p q hp hq];by_cases c:(q:Int)=col
  · rw[if_pos c,if_pos c]
  · rw[if_neg c,if_neg c]
    show wrap64 (T p q)=wrap64 (T p q-if p=i∧(q:Int)=j then 1 else 0);rw[if_neg (fun e=>by omega),Int.sub_zero]
theorem Hold.right{n:Nat}{c:Nat}{M:Mx}{T:Nat→Nat→Int}{U:Nat→Int}(h:Hold n (c:Int) M T U){i:Nat}(hi:i<n)(hc:c<n)(v:Int):
    Hold n (c:Int) (fun a b=>if a=i∧b=c then wrap64 (M i c+v) else M a b) T (fun p=>U p+(if p=i then v else 0)):=fun p q hp hq=>by
  by_cases d:p=i∧q=c
  · obtain⟨rfl,rfl⟩:=d
    simp only[and_self,if_true];rw[h p q hp hq,if_pos rfl,wrap_add]
  · simp only[if_neg d]
    rw[h p q hp hq];by_cases e:(q:Int)=(c:Int)
    · rw[if_pos e,if_pos e,if_neg (fun f=>d ⟨f,by omega⟩),Int.add_zero]
    · rw[if_neg e,if_neg e]
def endD(i j:Int)(p q:Nat):Int:=(if(p:Int)=i∧(q:Int)=i then 1 else 0)-(if(p:Int)=i∧(q:Int)=j then 1 else 0)
def endR(i s:Int)(p:Nat):Int:=if(p:Int)=i then s else 0
theorem ends_lap(a b:Int)(p q:Nat):endD a b p q+endD b a p q=lapD a b p q:=by unfold endD lapD;omega
theorem ends_rgt(a b v:Int)(p:Nat):endR a (-v) p+endR b v p=rgtD a b v p:=by unfold endR rgtD;split<;>split<;>omega
end Net
end Go.Proofs.YtmgkbhhnchnkcaaGreatDoor
