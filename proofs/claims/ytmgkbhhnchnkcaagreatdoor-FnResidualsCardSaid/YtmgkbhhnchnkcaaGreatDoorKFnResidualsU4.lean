/- The reference's number of trees and adjusted coordinates, walked; in the form of the printed functions. -/
import Derived.BigRegion
import Derived.Test.YtmgkbhhnchnkcaaGreatDoorKFnResidualsU3
set_option maxHeartbeats 8000000
set_option maxRecDepth 100000
set_option linter.unusedSimpArgs false
set_option linter.unusedVariables false
namespace Go.Proofs.YtmgkbhhnchnkcaaGreatDoor
open Go.RowKit YtmgkbhhnchnkcaaGreatDoorW.PrintWords YtmgkbhhnchnkcaaGreatDoorW.PrintLast YtmgkbhhnchnkcaaGreatDoorW.PrintMore
namespace Net
open Go A Plain
open Tree (verts legs W)
open Grow (Q)
def plcL(ls:L)(R:Q)(n:Nat):List Int:=selTo (fun k=>Pq R (leg ls k).f0.toNat) n
theorem placedLegsW {T g:Nat} {B:Nat→Bool} {cl:Value} {R:Q} {X:Nat→S72} (A:Option Addr) (c:Nat) (ls:L) (w:World) (hS:St ls.length T g (Pq R) X B cl w) (hgw:g<w.heap.size) (hTw:T<w.heap.size) (hr0:Kd.C k82 w A ls.length ls) (hc:ls.length≤c) (hn:ls.length≤12) (hg:∀x∈ls,Good x):
    Calls Tryz.prog 67 #[.pointer (some ⟨g,0,none⟩),.slice A ls.length c] w (SelPost (plcL ls R ls.length) w):=by
  have HB:=ak (Below.refl w.heap.size w);have HR:=ak hr0;have HG:=ak hg;have HS0:=ak hS;have HT:Aside0 (∀k,(plcL ls R k).length≤k):=⟨selTo_len _⟩;clear hr0 hg hS;go_enter Tryz.func67,Tryz.ntmps67;go_wp2
  go_loopw [5,10] (fun v5 v10 w'=>∃(k:Nat),k≤ls.length∧v10= .int .i64 k∧Aside0 (Kd.R (Kd.int .i64) 3 w' w.heap.size (fun b=>w.heap.size≤b) v5 (plcL ls R k))∧Aside0 (St ls.length T g (Pq R) X B cl w')∧Aside0 (Below w.heap.size w w')) (fun _ v10 _=>ls.length-(intOf v10).toNat)
  case atStart=>exact⟨0,by omega,rfl,⟨Kd.R_nil _ _ _ _ _⟩,HS0,HB⟩
  case round=>
    obtain⟨k,hk,rfl,HV,HS,HB2⟩:=hrel;clear HB HS0;have HB:=HB2;clear HB2;obtain⟨vA,vC,ev⟩:=Kd.R_slice HV.out;subst ev;have HTL:=ak (HT.out k);by_cases hlt:k<ls.length
    · obtain ⟨_, e2, h0,h1,h2,h3,h4⟩:=at_T82 HR.out (k:Int) (by omega) (by omega)
      cases e2;have HX:Aside0 (Good (leg ls (k:Int))):=⟨HG.out _ (leg_mem hlt)⟩;have ek:rd_T82 ls (k:Int)=leg ls k:=rfl;rw[Int.toNat_natCast]at h0 h1 h2 h3 h4;rw[ek]at h0 h1 h2 h3 h4;have HC:=ak (show plcL ls R (k+1)=if Pq R (leg ls k).f0.toNat=true then plcL ls R k++[(k:Int)] else plcL ls R k from rfl);generalize leg ls (k:Int)=x at *;obtain⟨a,ha⟩:=Int.eq_ofNat_of_zero_le HX.out.1.1;have ha8:(a:Int)<8:=by have:=HX.out.1.2;omega
      rw[ha]at h0;rw[ha,Int.toNat_natCast]at HC;replace h0:=Sine.keepc h0 HB.out;replace h1:=Sine.keepc h1 HB.out;replace h2:=Sine.keepc h2 HB.out;replace h3:=Sine.keepc h3 HB.out;replace h4:=Sine.keepc h4 HB.out;go_wp2;have B1:=below_alloc (Below.refl wr.heap.size wr) (Obj.cells #[Value.int IntKind.i64 ↑a,Value.int IntKind.i64 x.f1,Value.int IntKind.i64 x.f2,Value.int IntKind.i64 x.f3,Value.int IntKind.i64 x.f4] 82);replace HB:=ak (below_step HB.out B1);replace HS:=ak (HS.out.keep B1);replace HV:=ak (Kd.R_alloc HV.out (Obj.cells #[Value.int IntKind.i64 ↑a,Value.int IntKind.i64 x.f1,Value.int IntKind.i64 x.f2,Value.int IntKind.i64 x.f3,Value.int IntKind.i64 x.f4] 82));clear B1 h0 h1 h2 h3 h4;have h0:(wr.alloc (Obj.cells #[Value.int IntKind.i64 ↑a,Value.int IntKind.i64 x.f1,Value.int IntKind.i64 x.f2,Value.int IntKind.i64 x.f3,Value.int IntKind.i64 x.f4] 82)).cell? ⟨wr.heap.size,0,none⟩=some (.int .i64 (a:Int)):=by go_simp
      generalize wr.alloc (Obj.cells #[Value.int IntKind.i64 ↑a,Value.int IntKind.i64 x.f1,Value.int IntKind.i64 x.f2,Value.int IntKind.i64 x.f3,Value.int IntKind.i64 x.f4] 82)=W1 at *;generalize wr.heap.size=X at *;have pa:=HS.out.pb a (by omega);have k0:(0:Int)≤(k:Int):=by omega
      have k1:(k:Int)<(ls.length:Int):=by omega
      have hTs:=HS.out.ge;have hgs:g<W1.heap.size:=World.block_lt_of_cell? _ _ HS.out.tc;by_cases hpa:Pq R a=true
      · rw[hpa]at pa
        rw[if_pos hpa]at HC
        go_quiet (fail)
        go_wp2_with ((with_reducible refine gate_builtin (b:= .append) (xs:= #[.tmp 22,.tmp 24]) rfl ?_);at_builtin;refine Kd.R_append (Kd.int .i64) (w0:=w) w.heap.size rfl (.tmp 22) (.tmp 24) 46 3 (.int .i64 0) 8 rfl Tryz.underlying46 info3 rfl (by decide) (by omega) (.slice vA (plcL ls R k).length vC) (plcL ls R k) (k:Int) [.int .i64 (k:Int)] (fun b=>w.heap.size≤b) (fun _=>False) rfl rfl ?aP (fun _ hk=>hk.elim) ?aF ?aO ?aB ?aS ?aL ?_;(case aP=>exact rfl);(case aF=>exact(by intro b hb;have:=below_size HB.out;simp only[World.heap_drewN]at hb;omega));(case aO=>exact Kd.R_drewN HV.out _);(case aB=>exact pw_below_drewN HB.out _);(case aS=>exact(by simp only[World.heap_drewN];exact below_size HB.out));(case aL=>have:=HTL.out;omega)
                     intro v_ w_ ho hb hg hat;have HP1:=ak ho;have HP2:=ak hb
                     have HS5:=ak ((HS.out.keep (W:=W1.drewN nq) (pw_below_drewN (Below.refl _ _) _)).blocks (W:=w_) (hg.block _ qz80 (fun e=>by have:=HV.out.1 _ e.symm;omega)) (hg.block _ qz80 (fun e=>by have:=HV.out.1 _ e.symm;omega)) hg.size))
        exact⟨⟨k+1,by omega,by go_num,(by rw[HC.out];exact HP1),HS5,HP2⟩,qz41⟩
      · have hpa':Pq R a=false:=by simpa using hpa
        rw[hpa']at pa;rw[if_neg hpa]at HC
        go_quiet (fail)
        go_wp2;exact⟨⟨k+1,by omega,by go_num,⟨(by rw[HC.out];exact Kd.R_drewN HV.out _)⟩,⟨HS.out.keep (pw_below_drewN (Below.refl _ _) _)⟩,⟨pw_below_drewN HB.out _⟩⟩,qz41⟩
    · obtain rfl:k=ls.length:=by omega
      go_wp2;exact bodyPost_ret (v:= .slice vA (plcL ls R ls.length).length vC) (by simp[results,Tryz.results67,go_sem]) rfl ⟨_,rfl,HV.out,HB.out⟩
end Net
namespace Net
open A Plain
theorem l9legs_loop (ls:L) (hn:ls.length≤12) (hg:∀x∈ls,Good x) (q:Grow.Q) (h1:(plL q).length≤8):∀(d i:Nat),i+d=ls.length→Ev (fun k=>spec_l9Legs.l0 k ls (plL q) (plcL ls q i) (i:Int)) (plcL ls q ls.length):=by
  intro d
  induction d with
  | zero=>
    intro i hi;obtain rfl:i=ls.length:=by omega
    refine Ev.step (f:=fun _=>some (plcL ls q ls.length)) (fun k=>?_) (Ev.now _);simp only[spec_l9Legs.l0];rw[if_neg (by omega)]
  | succ d ih=>
    intro i hi;have h:=ih (i+1) (by omega);have hlen:=selTo_len (fun k=>Pq q (leg ls k).f0.toNat) i;have hgood:=leg_good hg i (by omega)
    have hc:plcL ls q (i+1)=if decide ((leg ls i).f0∈plL q)=true then plcL ls q i++[(i:Int)] else plcL ls q i:=by
      show(if Pq q (leg ls i).f0.toNat=true then _ else _)=_;rw[Pq_eq,Int.toNat_of_nonneg hgood.1.1];rfl
    rw[hc]at h;refine Ev.step (f:=fun k=>(spec_l1Has.f k (plL q) (leg ls i).f0).bind fun t440=>(if t440=true then(if(plcL ls q i).length<17592186044416 then(spec_l9Legs.l0 k ls (plL q) (plcL ls q i++[(i:Int)]) ((i+1:Nat):Int)) else(none)) else(spec_l9Legs.l0 k ls (plL q) (plcL ls q i) ((i+1:Nat):Int)))) (fun k=>?_) ?_
    · simp only[spec_l9Legs.l0]
      rw[if_pos (by omega),if_pos (by omega),w64 (by omega) (by omega)];rfl
    · refine Ev.bind (has_ev _ _ (by omega)) ?_
      by_cases c:(leg ls i).f0∈plL q
      · rw[if_pos (decide_eq_true c)]at h
        exact Ev.pos (decide_eq_true c) (Ev.pos (show(plcL ls q i).length<17592186044416 from by unfold plcL;omega) h)
      · rw[if_neg qz88]at h
        exact Ev.neg qz88 h
theorem l9Legs_ev{ls:L}(hn:ls.length≤12)(hg:∀x∈ls,Good x):Ev (fun k=>spec_l9Legs.f k ls) (plcL ls (RR ls) ls.length):=by
  refine Ev.bind (place_ev ls hn hg (RR ls) rfl) ?_;exact l9legs_loop ls hn hg (RR ls) (plL_small hg) ls.length 0 (by omega)
end Net
namespace Net
open Go A Plain
open Elim (Mx swp piv pvI)
structure Adj(W:World)(ba:Nat)(lA uA pA:Option Addr)(lc uc pc:Nat)(ls:L)(used un:List Int):Prop where
  c1:W.cell? ⟨ba,1,none⟩=some (.slice lA ls.length lc)
  c2:W.cell? ⟨ba,2,none⟩=some (.slice uA used.length uc)
  c3:W.cell? ⟨ba,3,none⟩=some (.slice pA un.length pc)
  l:Kd.C k82 W lA ls.length ls
  u:Kd.C (Kd.int .i64) W uA used.length used
  p:Kd.C (Kd.int .i64) W pA un.length un
  pl:un.length≤pc
theorem Adj.keep{W W':World}{ba:Nat}{lA uA pA:Option Addr}{lc uc pc:Nat}{ls:L}{used un:List Int}(h:Adj W ba lA uA pA lc uc pc ls used un)(hb:Below W.heap.size W W'):Adj W' ba lA uA pA lc uc pc ls used un:=
  ⟨Sine.keepc h.c1 hb,Sine.keepc h.c2 hb,Sine.keepc h.c3 hb,Kd.C_below h.l hb,Kd.C_below h.u hb,Kd.C_below h.p hb,h.pl⟩
structure Half(W:World)(bm n:Nat)(R:Nat→Nat)(k lo:Nat):Prop where
  pc:∀i:Nat,i<k→W.cell? ⟨bm,i,none⟩=some (.slice (some ⟨R i,0,none⟩) n n)
  pz:∀i:Nat,k≤i→i<n→W.cell? ⟨bm,i,none⟩=some (.slice none 0 0)
  mc:∀i j:Nat,i<k→j<n→W.cell? ⟨R i,j,none⟩=some (.int .i64 0)
  fp:∀j:Nat,W.frozen? ⟨bm,j,none⟩=false
  fm:∀i j:Nat,i<k→W.frozen? ⟨R i,j,none⟩=false
  inj:∀i j:Nat,i<k→j<k→R i=R j→i=j
  ne:∀i:Nat,i<k→R i≠bm
  lb:lo≤bm
  lr:∀i:Nat,i<k→lo≤R i
  bs:bm<W.heap.size
  rs:∀i:Nat,i<k→R i<W.heap.size
theorem Half.start(w:World)(n:Nat):Half (w.alloc (Obj.cells (madeCells #[.slice none 0 0] n) 46)) w.heap.size n (fun _=>0) 0 w.heap.size where
  pc:=fun i hi=>by omega
  pz:=fun i _ hi=>by
    go_simp;simp[madeCells,hi,Nat.mod_one]
  mc:=fun i j hi=>by omega
  fp:=fun j=>by go_simp
  fm:=fun i j hi=>by omega
  inj:=fun i j hi=>by omega
  ne:=fun i hi=>by omega
  lb:=Nat.le_refl _
  lr:=fun i hi=>by omega
  bs:=by simp
  rs:=fun i hi=>by omega
theorem Half.next {w:World} {bm n k lo:Nat} {R:Nat→Nat} (h:Half w bm n R k lo) (hk:k<n) (hlo:lo≤w.heap.size):
    Half ((w.alloc (Obj.cells (madeCells #[.int .i64 0] n) 3)).setCell ⟨bm,k,none⟩ (.slice (some ⟨w.heap.size,0,none⟩) n n)) bm n (fun i=>if i=k then w.heap.size else R i) (k+1) lo:=by
  have hb:=below_alloc (Below.refl w.heap.size w) (Obj.cells (madeCells #[.int .i64 0] n) 3);have hne:bm≠w.heap.size:=Nat.ne_of_lt h.bs;have hsz:(w.alloc (Obj.cells (madeCells #[.int .i64 0] n) 3)).heap.size=w.heap.size+1:=by simp
  have hf0:∀j,(w.alloc (Obj.cells (madeCells #[.int .i64 0] n) 3)).frozen? ⟨w.heap.size,j,none⟩=false:=fun j=>by go_simp
  have hc0:∀j:Nat,j<n→(w.alloc (Obj.cells (madeCells #[.int .i64 0] n) 3)).cell? ⟨w.heap.size,j,none⟩=some (.int .i64 0):=fun j hj=>by
    go_simp;simp[madeCells,hj,Nat.mod_one]
  refine⟨fun i hi=>?_,fun i hi hin=>?_,fun i j hi hj=>?_,fun j=>(frz _ _ _).trans ((hb.frozen (p:=⟨bm,j,none⟩) h.bs).trans (h.fp j)),fun i j hi=>?_,fun i j hi hj e=>?_,fun i hi=>?_,h.lb,fun i hi=>?_,?_,fun i hi=>?_⟩
  · by_cases c:i=k
    · subst c
      rw[if_pos rfl];exact same (Sine.keepc (h.pz i (Nat.le_refl _) hk) hb)
    · rw[if_neg c]
      exact far (Sine.keepc (h.pc i (by omega)) hb) (offne (fun e=>c e.symm))
  · exact far (Sine.keepc (h.pz i (by omega) hin) hb) (offne (by omega))
  · by_cases c:i=k
    · rw[if_pos c]
      exact far (hc0 j hj) (blkne hne)
    · rw[if_neg c]
      exact far (Sine.keepc (h.mc i j (by omega) hj) hb) (blkne (fun e=>h.ne i (by omega) e.symm))
  · refine(frz _ _ _).trans ?_
    by_cases c:i=k
    · rw[if_pos c];exact hf0 j
    · rw[if_neg c];exact(hb.frozen (p:=⟨R i,j,none⟩) (h.rs i (by omega))).trans (h.fm i j (by omega))
  · by_cases c:i=k
    · by_cases d:j=k
      · omega
      · rw[if_pos c,if_neg d]at e
        have:=h.rs j (by omega);omega
    · by_cases d:j=k
      · rw[if_neg c,if_pos d]at e
        have:=h.rs i (by omega);omega
      · rw[if_neg c,if_neg d]at e
        exact h.inj i j (by omega) (by omega) e
  · by_cases c:i=k
    · rw[if_pos c];exact fun e=>hne e.symm
    · rw[if_neg c];exact h.ne i (by omega)
  · by_cases c:i=k
    · rw[if_pos c];exact hlo
    · rw[if_neg c];exact h.lr i (by omega)
  · have:=h.bs
    simp;omega
  · have hs:((w.alloc (Obj.cells (madeCells #[.int .i64 0] n) 3)).setCell ⟨bm,k,none⟩ (.slice (some ⟨w.heap.size,0,none⟩) n n)).heap.size=w.heap.size+1:=by simp
    rw[hs];by_cases c:i=k
    · rw[if_pos c];omega
    · rw[if_neg c];have:=h.rs i (by omega);omega
theorem Half.whole{w:World}{bm n lo:Nat}{R:Nat→Nat}(h:Half w bm n R n lo):MatAt w bm n R (fun _=>n) (fun _ _=>0) lo:=
  ⟨h.pc,h.mc,fun j _=>h.fp j,fun i j hi _=>h.fm i j hi,h.inj,h.ne,h.lb,h.lr⟩
def eI(a b:Int)(t:Nat):Int:=if t=0 then a else b
def eS(t:Nat):Int:=if t=0 then -1 else 1
structure Cel(W:World)(X Q:Nat)(x:S82)(a b:Int):Prop where
  x0:W.cell? ⟨X,0,none⟩=some (.int .i64 x.f0)
  x1:W.cell? ⟨X,1,none⟩=some (.int .i64 x.f1)
  x2:W.cell? ⟨X,2,none⟩=some (.int .i64 x.f2)
  x3:W.cell? ⟨X,3,none⟩=some (.int .i64 x.f3)
  x4:W.cell? ⟨X,4,none⟩=some (.int .i64 x.f4)
  q0:∀t:Nat,t<2→W.cell? ⟨Q,t*3,none⟩=some (.int .i64 (eI a b t))
  q1:∀t:Nat,t<2→W.cell? ⟨Q,t*3+1,none⟩=some (.int .i64 (eI b a t))
  q2:∀t:Nat,t<2→W.cell? ⟨Q,t*3+2,none⟩=some (.int .i64 (eS t))
theorem Cel.keep{W W':World}{X Q:Nat}{x:S82}{a b:Int}(h:Cel W X Q x a b)(hb:Below W.heap.size W W'):Cel W' X Q x a b:=
  ⟨Sine.keepc h.x0 hb,Sine.keepc h.x1 hb,Sine.keepc h.x2 hb,Sine.keepc h.x3 hb,Sine.keepc h.x4 hb,fun t ht=>Sine.keepc (h.q0 t ht) hb,fun t ht=>Sine.keepc (h.q1 t ht) hb,fun t ht=>Sine.keepc (h.q2 t ht) hb⟩
theorem ends_cells(W:World)(a b:Int)(t:Nat)(ht:t<2):
    (W.alloc (Obj.cells #[Value.int IntKind.i64 a,Value.int IntKind.i64 b,Value.int IntKind.i64 (-1),Value.int IntKind.i64 b,Value.int IntKind.i64 a,Value.int IntKind.i64 1] 129)).cell? ⟨W.heap.size,t*3,none⟩=some (.int .i64 (eI a b t))∧
    (W.alloc (Obj.cells #[Value.int IntKind.i64 a,Value.int IntKind.i64 b,Value.int IntKind.i64 (-1),Value.int IntKind.i64 b,Value.int IntKind.i64 a,Value.int IntKind.i64 1] 129)).cell? ⟨W.heap.size,t*3+1,none⟩=some (.int .i64 (eI b a t))∧
    (W.alloc (Obj.cells #[Value.int IntKind.i64 a,Value.int IntKind.i64 b,Value.int IntKind.i64 (-1),Value.int IntKind.i64 b,Value.int IntKind.i64 a,Value.int IntKind.i64 1] 129)).cell? ⟨W.heap.size,t*3+2,none⟩=some (.int .i64 (eS t)):=by
  have ht2:t=0∨t=1:=by omega
  rcases ht2 with rfl|rfl
  · show _=some (Value.int .i64 a)∧_=some (Value.int .i64 b)∧_=some (Value.int .i64 (-1))
    refine⟨?_,?_,?_⟩<;>go_simp
  · show _=some (Value.int .i64 b)∧_=some (Value.int .i64 a)∧_=some (Value.int .i64 1)
    refine⟨?_,?_,?_⟩<;>go_simp
theorem Cel.far{W:World}{X Q:Nat}{x:S82}{a b:Int}(h:Cel W X Q x a b){r i:Nat}(hX:r≠X)(hQ:r≠Q)(v:Value):Cel (W.setCell ⟨r,i,none⟩ v) X Q x a b:=
  ⟨Net.far h.x0 (blkne hX),Net.far h.x1 (blkne hX),Net.far h.x2 (blkne hX),Net.far h.x3 (blkne hX),Net.far h.x4 (blkne hX),fun t ht=>Net.far (h.q0 t ht) (blkne hQ),fun t ht=>Net.far (h.q1 t ht) (blkne hQ),fun t ht=>Net.far (h.q2 t ht) (blkne hQ)⟩
structure End3(W:World)(E:Nat)(i j s:Int):Prop where
  e0:W.cell? ⟨E,0,none⟩=some (.int .i64 i)
  e1:W.cell? ⟨E,1,none⟩=some (.int .i64 j)
  e2:W.cell? ⟨E,2,none⟩=some (.int .i64 s)
theorem End3.keep{W W':World}{E:Nat}{i j s:Int}(h:End3 W E i j s)(hb:Below W.heap.size W W'):End3 W' E i j s:=⟨Sine.keepc h.e0 hb,Sine.keepc h.e1 hb,Sine.keepc h.e2 hb⟩
theorem End3.far{W:World}{E:Nat}{i j s:Int}(h:End3 W E i j s){r k:Nat}(hE:r≠E)(v:Value):End3 (W.setCell ⟨r,k,none⟩ v) E i j s:=⟨Net.far h.e0 (blkne hE),Net.far h.e1 (blkne hE),Net.far h.e2 (blkne hE)⟩
theorem endD_none{i j:Int}(h:i<0)(p q:Nat):endD i j p q=0:=by unfold endD;rw[if_neg (fun e=>by omega),if_neg (fun e=>by omega)];rfl
theorem endR_none{i s:Int}(h:i<0)(p:Nat):endR i s p=0:=by unfold endR;rw[if_neg (fun e=>by omega)]
def TT(T:Nat→Nat→Int)(a b:Int):Nat→Nat→Nat→Int
  |0=>T
  |t+1=>fun p q=>TT T a b t p q+endD (eI a b t) (eI b a t) p q
def UU(U:Nat→Int)(a b v:Int):Nat→Nat→Int
  |0=>U
  |t+1=>fun p=>UU U a b v t p+endR (eI a b t) (eS t*v) p
theorem TT_two(T:Nat→Nat→Int)(a b:Int)(p q:Nat):TT T a b 2 p q=T p q+lapD a b p q:=by
  rw[←ends_lap];have e:TT T a b 2 p q=T p q+endD a b p q+endD b a p q:=rfl;rw[e];omega
theorem UU_two(U:Nat→Int)(a b v:Int)(p:Nat):UU U a b v 2 p=U p+rgtD a b v p:=by
  rw[←ends_rgt];have e:UU U a b v 2 p=U p+endR a (-1*v) p+endR b (1*v) p:=rfl;rw[e,Int.one_mul,show(-1:Int)*v= - v by omega];omega
theorem matrixW (ba : Nat) (lA uA pA:Option Addr) (lc uc pc:Nat) (ls:L) (used un:List Int) (col ax:Int) (w:World) (hL:Sine.Laid w) (hA:Adj w ba lA uA pA lc uc pc ls used un) (hg:∀x∈ls,Good x) (hn8:un.length≤8) (hu:used.length≤100) (hi:∀i∈used,0≤i∧i<(ls.length:Int)) (hc:col= -1∨(0≤col∧col<(un.length:Int))) (h0:0≤ax) (h2:ax≤2):
    Calls Tryz.prog 117 #[.pointer (some ⟨ba,0,none⟩),.int .i64 col,.int .i64 ax] w fun e w'=>∃bm R C,e= .returned (.slice (some ⟨bm,0,none⟩) un.length un.length)∧MatAt w' bm un.length R C (matM ls un used ax col) w.heap.size∧Below w.heap.size w w':=by
  have HA:=ak hA;have HL:=ak hL;have HB:=ak (Below.refl w.heap.size w);have HN:=ak hc;have HI:=ak hi;have HG:=ak hg;have c3:=hA.c3;have hmk:=makeRows un.length (by omega) w;clear hA hL hc hi hg;go_enter Tryz.func117,Tryz.ntmps117;go_wp2;have HH:=ak (Half.start w un.length);have HB1:Aside0 (Below w.heap.size w (w.alloc (Obj.cells (madeCells #[.slice none 0 0] un.length) 46))):=⟨below_alloc (Below.refl _ _) _⟩;clear c3 hmk HB
  go_loopw [26] (fun v26 W=>∃(k:Nat) (R:Nat→Nat),k≤un.length∧v26= .int .i64 k∧Aside0 (Half W w.heap.size un.length R k w.heap.size)∧Aside0 (Below w.heap.size w W)) (fun v26 _=>un.length-(intOf v26).toNat)
  case atStart=>exact⟨0,fun _=>0,Nat.zero_le _,rfl,HH,HB1⟩
  case round=>
    obtain⟨k,R,hk,rfl,HH2,HB2⟩:=hrel;clear HH HB1;have HH:=HH2;have HB:=HB2;clear HH2 HB2;by_cases hlt:k<un.length
    · have c3:=(HA.out.keep HB.out).c3
      have hmk:=makeInts un.length (by omega) wr;have k0:(0:Int)≤(k:Int):=by omega
      have k1:(k:Int)<(un.length:Int):=by omega
      have hsz:=below_size HB.out;have hba:=below_alloc (Below.refl wr.heap.size wr) (Obj.cells (madeCells #[.int .i64 0] un.length) 3);have cz:=Sine.keepc (HH.out.pz k (Nat.le_refl _) hlt) hba;have fz:(wr.alloc (Obj.cells (madeCells #[.int .i64 0] un.length) 3)).frozen? ⟨w.heap.size,k,none⟩=false:=(hba.frozen (p:=⟨w.heap.size,k,none⟩) HH.out.bs).trans (HH.out.fp k);have HH2:=ak (HH.out.next hlt hsz);have HB2:=ak ((below_step HB.out hba).setCell (show w.heap.size≤(⟨w.heap.size,k,none⟩:Addr).block from Nat.le_refl _) (.slice (some ⟨wr.heap.size,0,none⟩) un.length un.length));clear hba;go_wp2;exact⟨⟨k+1,_,by omega,by go_num,HH2,HB2⟩,qz41⟩
    · obtain rfl:k=un.length:=by omega
      have c2:=(HA.out.keep HB.out).c2;have HM:=ak HH.out.whole;clear HH;go_wp2
      go_loopw [44] (fun v44 W=>∃(j:Nat) (M:Mx),j≤used.length∧v44= .int .i64 j∧Aside0 (MatAt W w.heap.size un.length R (fun _=>un.length) M w.heap.size)∧Aside0 (Hold un.length col M (lapT ls un (used.take j)) (rgtT ls un (used.take j) ax))∧Aside0 (Below w.heap.size w W)) (fun v44 _=>used.length-(intOf v44).toNat)
      case atStart=>exact⟨0,_,Nat.zero_le _,rfl,HM,⟨fun p q _ _=>by rw[List.take_zero];show(0:Int)=if(q:Int)=col then wrap64 0 else wrap64 0;rw[w64 (by omega) (by omega)];split<;>rfl⟩,HB⟩
      case round=>
        obtain⟨j,M,hj,rfl,HM2,HH,HB2⟩:=hrel;clear HM HB c2;have HM:=HM2;have HB:=HB2;clear HM2 HB2;by_cases hlt:j<used.length
        · obtain ⟨ad, e1, h1⟩:=Kd.at_int (Kd.C_below HA.out.u HB.out) (j:Int) (by omega) (by omega)
          have c1:=(HA.out.keep HB.out).c1;have c3:=(HA.out.keep HB.out).c3;have j0:(0:Int)≤(j:Int):=by omega
          have j1:(j:Int)<(used.length:Int):=by omega
          subst e1;rw[Int.toNat_natCast,rd_get used j hlt]at h1;have hin:=HI.out _ (List.getElem_mem hlt);have HH2:Aside0 (∀p q,lapT ls un (used.take (j+1)) p q=lapT ls un (used.take j) p q+lapD (fnd un (leg ls used[j]).f0) (fnd un (leg ls used[j]).f1) p q):=⟨fun p q=>by unfold lapT;rw[tot_take _ _ _ hlt]⟩;have HR2:Aside0 (∀p,rgtT ls un (used.take (j+1)) ax p=rgtT ls un (used.take j) ax p+rgtD (fnd un (leg ls used[j]).f0) (fnd un (leg ls used[j]).f1) (meas ls ax used[j]) p):=⟨fun p=>by unfold rgtT;rw[tot_take _ _ _ hlt]⟩;obtain⟨kn,hkn⟩:=Int.eq_ofNat_of_zero_le hin.1;unfold meas at HR2;rw[hkn]at h1 HH2 HR2 hin;have k1:(kn:Int)<(ls.length:Int):=hin.2;have k0:(0:Int)≤(kn:Int):=hin.1;obtain⟨la,e2,g0,g1,g2,g3,g4⟩:=at_T82 (Kd.C_below HA.out.l HB.out) (kn:Int) k0 k1;cases e2;rw[Int.toNat_natCast]at g0 g1 g2 g3 g4;have HX:Aside0 (Good (leg ls (kn:Int))):=⟨leg_good HG.out kn (by omega)⟩;have ek:rd_T82 ls (kn:Int)=leg ls kn:=rfl;rw[ek]at g0 g1 g2 g3 g4;generalize leg ls (kn:Int)=x at *;clear hin hkn
          go_upto_region 11 with fail
          have B1:=below_alloc (Below.refl wr.heap.size wr) (Obj.cells #[Value.int IntKind.i64 x.f0,Value.int IntKind.i64 x.f1,Value.int IntKind.i64 x.f2,Value.int IntKind.i64 x.f3,Value.int IntKind.i64 x.f4] 82);have HB1:=ak (below_step HB.out B1);have HM1:=ak (HM.out.keep B1);have HP1:=ak (Kd.C_below HA.out.p HB1.out);have d0:(wr.alloc (Obj.cells #[Value.int IntKind.i64 x.f0,Value.int IntKind.i64 x.f1,Value.int IntKind.i64 x.f2,Value.int IntKind.i64 x.f3,Value.int IntKind.i64 x.f4] 82)).cell? ⟨wr.heap.size,0,none⟩=some (.int .i64 x.f0):=by go_simp
          have d1:(wr.alloc (Obj.cells #[Value.int IntKind.i64 x.f0,Value.int IntKind.i64 x.f1,Value.int IntKind.i64 x.f2,Value.int IntKind.i64 x.f3,Value.int IntKind.i64 x.f4] 82)).cell? ⟨wr.heap.size,1,none⟩=some (.int .i64 x.f1):=by go_simp
          have d2:(wr.alloc (Obj.cells #[Value.int IntKind.i64 x.f0,Value.int IntKind.i64 x.f1,Value.int IntKind.i64 x.f2,Value.int IntKind.i64 x.f3,Value.int IntKind.i64 x.f4] 82)).cell? ⟨wr.heap.size,2,none⟩=some (.int .i64 x.f2):=by go_simp
          have d3:(wr.alloc (Obj.cells #[Value.int IntKind.i64 x.f0,Value.int IntKind.i64 x.f1,Value.int IntKind.i64 x.f2,Value.int IntKind.i64 x.f3,Value.int IntKind.i64 x.f4] 82)).cell? ⟨wr.heap.size,3,none⟩=some (.int .i64 x.f3):=by go_simp
          have d4:(wr.alloc (Obj.cells #[Value.int IntKind.i64 x.f0,Value.int IntKind.i64 x.f1,Value.int IntKind.i64 x.f2,Value.int IntKind.i64 x.f3,Value.int IntKind.i64 x.f4] 82)).cell? ⟨wr.heap.size,4,none⟩=some (.int .i64 x.f4):=by go_simp
          replace c1:=Sine.keepc c1 B1;replace c3:=Sine.keepc c3 B1;have hfr:=ak (fun(h0:0<un.length)=>HM.out.fresh h0);clear HM HB B1 g0 g1 g2 g3 g4 h1;generalize wr.alloc (Obj.cells #[Value.int IntKind.i64 x.f0,Value.int IntKind.i64 x.f1,Value.int IntKind.i64 x.f2,Value.int IntKind.i64 x.f3,Value.int IntKind.i64 x.f4] 82)=W1 at *;generalize wr.heap.size=X at *;have q1:=indexQ pA pc un x.f0 W1 HP1.out hn8;have q2:=indexQ pA pc un x.f1 W1 HP1.out hn8
          go_quiet (first|(go_at_call 140;with_reducible exact q1 _)|(go_at_call 140;with_reducible exact q2 _))
          go_wp2;have B2:=below_alloc (pw_below_drewN (Below.refl W1.heap.size W1) nq) (Obj.cells #[Value.int IntKind.i64 (fnd un x.f0),Value.int IntKind.i64 (fnd un x.f1),Value.int IntKind.i64 (-1),Value.int IntKind.i64 (fnd un x.f1),Value.int IntKind.i64 (fnd un x.f0),Value.int IntKind.i64 1] 129);have HB2:=ak (below_step HB1.out B2);have HM2:=ak (HM1.out.keep B2)
          have HC2:Aside0 (Cel ((W1.drewN nq).alloc (Obj.cells #[Value.int IntKind.i64 (fnd un x.f0),Value.int IntKind.i64 (fnd un x.f1),Value.int IntKind.i64 (-1),Value.int IntKind.i64 (fnd un x.f1),Value.int IntKind.i64 (fnd un x.f0),Value.int IntKind.i64 1] 129)) X W1.heap.size x (fnd un x.f0) (fnd un x.f1)):=⟨by
            have hs:(W1.drewN nq).heap.size=W1.heap.size:=by simp
            have he:=ends_cells (W1.drewN nq) (fnd un x.f0) (fnd un x.f1);rw[hs]at he
            exact⟨Sine.keepc d0 B2,Sine.keepc d1 B2,Sine.keepc d2 B2,Sine.keepc d3 B2,Sine.keepc d4 B2,fun t ht=>(he t ht).1,fun t ht=>(he t ht).2.1,fun t ht=>(he t ht).2.2⟩⟩
          have HF2:=ak (show∀i:Nat,i<un.length→R i≠X∧R i≠W1.heap.size from fun i hi=>⟨(hfr.out (by omega)).2 i hi,(HM1.out.fresh (by omega)).2 i hi⟩);clear HB1 HM1 HP1 B2 d0 d1 d2 d3 d4 c1 c3 q1 q2 hfr;have ra:=fnd_range un x.f0;have rb:=fnd_range un x.f1;generalize fnd un x.f0=a at *;generalize fnd un x.f1=b at *
          have hab:∀t:Nat,t<2→(-1≤eI a b t∧eI a b t<(un.length:Int))∧(-1≤eI b a t∧eI b a t<(un.length:Int)):=fun t ht=>by
            have ht2:t=0∨t=1:=by omega
            rcases ht2 with rfl|rfl
            · exact⟨ra,rb⟩
            · exact⟨rb,ra⟩
          have HAB:=ak hab;have HTT:Aside0 (∀p q,lapT ls un (used.take (j+1)) p q=TT (lapT ls un (used.take j)) a b 2 p q):=⟨fun p q=>by rw[HH2.out,TT_two]⟩;have HUU:Aside0 (∀p,rgtT ls un (used.take (j+1)) ax p=UU (rgtT ls un (used.take j) ax) a b (onM (shift x) ax) 2 p):=⟨fun p=>by rw[HR2.out,UU_two]⟩
          have HV:=ak (show -500≤onM (shift x) ax∧onM (shift x) ax≤500 from by
            have h:=shift_bound x HX.out;unfold onM;split
            · exact h.1
            · split
              · exact h.2.1
              · exact h.2.2)
          clear HH2 HR2 hab ra rb;generalize lapT ls un (List.take j used)=T0 at *;generalize rgtT ls un (List.take j used) ax=U0 at *;obtain⟨v,hv⟩:∃v,v=onM (shift x) ax:=⟨_,rfl⟩
          rw[←hv]at HUU HV;have HON:Aside0 (∀W:World,Calls Tryz.prog 123 #[.agg #[.int .i64 (shift x).f0,.int .i64 (shift x).f1,.int .i64 (shift x).f2],.int .i64 ax] W fun e w'=>e= .returned (.int .i64 v)∧Below W.heap.size W w'):=⟨fun W=>by rw[hv];exact onW (shift x) ax h0 h2 W⟩;clear hv;generalize W1.heap.size=Q at *;clear ek
          go_loopw [77] (fun v77 W=>∃(t:Nat) (M':Mx),t≤2∧v77= .int .i64 t∧Aside0 (MatAt W w.heap.size un.length R (fun _=>un.length) M' w.heap.size)∧Aside0 (Hold un.length col M' (TT T0 a b t) (UU U0 a b v t))∧Aside0 (Cel W X Q x a b)∧Aside0 (Below w.heap.size w W)) (fun v77 _=>2-(intOf v77).toNat)
          case atStart=>exact⟨0,M,by omega,rfl,HM2,HH,HC2,HB2⟩
          case round=>
            obtain⟨t,M1,ht,rfl,HM3,HH3,HC3,HB3⟩:=hrel;clear HM2 HH HC2 HB2;by_cases htl:t<2
            · have hij := HAB.out t htl
              have q0:=HC3.out.q0 t htl;have q1:=HC3.out.q1 t htl;have q2:=HC3.out.q2 t htl;have HTS:=ak (show∀p q,TT T0 a b (t+1) p q=TT T0 a b t p q+endD (eI a b t) (eI b a t) p q from fun _ _=>rfl);have HUS:=ak (show∀p,UU U0 a b v (t+1) p=UU U0 a b v t p+endR (eI a b t) (eS t*v) p from fun _=>rfl);have t0:(0:Int)≤(t:Int):=by omega
              have t1:(t:Int)<2:=by omega
              have hs:eS t= -1∨eS t=1:=by unfold eS;split<;>omega
              have HSS:=ak hs;clear hs;generalize eI a b t=i at *;generalize eI b a t=jj at *;generalize eS t=s at *
              go_upto_region 15 with fail
              have B3:=below_alloc (Below.refl wr.heap.size wr) (Obj.cells #[Value.int IntKind.i64 i,Value.int IntKind.i64 jj,Value.int IntKind.i64 s] 129);have HB4:=ak (below_step HB3.out B3);have HM4:=ak (HM3.out.keep B3);have HC4:=ak (HC3.out.keep B3);have HF4:=ak (show∀i:Nat,i<un.length→R i≠X∧R i≠Q∧R i≠wr.heap.size from fun i hi=>⟨(HF2.out i hi).1,(HF2.out i hi).2,(HM3.out.fresh (by omega)).2 i hi⟩);have e0:(wr.alloc (Obj.cells #[Value.int IntKind.i64 i,Value.int IntKind.i64 jj,Value.int IntKind.i64 s] 129)).cell? ⟨wr.heap.size,0,none⟩=some (.int .i64 i):=by go_simp
              have e1:(wr.alloc (Obj.cells #[Value.int IntKind.i64 i,Value.int IntKind.i64 jj,Value.int IntKind.i64 s] 129)).cell? ⟨wr.heap.size,1,none⟩=some (.int .i64 jj):=by go_simp
              have e2:(wr.alloc (Obj.cells #[Value.int IntKind.i64 i,Value.int IntKind.i64 jj,Value.int IntKind.i64 s] 129)).cell? ⟨wr.heap.size,2,none⟩=some (.int .i64 s):=by go_simp
              have HE4:=ak (End3.mk e0 e1 e2);clear HB3 HM3 HC3 HF2 B3 q0 q1 q2;generalize wr.alloc (Obj.cells #[Value.int IntKind.i64 i,Value.int IntKind.i64 jj,Value.int IntKind.i64 s] 129)=W3 at *;generalize wr.heap.size=E at *
              go_quiet (fail)
              generalize hW4:W3.drewN nq=W4;replace HB4:=ak (below_step HB4.out (hW4▸pw_below_drewN (Below.refl W3.heap.size W3) nq));replace HM4:=ak (HM4.out.keep (hW4▸pw_below_drewN (Below.refl W3.heap.size W3) nq));replace HC4:=ak (HC4.out.keep (hW4▸pw_below_drewN (Below.refl W3.heap.size W3) nq));replace HE4:=ak (HE4.out.keep (hW4▸pw_below_drewN (Below.refl W3.heap.size W3) nq));clear hW4 e0 e1 e2;by_cases hneg:i<0
              · have HH4:=ak (HH3.out.congr (fun p q _ _=>show TT T0 a b (t+1) p q=TT T0 a b t p q by rw[HTS.out,endD_none hneg];omega) (fun _ p _=>show UU U0 a b v (t+1) p=UU U0 a b v t p by rw[HUS.out,endR_none hneg];omega))
                go_wp2;exact⟨⟨t+1,M1,by omega,by go_num,HM4,HH4,HC4,HB4⟩,qz41⟩
              · obtain ⟨iN, rfl⟩:=Int.eq_ofNat_of_zero_le (show 0≤i by omega)
                have hiN:iN<un.length:=by omega
                have i0:(0:Int)≤(iN:Int):=by omega
                have i1:(iN:Int)<(un.length:Int):=by omega
                go_upto_if 89 with fail
                go_cut [] (fun W=>∃M2,Aside0 (MatAt W w.heap.size un.length R (fun _=>un.length) M2 w.heap.size)∧Aside0 (Hold un.length col M2 (fun p q=>TT T0 a b t p q+(if p=iN∧q=iN then 1 else 0)) (UU U0 a b v t))∧Aside0 (Cel W X Q x a b)∧Aside0 (End3 W E (iN:Int) jj s)∧Aside0 (Below w.heap.size w W))
                case first=>
                  by_cases hc:(iN:Int)=col
                  · have hcb:((iN:Int) !=col)=false:=by simp[hc]
                    have HH4:=ak (HH3.out.diag0 hc);clear hc;go_wp2;go_meet;(case rel=>exact⟨M1,HM4,HH4,HC4,HE4,HB4⟩)
                  · have hcb:((iN:Int) !=col)=true:=by simp[hc]
                    have HH4:=ak (HH3.out.diag hiN hc);have p1:=HM4.out.pc iN hiN;have p2:=HM4.out.mc iN iN hiN hiN;have p3:=HM4.out.fm iN iN hiN hiN;have HM5:=ak (HM4.out.set hiN hiN (wrap64 (M1 iN iN+1)));have HC5:=ak (HC4.out.far (i:=iN) (HF4.out iN hiN).1 (HF4.out iN hiN).2.1 (.int .i64 (wrap64 (M1 iN iN+1))));have HE5:=ak (HE4.out.far (k:=iN) (HF4.out iN hiN).2.2 (.int .i64 (wrap64 (M1 iN iN+1))));have HB5:=ak (HB4.out.setCell (show w.heap.size≤(⟨R iN,iN,none⟩:Addr).block from HM4.out.lr iN hiN) (.int .i64 (wrap64 (M1 iN iN+1))));go_wp2;go_meet;(case rel=>exact⟨_,HM5,HH4,HC5,HE5,HB5⟩)
                case rest =>
                  obtain⟨M2,HM5,HH5,HC5,HE5,HB5⟩:=hcut;clear HM4 HH3 HC4 HE4 HB4;generalize wc=W5 at *;obtain⟨bj,hbj⟩:∃bj,bj=decide (0≤jj∧jj≠col):=⟨_,rfl⟩
                  have HBJ:=ak hbj;clear hbj
                  go_upto_region 19 with fail
                  go_cut [105] (fun v W=>v= .bool bj∧W=W5)
                  case first=>
                    by_cases hj0:0≤jj
                    · by_cases hjc:jj=col
                      · have hcb:(jj !=col)=false:=by simp[hjc]
                        have hde:=ak (show bj=false from HBJ.out.trans (decide_eq_false (fun e=>e.2 hjc)));clear hjc;go_wp2;go_meet;(case rel=>exact⟨qz81,rfl⟩)
                      · have hcb:(jj !=col)=true:=by simp[hjc]
                        have hde:=ak (show bj=true from HBJ.out.trans (decide_eq_true ⟨hj0,hjc⟩));go_wp2;go_meet;(case rel=>exact⟨qz81,rfl⟩)
                    · have hde:=ak (show bj=false from HBJ.out.trans (decide_eq_false (fun e=>hj0 e.1)))
                      go_wp2;go_meet;(case rel=>exact⟨qz81,rfl⟩)
                  case rest =>
                    obtain⟨rfl,rfl⟩:=hcut;generalize wc=W6 at *
                    go_upto_if 105 with fail
                    go_cut [] (fun W=>∃M3,Aside0 (MatAt W w.heap.size un.length R (fun _=>un.length) M3 w.heap.size)∧Aside0 (Hold un.length col M3 (fun p q=>TT T0 a b (t+1) p q) (UU U0 a b v t))∧Aside0 (Cel W X Q x a b)∧Aside0 (End3 W E (iN:Int) jj s)∧Aside0 (Below w.heap.size w W))
                    case first=>
                      cases bj with
                      | true=>
                        have hj:=of_decide_eq_true HBJ.out.symm;obtain⟨jN,rfl⟩:=Int.eq_ofNat_of_zero_le hj.1;have hjN:jN<un.length:=by omega
                        have j2:(0:Int)≤(jN:Int):=by omega
                        have j3:(jN:Int)<(un.length:Int):=by omega
                        have HH6:=ak ((HH5.out.side hiN hjN hj.2).congr (T':=fun p q=>TT T0 a b (t+1) p q) (fun p q _ _=>by
                          show TT T0 a b (t+1) p q=_;rw[HTS.out];unfold endD;by_cases c1:p=iN∧q=iN
                          · rw[if_pos c1,if_pos (by omega)];by_cases c2:p=iN∧(q:Int)=(jN:Int)
                            · rw[if_pos c2,if_pos (by omega)];omega
                            · rw[if_neg c2,if_neg (by omega)];omega
                          · rw[if_neg c1,if_neg (by omega)];by_cases c2:p=iN∧(q:Int)=(jN:Int)
                            · rw[if_pos c2,if_pos (by omega)];omega
                            · rw[if_neg c2,if_neg (by omega)];omega) (fun _ _ _=>rfl))
                        have p1:=HM5.out.pc iN hiN;have p2:=HM5.out.mc iN jN hiN hjN;have p3:=HM5.out.fm iN jN hiN hjN;have HM6:=ak (HM5.out.set hiN hjN (wrap64 (M2 iN jN-1)));have HC6:=ak (HC5.out.far (i:=jN) (HF4.out iN hiN).1 (HF4.out iN hiN).2.1 (.int .i64 (wrap64 (M2 iN jN-1))));have HE6:=ak (HE5.out.far (k:=jN) (HF4.out iN hiN).2.2 (.int .i64 (wrap64 (M2 iN jN-1))));have HB6:=ak (HB5.out.setCell (show w.heap.size≤(⟨R iN,jN,none⟩:Addr).block from HM5.out.lr iN hiN) (.int .i64 (wrap64 (M2 iN jN-1))));clear hj;go_wp2;go_meet;(case rel=>exact⟨_,HM6,HH6,HC6,HE6,HB6⟩)
                      | false=>
                        have hj:=of_decide_eq_false HBJ.out.symm
                        have HH6:=ak ((HH5.out.side0 (i:=iN) (j:=jj) (show jj<0∨jj=col by omega)).congr (T':=fun p q=>TT T0 a b (t+1) p q) (fun p q _ _=>by
                          show TT T0 a b (t+1) p q=_;rw[HTS.out];unfold endD;by_cases c1:p=iN∧q=iN
                          · rw[if_pos c1,if_pos (by omega)];by_cases c2:p=iN∧(q:Int)=jj
                            · rw[if_pos c2,if_pos (by omega)];omega
                            · rw[if_neg c2,if_neg (by omega)];omega
                          · rw[if_neg c1,if_neg (by omega)];by_cases c2:p=iN∧(q:Int)=jj
                            · rw[if_pos c2,if_pos (by omega)];omega
                            · rw[if_neg c2,if_neg (by omega)];omega) (fun _ _ _=>rfl))
                        clear hj;go_wp2;go_meet;(case rel=>exact⟨_,HM5,HH6,HC5,HE5,HB5⟩)
                    case rest=>
                      obtain⟨M3,HM6,HH6,HC6,HE6,HB6⟩:=hcut;clear HM5 HH5 HC5 HE5 HB5;generalize wc=W7 at *;rcases HN.out with hcm|⟨hc0,hcn⟩
                      · have hn0:¬(0≤col):=by omega
                        have HH7:=ak (HH6.out.congr (T':=TT T0 a b (t+1)) (U':=UU U0 a b v (t+1)) (fun _ _ _ _=>rfl) (fun h=>absurd h hn0));clear hcm;go_wp2;exact⟨⟨t+1,M3,by omega,by go_num,HM6,HH7,HC6,HB6⟩,qz41⟩
                      · obtain⟨cN,rfl⟩:=Int.eq_ofNat_of_zero_le hc0
                        have hcN:cN<un.length:=by omega
                        have p1:=HM6.out.pc iN hiN;have p2:=HM6.out.mc iN cN hiN hcN;have p3:=HM6.out.fm iN cN hiN hcN;have x0:=HC6.out.x0;have x1:=HC6.out.x1;have x2:=HC6.out.x2;have x3:=HC6.out.x3;have x4:=HC6.out.x4;have e2:=HE6.out.e2;have n1:=HM6.out.ne iN hiN;have n2:=(HF4.out iN hiN).2.2;have n3:=(HF4.out iN hiN).1
                        go_upto_region 22 with fail
                        refine start_ (n:=17) (S:=fun w'=>w'.cell? ⟨w.heap.size,iN,none⟩=some (.slice (some ⟨R iN,0,none⟩) un.length un.length)∧w'.cell? ⟨R iN,cN,none⟩=some (.int .i64 (M3 iN cN))∧w'.cell? ⟨E,2,none⟩=some (.int .i64 s)∧w'.cell? ⟨X,0,none⟩=some (.int .i64 x.f0)∧w'.cell? ⟨X,1,none⟩=some (.int .i64 x.f1)∧w'.cell? ⟨X,2,none⟩=some (.int .i64 x.f2)∧w'.cell? ⟨X,3,none⟩=some (.int .i64 x.f3)∧w'.cell? ⟨X,4,none⟩=some (.int .i64 x.f4)) (ds:=[16]) #[false,false,false,false,false,false,false,false,false,false,false,false,false,false,false,false,false] qz37 rfl rfl ⟨p1,p2,e2,x0,x1,x2,x3,x4⟩ (fun hHeld=>?_);refine pY 0 (some 117) (bz 17 1) ?_;refine pY 1 (some 118) (bz 17 3) ?_;refine pY 4 (some 121) (bz 17 19) ?_;refine pY 7 (some 124) (bz 17 147) ?_;refine pY 2 (some 119) (bz 17 151) ?_;refine pY 11 (some 128) (bz 17 2199) ?_;refine tZ8 3 (some 120) (bz 17 2207) ?_;refine pY 5 (some 122) (bz 17 2239) ?_;refine tZ8 6 (some 123) (bz 17 2303) ?_;refine tZ8 8 (some 125) (bz 17 2559) ?_;refine tZ8 9 (some 126) (bz 17 3071) ?_;refine oY 10 (some 127) (bz 17 4095) (fun K hK=>?_);refine goes_ Tryz.func111 qz37 rfl #[.agg #[.int .i64 x.f0,.int .i64 x.f1,.int .i64 x.f2,.int .i64 x.f3,.int .i64 x.f4]] (by rfl) rfl rfl qz63 ?_;(with_reducible refine(legShift x _ ?side1 HX.out).mono ?_);(case side1=>exact HL.out.keep (below_step HB6.out (below_drew1 (Below.refl _ _))));rintro e w8 ⟨rfl,hw1⟩;have hB8:Below W7.heap.size W7 w8:=below_step (below_drew1 (Below.refl _ _)) hw1;refine⟨_,rfl,?_⟩;refine hK.out _ _ ⟨Sine.keepc (w:=W7) p1 hB8,Sine.keepc (w:=W7) p2 hB8,Sine.keepc (w:=W7) e2 hB8,Sine.keepc (w:=W7) x0 hB8,Sine.keepc (w:=W7) x1 hB8,Sine.keepc (w:=W7) x2 hB8,Sine.keepc (w:=W7) x3 hB8,Sine.keepc (w:=W7) x4 hB8⟩ (fun hHeld=>?_);clear hK K;refine nZ ?_;refine oY 12 (some 129) (bz 17 8191) (fun K hK=>?_);refine goes_ Tryz.func123 qz37 rfl #[.agg #[.int .i64 (shift x).f0,.int .i64 (shift x).f1,.int .i64 (shift x).f2],.int .i64 ax] (by rfl) rfl rfl qz63 ?_;(with_reducible refine(HON.out _).mono ?_);rintro e w9 ⟨rfl,hw2⟩;have hB9:Below W7.heap.size W7 w9:=below_step hB8 hw2;refine⟨_,rfl,?_⟩;refine hK.out _ _ ⟨Sine.keepc (w:=W7) p1 hB9,Sine.keepc (w:=W7) p2 hB9,Sine.keepc (w:=W7) e2 hB9,Sine.keepc (w:=W7) x0 hB9,Sine.keepc (w:=W7) x1 hB9,Sine.keepc (w:=W7) x2 hB9,Sine.keepc (w:=W7) x3 hB9,Sine.keepc (w:=W7) x4 hB9⟩ (fun hHeld=>?_);clear hK K;refine nZ ?_;refine pY 13 (some 130) (bz 17 16383) ?_;refine pY 14 (some 131) (bz 17 32767) ?_;refine pY 15 (some 132) (bz 17 65535) ?_;have y2:=Sine.keepc (w:=W7) p2 hB9;have y3:=keepz (w:=W7) p2 p3 hB9;have HB7:=ak (below_step HB6.out hB9);have HM7:=ak (HM6.out.keep hB9);have HC7:=ak (HC6.out.keep hB9);refine last_ (i:=16) (N:=none) #[true,true,true,true,true,true,true,true,true,true,true,true,true,true,true,true,true] rfl rfl qz37 (by decide) (fun K hK=>?_);refine skip_ (w1:=?_) (by rfl) rfl ?_ ?_;rotate_left
                        · go_simp
                          rfl
                        refine hK.out _ _ ?_;clear hK K;refine done_ qz37 ?_
                        all_goals
                          have hsv:wrap64 (s*v)=s*v:=by
                            rcases HSS.out with h|h<;>rw[h]
                            · exact w64 (by have:=HV.out;omega) (by have:=HV.out;omega)
                            · exact w64 (by have:=HV.out;omega) (by have:=HV.out;omega)
                          have HH7:=ak ((HH6.out.right hiN hcN (wrap64 (s*v))).congr (T':=TT T0 a b (t+1)) (U':=UU U0 a b v (t+1)) (fun _ _ _ _=>rfl) (fun _ p _=>by
                            rw[HUS.out,hsv];unfold endR;by_cases c1:p=iN
                            · rw[if_pos c1,if_pos (by omega)]
                            · rw[if_neg c1,if_neg (by omega)]))
                          have HM8:=ak (HM7.out.set hiN hcN (wrap64 (M3 iN cN+wrap64 (s*v))));have HC8:=ak (HC7.out.far (i:=cN) n3 (HF4.out iN hiN).2.1 (.int .i64 (wrap64 (M3 iN cN+wrap64 (s*v)))));have HB8:=ak (HB7.out.setCell (show w.heap.size≤(⟨R iN,cN,none⟩:Addr).block from HM7.out.lr iN hiN) (.int .i64 (wrap64 (M3 iN cN+wrap64 (s*v)))));clear hsv;go_wp2
                        all_goals exact⟨⟨t+1,_,by omega,by go_num,HM8,HH7,HC8,HB8⟩,qz41⟩
            · obtain rfl:t=2:=by omega
              have HH4:=ak (HH3.out.congr (T':=lapT ls un (used.take (j+1))) (U':=rgtT ls un (used.take (j+1)) ax) (fun p q _ _=>HTT.out p q) (fun _ p _=>HUU.out p));go_wp2;exact⟨⟨j+1,M1,by omega,by go_num,HM3,HH4,HB3⟩,qz41⟩
        · obtain rfl:j=used.length:=by omega
          have HM3:=ak (HM.out.congr (N:=matM ls un used ax col) (fun p q hp hq=>by
            have h:=HH.out p q hp hq;rw[List.take_of_length_le (Nat.le_refl _)]at h
            rw[h];rfl))
          go_wp2;go_ret;exact⟨_,_,_,rfl,HM3.out,HB.out⟩
theorem detUse(b n c k:Nat)(x:Int)(p:Addr)(w:World)(hp:w.cell? p=some (.int .i64 (k:Int)))(hc:w.cell? ⟨b,k,none⟩=some (.int .i64 x))(hk:k<n):
    Calls Tryz.prog 139 #[.slice (some ⟨b,0,none⟩) n c,.pointer (some p)] w fun e w'=>e= .returned (.bool (x !=0))∧w'=w:=by
  have k0:(0:Int)≤(k:Int):=by omega
  have k1:(k:Int)<(n:Int):=by omega
  go_enter Tryz.func139,Tryz.ntmps139;go_wp2;go_ret;exact⟨rfl,rfl⟩
theorem indexRow (bm n cap:Nat) (R C:Nat→Nat) (M:Mx) (lo:Nat) (k:Nat) (p0:Addr) (w:World) (hM:MatAt w bm n R C M lo) (hk:k<n) (hn:n≤8) (hp0:w.cell? p0=some (.int .i64 (k:Int))):
    Calls Tryz.prog 138 #[.slice (some ⟨bm,k,none⟩) (n-k) cap,.func (Fn.func 139) #[] #[.pointer (some p0)]] w fun e w'=>e= .returned (.int .i64 (pvI M k n))∧Below w.heap.size w w':=by
  have HM:=ak hM;have HP:=ak hp0;have HB:=ak (Below.refl w.heap.size w);clear hM hp0;go_enter Tryz.func138,Tryz.ntmps138;go_wp2
  go_loopw [8] (fun v8 W=>∃(j:Nat),j≤n-k∧v8= .int .i64 j∧Aside0 (piv M k (n-(k+j)) (k+j)=piv M k (n-k) k)∧Aside0 (Below w.heap.size w W)) (fun v8 _=>(n-k)-(intOf v8).toNat)
  case atStart=>exact⟨0,Nat.zero_le _,rfl,⟨rfl⟩,HB⟩
  case round=>
    obtain⟨j,hj,rfl,HI,HB2⟩:=hrel;clear HB;have HB:=HB2;clear HB2;by_cases hlt:j<n-k
    · have hkj:k+j<n:=by omega
      have c1:=Sine.keepc (HM.out.pc (k+j) hkj) HB.out;have HC2:=ak (Sine.keepc (HM.out.mc (k+j) k hkj hk) HB.out);have HP2:=ak (Sine.keepc HP.out HB.out);have j0:(0:Int)≤(j:Int):=by omega
      have j1:(j:Int)<((n-k:Nat):Int):=by omega
      have jn:(n-k:Nat)≤8:=by omega
      by_cases hz:M (k+j) k=0
      · have hbb:(M (k+j) k !=0)=false:=by simp[hz]
        go_wp2_with (go_at_call 139;have hq:=detUse (R (k+j)) n (C (k+j)) k (M (k+j) k) p0 wr HP2.out HC2.out hk;(with_reducible refine hq.mono ?_);clear hq;rw[hbb];rintro e w' ⟨rfl,rfl⟩)
        have hp':piv M k (n-(k+(j+1))) (k+(j+1))=piv M k (n-k) k:=by
          have h:=HI.out;rw[show n-(k+j)=(n-(k+(j+1)))+1 by omega,Elim.piv_succ,if_pos hz]at h;exact h
        exact⟨⟨j+1,by omega,by go_num,⟨hp'⟩,HB⟩,qz41⟩
      · have hbb:(M (k+j) k !=0)=true:=by simp[hz]
        go_wp2_with (go_at_call 139;have hq:=detUse (R (k+j)) n (C (k+j)) k (M (k+j) k) p0 wr HP2.out HC2.out hk;(with_reducible refine hq.mono ?_);clear hq;rw[hbb];rintro e w' ⟨rfl,rfl⟩)
        have hpv:pvI M k n=(j:Int):=by
          have h:=HI.out;rw[show n-(k+j)=(n-(k+(j+1)))+1 by omega,Elim.piv_succ,if_neg hz]at h;unfold pvI;rw[←h];simp only;omega
        go_ret;exact⟨(by rw[hpv];rfl),HB.out⟩
    · have hpv:pvI M k n= -1:=by
        have h:=HI.out;rw[show n-(k+j)=0 by omega]at h;unfold pvI;rw[←h];rfl
      have jn:(n-k:Nat)≤8:=by omega
      go_wp2;go_ret;exact⟨(by rw[hpv];rfl),HB.out⟩
theorem determinantW (bm n cap:Nat) (R C:Nat→Nat) (M:Mx) (lo:Nat) (w:World) (hM:MatAt w bm n R C M lo) (h0:0<n) (hn:n≤8) (hcap:n≤cap) (hlo:lo≤w.heap.size):
    Calls Tryz.prog 116 #[.slice (some ⟨bm,0,none⟩) n cap] w fun e w'=>e= .returned (.int .i64 (Elim.det n 0 1 1 M))∧Below lo w w':=by
  have HM:=ak hM;have HB:=ak (Below.refl lo w);obtain⟨D,hD⟩:∃D,D=Elim.det n 0 1 1 M:=⟨_,rfl⟩
  rw[←hD];have HD:=ak hD;clear hM hD;go_enter Tryz.func116,Tryz.ntmps116;go_wp2
  go_loopw [4,5,13] (fun v4 v5 v13 W=>∃(k:Nat) (s l:Int) (M':Mx) (R' C':Nat→Nat),k≤n∧v13= .int .i64 k∧v4= .int .i64 s∧v5= .int .i64 l∧l≠0∧Aside0 (Elim.det (n-k) k s l M'=D)∧Aside0 (MatAt W bm n R' C' M' lo)∧Aside0 (Below lo w W)) (fun _ _ v13 _=>n-(intOf v13).toNat)
  case atStart=>exact⟨0,1,1,M,R,C,Nat.zero_le _,rfl,rfl,rfl,by omega,⟨HD.out.symm⟩,HM,HB⟩
  case round=>
    obtain⟨k,s,l,M',R',C',hk,rfl,rfl,rfl,hl,HD2,HM2,HB2⟩:=hrel;clear HM HB HD;by_cases hlt:k<n
    · have kk0 : (0:Int)≤(k:Int):=by omega
      have kk1:(k:Int)<(n:Int):=by omega
      have kk2:(k:Int)≤(n:Int):=by omega
      cases hq0:piv M' k (n-k) k with
      | none=>
        have hpv:pvI M' k n= -1:=by unfold pvI;rw[hq0]
        have hz:D=0:=by
          have h2:=HD2.out;rw[show n-k=(n-(k+1))+1 by omega]at h2 hq0;rw[Elim.det_succ,hq0]at h2;exact h2.symm
        subst hz;clear hq0;go_wp2_with (go_at_call 138;(with_reducible refine(indexRow bm n (cap-k) R' C' M' lo k ⟨wr.heap.size,0,none⟩ _ ?s1 hlt hn ?s2).mono ?_);(case s1=>exact HM2.out.keep (below_alloc (Below.refl _ _) _));(case s2=>go_simp);rw[hpv];rintro e w3 ⟨rfl,hw⟩;have HM3:=ak ((HM2.out.keep (below_alloc (Below.refl wr.heap.size wr) (Obj.cells #[Value.int IntKind.i64 (k:Int)] 3))).keep hw);have hls:lo≤wr.heap.size:=Nat.le_trans hlo HB2.out.size;have hls2:lo≤(wr.alloc (Obj.cells #[Value.int IntKind.i64 (k:Int)] 3)).heap.size:=Nat.le_trans hls (below_alloc (Below.refl wr.heap.size wr) (Obj.cells #[Value.int IntKind.i64 (k:Int)] 3)).size;have HB3:=ak (below_then (HB2.out.alloc hls (Obj.cells #[Value.int IntKind.i64 (k:Int)] 3)) hls2 hw);have HQ:=ak (show lo≤wr.heap.size∧bm≠wr.heap.size∧∀i,i<n→R' i≠wr.heap.size from⟨hls,HM2.out.fresh h0⟩);have HC3:=ak (Sine.keepc (w:=wr.alloc (Obj.cells #[Value.int IntKind.i64 (k:Int)] 3)) (a:=⟨wr.heap.size,0,none⟩) (v:= .int .i64 (k:Int)) (by go_simp) hw));go_ret;exact⟨rfl,HB3.out⟩
      | some p=>
        have hpb:=Elim.piv_some M' k (n-k) k p hq0;obtain⟨d,hd⟩:∃d:Int,d=(p:Int)-(k:Int):=⟨_,rfl⟩
        have hpv:pvI M' k n=d:=by unfold pvI;rw[hq0,hd]
        have hd0:¬d<0:=by omega
        have hp:p<n:=by omega
        have HD3:Aside0 (Elim.det (n-(k+1)) (k+1) (if p=k then s else wrap64 (-s)) ((swp M' k p) k k) (Elim.stp (swp M' k p) k l)=D):=⟨by
          have h:=HD2.out;rw[show n-k=(n-(k+1))+1 by omega]at h hq0;rw[Elim.det_succ,hq0]at h
          exact h⟩
        have HNZ:Aside0 ((swp M' k p) k k≠0):=⟨(by unfold swp;rw[if_pos rfl];exact hpb.2.2.1)⟩;have hwd:wrap64 ((k:Int)+d)=(p:Int):=by unfold wrap64;omega
        have HDD:=ak hd;clear hpb hq0 HD2 hd
        go_upto_if 24 with(go_at_call 138;(with_reducible refine(indexRow bm n (cap-k) R' C' M' lo k ⟨wr.heap.size,0,none⟩ _ ?s1 hlt hn ?s2).mono ?_);(case s1=>exact HM2.out.keep (below_alloc (Below.refl _ _) _));(case s2=>go_simp);rw[hpv];rintro e w3 ⟨rfl,hw⟩;have HM3:=ak ((HM2.out.keep (below_alloc (Below.refl wr.heap.size wr) (Obj.cells #[Value.int IntKind.i64 (k:Int)] 3))).keep hw);have hls:lo≤wr.heap.size:=Nat.le_trans hlo HB2.out.size;have hls2:lo≤(wr.alloc (Obj.cells #[Value.int IntKind.i64 (k:Int)] 3)).heap.size:=Nat.le_trans hls (below_alloc (Below.refl wr.heap.size wr) (Obj.cells #[Value.int IntKind.i64 (k:Int)] 3)).size;have HB3:=ak (below_then (HB2.out.alloc hls (Obj.cells #[Value.int IntKind.i64 (k:Int)] 3)) hls2 hw);have HQ:=ak (show lo≤wr.heap.size∧bm≠wr.heap.size∧∀i,i<n→R' i≠wr.heap.size from⟨hls,HM2.out.fresh h0⟩);have HC3:=ak (Sine.keepc (w:=wr.alloc (Obj.cells #[Value.int IntKind.i64 (k:Int)] 3)) (a:=⟨wr.heap.size,0,none⟩) (v:= .int .i64 (k:Int)) (by go_simp) hw))
        clear hls hls2 hw HM2 HB2;generalize wr.heap.size=q at *;have hrc:=HC3.out
        go_cut [4] (fun v4 W=>∃(R2 C2:Nat→Nat),v4= .int .i64 (if p=k then s else wrap64 (-s))∧Aside0 (MatAt W bm n R2 C2 (swp M' k p) lo)∧Aside0 (W.cell? ⟨q,0,none⟩=some (.int .i64 (k:Int)))∧Aside0 (∀i,i<n→R2 i≠q)∧Aside0 (Below lo w W))
        case first=>
          by_cases hpk:p=k
          · have hb:¬d>0:=by have:=HDD.out;omega
            have hb':decide (d>0)=false:=decide_eq_false hb
            have HM5:=ak (HM3.out.congr (N:=swp M' k p) (fun i j hi hj=>by
              unfold swp;by_cases c:i=k
              · rw[if_pos c,hpk,c]
              · rw[if_neg c,hpk,if_neg c]))
            go_wp2;go_meet;(case rel=>exact⟨_,_,(by rw[if_pos hpk]),HM5,HC3,⟨HQ.out.2.2⟩,HB3⟩)
          · have hb:d>0:=by have:=HDD.out;omega
            have hb':decide (d>0)=true:=decide_eq_true hb;have hwd2:IntKind.i64.wrap ((k:Int)+d)=(p:Int):=by rw[i64_w];exact hwd
            have c1:=HM3.out.pc p hp;have c2:=HM3.out.pc k hlt;have pp0:(0:Int)≤(p:Int):=by omega
            have pp1:(p:Int)<(n:Int):=by omega
            go_wp2_with fail;have z2:=HM3.out.fp k hlt;have z1:=HM3.out.fp p hp;have e1:=far (W:=w3) (HM3.out.pc p hp) (v:= .slice (some ⟨R' p,0,none⟩) n (C' p)) (offne (g:=bm) (fun e=>hpk e.symm));have e2:=far (W:=w3) HC3.out (v:= .slice (some ⟨R' p,0,none⟩) n (C' p)) (blkne (i:=k) HQ.out.2.1);have e3:(w3.setCell ⟨bm,k,none⟩ (.slice (some ⟨R' p,0,none⟩) n (C' p))).frozen? ⟨bm,p,none⟩=false:=(frz (W:=w3) ⟨bm,k,none⟩ (.slice (some ⟨R' p,0,none⟩) n (C' p)) ⟨bm,p,none⟩).trans z1;have HM8:=ak ((HM3.out.swap' hlt hp hpk).keep (below_drew1 (Below.refl _ _)));have HM9:=ak ((HM3.out.keep (below_drew1 (Below.refl w3.heap.size w3))).swap' hlt hp hpk);have HC8:=ak (cdrew (far (far HC3.out (v:= .slice (some ⟨R' p,0,none⟩) n (C' p)) (blkne (i:=k) HQ.out.2.1)) (v:= .slice (some ⟨R' k,0,none⟩) n (C' k)) (blkne (i:=p) HQ.out.2.1)))
            have HR8:Aside0 (∀i,i<n→swp R' k p i≠q):=⟨fun i hi=>by
              unfold swp;by_cases c:i=k
              · rw[if_pos c];exact HQ.out.2.2 p hp
              · rw[if_neg c]
                by_cases c2:i=p
                · rw[if_pos c2];exact HQ.out.2.2 k hlt
                · rw[if_neg c2];exact HQ.out.2.2 i hi⟩
            go_region
            all_goals (go_wp2;go_meet)
            all_goals first
              |exact⟨_,_,(by rw[if_neg hpk]),HM8,HC8,HR8,⟨below_drew1 ((HB3.out.setCell HM3.out.lb _).setCell HM3.out.lb _)⟩⟩
              |exact⟨_,_,(by rw[if_neg hpk]),HM9,HC8,HR8,⟨((below_drew1 HB3.out).setCell HM3.out.lb _).setCell HM3.out.lb _⟩⟩
        case rest =>
          obtain⟨R2,C2,rfl,HM4,HC4,HQ4,HB4⟩:=hcut;clear HM3 HC3 HB3 hrc hwd hd0 hpv;generalize (if p=k then s else wrap64 (-s))=s2 at *;generalize swp M' k p=M2 at *;have hrc:=HC4.out;go_wp2
          go_loopw [8] (fun v8 W=>∃(i:Nat),k+1≤i∧i≤n∧v8= .int .i64 i∧Aside0 (MatAt W bm n R2 C2 (Elim.partI M2 k l i) lo)∧Aside0 (W.cell? ⟨q,0,none⟩=some (.int .i64 (k:Int)))∧Aside0 (Below lo w W)) (fun v8 _=>n-(intOf v8).toNat)
          case atStart=>exact⟨k+1,Nat.le_refl _,hlt,by go_num,⟨(by rw[Elim.partI_start];exact HM4.out)⟩,HC4,HB4⟩
          case round=>
            obtain⟨i,hki,hin,rfl,HM5,HC5,HB5⟩:=hrel;clear HM4 HC4 HB4 hrc;have hrc:=HC5.out;by_cases hi:i<n
            · go_wp2
              go_loopw [9] (fun v9 W=>∃(j:Nat),k+1≤j∧j≤n∧v9= .int .i64 j∧Aside0 (MatAt W bm n R2 C2 (Elim.partC M2 k l i j) lo)∧Aside0 (W.cell? ⟨q,0,none⟩=some (.int .i64 (k:Int)))∧Aside0 (Below lo w W)) (fun v9 _=>n-(intOf v9).toNat)
              case atStart=>exact⟨k+1,Nat.le_refl _,hlt,by go_num,⟨HM5.out.congr (fun a b ha hb=>Elim.partC_start a b)⟩,HC5,HB5⟩
              case round=>
                obtain⟨j,hkj,hjn,rfl,HM6,HC6,HB6⟩:=hrel;clear HM5 HC5 HB5 hrc;by_cases hj:j<n
                · have hrc:=HC6.out
                  have c1:=HM6.out.pc i hi;have c2:=HM6.out.pc k hlt;have c3:=HM6.out.mc i j hi hj;have c4:=HM6.out.mc k k hlt hlt;have c5:=HM6.out.mc i k hi hlt;have c6:=HM6.out.mc k j hlt hj;rw[Elim.partC_row i j (Or.inr (Or.inr (Nat.le_refl _))) (Or.inr (Nat.le_refl _))]at c3;rw[Elim.partC_row k k (Or.inl (by omega)) (Or.inl (Nat.le_refl _))]at c4;rw[Elim.partC_row i k (Or.inr (Or.inl (Nat.le_refl _))) (Or.inr (Nat.le_refl _))]at c5;rw[Elim.partC_row k j (Or.inl (by omega)) (Or.inl (Nat.le_refl _))]at c6;have ii0:(0:Int)≤(i:Int):=by omega
                  have ii1:(i:Int)<(n:Int):=by omega
                  have jj0:(0:Int)≤(j:Int):=by omega
                  have jj1:(j:Int)<(n:Int):=by omega
                  go_wp2_with fail
                  go_still_tail 39,qz37
                  have HM7:=ak (HM6.out.keep (below_drew1 (Below.refl wr.heap.size wr)));have HC7:=ak (cdrew HC6.out);have HB7:=ak (below_drew1 HB6.out);have HM8:=ak ((HM7.out.set hi hj (Elim.val M2 k l i j)).congr (fun a b ha hb=>Elim.partC_next (by omega) a b));have z1:=HM7.out.fm i j hi hj;replace c3:=cdrew c3;have HC8:=ak (far HC7.out (v:= .int .i64 (Elim.val M2 k l i j)) (blkne (i:=j) (HQ4.out i hi)));change wpList _ _ _ _ _ wr.drew;generalize wr.drew=w2 at HM7 HC7 HB7 HM8 HC8 z1 c3 ⊢;clear HM6 HC6 HB6 c1 c2 c4 c5 c6 hrc;go_wp2;exact⟨⟨j+1,by omega,by omega,by go_num,HM8,HC8,⟨HB7.out.setCell (HM7.out.lr i hi) _⟩⟩,qz41⟩
                · obtain rfl:j=n:=by omega
                  have HM7:=ak (HM6.out.congr (N:=Elim.partI M2 k l (i+1)) (fun a b ha hb=>(Elim.partC_end (by omega) a b hb).symm));go_wp2;exact⟨⟨i+1,by omega,by omega,by go_num,HM7,HC6,HB6⟩,qz41⟩
            · obtain rfl:i=n:=by omega
              have c1:=HM5.out.pc k hlt;have c2:=HM5.out.mc k k hlt hlt;rw[Elim.partI_row k k (Or.inl (Nat.le_refl _))]at c2
              have HD4:Aside0 (Elim.det (i-(k+1)) (k+1) s2 (M2 k k) (Elim.partI M2 k l i)=D):=⟨by
                rw[←HD3.out]
                exact Elim.det_same (n:=i) _ _ _ _ _ _ (by omega) (fun a b ha hai hb hbi=>Elim.partI_end ha hai hb)⟩
              have hnz:=HNZ.out;go_wp2_with fail
              go_quiet (fail)
              go_wp2;exact⟨⟨k+1,s2,M2 k k,Elim.partI M2 k l i,R2,C2,by omega,by go_num,rfl,rfl,hnz,HD4,⟨HM5.out.keep (pw_below_drewN (Below.refl _ _) _)⟩,⟨pw_below_drewN HB5.out _⟩⟩,qz41⟩
    · obtain rfl:k=n:=by omega
      have hz:wrap64 (s*l)=D:=by
        have h:=HD2.out;rw[Nat.sub_self]at h;exact h
      subst hz;go_wp2;go_ret;exact⟨rfl,HB2.out⟩
theorem determinant0(A:Option Addr)(cap lo:Nat)(w:World):
    Calls Tryz.prog 116 #[.slice A 0 cap] w fun e w'=>e= .returned (.int .i64 1)∧Below lo w w':=by
  have HB:=ak (Below.refl lo w);go_enter Tryz.func116,Tryz.ntmps116;go_wp2
  go_loopw [4,5,13] (fun v4 v5 v13 W=>v4= .int .i64 1∧v5= .int .i64 1∧v13= .int .i64 0∧Aside0 (Below lo w W)) (fun _ _ v13 _=>0)
  case atStart=>exact⟨rfl,rfl,rfl,HB⟩
  case round=>
    obtain⟨rfl,rfl,rfl,HB2⟩:=hrel;go_wp2;go_ret;exact⟨rfl,HB2.out⟩
theorem determinantM(bm n:Nat)(R C:Nat→Nat)(M:Mx)(lo:Nat)(w:World)(hM:MatAt w bm n R C M lo)(hn:n≤8)(hlo:lo≤w.heap.size):
    Calls Tryz.prog 116 #[.slice (some ⟨bm,0,none⟩) n n] w fun e w'=>e= .returned (.int .i64 (Elim.det n 0 1 1 M))∧Below lo w w':=by
  by_cases h0:0<n
  · exact determinantW bm n n R C M lo w hM h0 hn (Nat.le_refl _) hlo
  · obtain rfl:n=0:=by omega
    have e:Elim.det 0 0 1 1 M=1:=by unfold Elim.det wrap64;omega
    rw[e];exact determinant0 _ _ _ _
def usedL(ls:L):List Int:=plcL ls (RR ls) ls.length
def unkL(ls:L):List Int:=(plL (RR ls)).drop 1
def treesM(ls:L):Int:=Elim.det (unkL ls).length 0 1 1 (matM ls (unkL ls) (usedL ls) 0 (-1))
def coM(ls:L)(ax:Int)(i:Nat):Int:=Elim.det (unkL ls).length 0 1 1 (matM ls (unkL ls) (usedL ls) ax (i:Int))
theorem unkL_len{ls:L}(hg:∀x∈ls,Good x):(unkL ls).length≤7:=by
  unfold unkL;rw[List.length_drop];have:=plL_small hg;omega
theorem usedL_len(ls:L):(usedL ls).length≤ls.length:=selTo_len _ _
theorem usedL_range(ls:L):∀i∈usedL ls,0≤i∧i<(ls.length:Int):=fun i hi=>by
  obtain⟨k,rfl,hk,_⟩:=(mem_selTo _ _ _).mp hi;omega
theorem plL_pos(ls:L):1≤(plL (RR ls)).length:=List.length_pos_iff.mpr (fun h=>by
  have:(0:Int)∈plL (RR ls):=(mem_plL _ _).mpr (by unfold Tree.verts;simp);rw[h]at this
  cases this)
theorem unkL_range{ls:L}(hg:∀x∈ls,Good x):∀s∈unkL ls,0≤s∧s<8:=fun s hs=>
  Grow.in_range (ends ls) (RR_ok hg).1 (Good.range hg) s ((mem_plL _ _).mp (List.mem_of_mem_drop hs))
def AdjPost(A:Option Addr)(c:Nat)(ls:L)(w:World)(e:Ending)(w':World):Prop:=∃ba uA pA uc pc,e= .returned (.pointer (some ⟨ba,0,none⟩))∧Adj w' ba A uA pA c uc pc ls (usedL ls) (unkL ls)∧w'.cell? ⟨ba,4,none⟩=some (.int .i64 (treesM ls))∧w.heap.size≤ba∧Below w.heap.size w w'
theorem adjustW(A:Option Addr)(c:Nat)(ls:L)(w:World)(hL:Sine.Laid w)(hr0:Kd.C k82 w A ls.length ls)(hc0:ls.length≤c)(hn:ls.length≤12)(hg:∀x∈ls,Good x):
    Calls Tryz.prog 78 #[.slice A ls.length c] w (AdjPost A c ls w):=by
  have HL:=ak hL;have HR:=ak hr0;have HG:=ak hg;have HB:=ak (Below.refl w.heap.size w);have hp1:=plL_pos ls;have hp8:=plL_small hg;have HSE:=ak (plL_sel hg);have hn8:=unkL_len hg;clear hL hr0 hg;go_enter Tryz.func78,Tryz.ntmps78
  go_wp2_with (first
    |(go_at_call 66;(with_reducible refine(place A c ls _ ?s1 ?s2 hc0 hn HG.out (RR ls) rfl).mono ?_);(case s1=>exact HL.out.keep HB.out);(case s2=>exact Kd.C_below HR.out HB.out);rintro e w1 ⟨g,T,cl,rfl,hst,ho,hw⟩;replace HB:=ak (below_step HB.out hw);have HS:=ak hst;clear ho hw hst)
    |(go_at_call 67;have hgs:g<w1.heap.size:=World.block_lt_of_cell? _ _ HS.out.tc;have hq:=placedLegsW A c ls w1 HS.out hgs HS.out.ge (Kd.C_below HR.out HB.out) hc0 hn HG.out;(with_reducible refine hq.mono ?_);clear hq hgs;rintro e w2 ⟨v1,rfl,hu,hw⟩;have HU:=ak (Kd.R_lower hu (below_size HB.out));replace HB:=ak (below_step HB.out hw);replace HS:=ak (HS.out.keep hw);clear hu hw;obtain⟨uA,uC,eu⟩:=Kd.R_slice HU.out;subst eu)
    |(go_at_call 115;have hq:=stationsW w2 HS.out;(with_reducible refine hq.mono ?_);clear hq;rintro e w3 ⟨v2,rfl,hv,hw⟩;rw[HSE.out]at hv;have HP:=ak (Kd.R_lower hv (below_size HB.out));replace HB:=ak (below_step HB.out hw);replace HU:=ak (Kd.R_below HU.out hw);replace HS:=ak (HS.out.keep hw);clear hv hw;obtain⟨pA,pC,ep⟩:=Kd.R_slice HP.out;subst ep;obtain⟨i06,hi06,_,hsz6,_⟩:=info_parts info3;have hcut6:=cut_from (P:=Tryz.prog) 46 3 .i64 Tryz.underlying46 hi06 1 hsz6 pA (plL (RR ls)).length pC 1 (by omega) (by omega);have hr6:=Kd.Q_drop (k:=(1:Int).toNat) (Kd.Q_of_R HP.out) (by omega);obtain⟨A6,hA6⟩:∃A1,A1=(if pC=(1:Int).toNat then pA else(pA:Option Addr).map (·.add ((1:Int).toNat*1))):=⟨_,rfl⟩;obtain⟨c6,hc6⟩:∃c1,c1=pC-(1:Int).toNat:=⟨_,rfl⟩;have hy6:(unkL ls).length=(plL (RR ls)).length-(1:Int).toNat:=(by unfold unkL;rw[List.length_drop];rfl);rw[←hy6,←hA6,←hc6]at hcut6;replace hr6:Kd.Q (Kd.int .i64) 3 w3 w.heap.size _ (.slice A6 (unkL ls).length c6) (unkL ls):=(by rw[hA6,hc6,hy6];exact hr6);clear hy6 hi06 hsz6 hA6 hc6;have HQ:=ak (Kd.Q_reads' hr6);clear hr6)
    |(go_at_call 117;have B4:=below_alloc (Below.refl w3.heap.size w3) (Obj.cells #[Value.pointer (some ⟨g,0,none⟩),Value.slice A ls.length c,Value.slice uA (plcL ls (RR ls) ls.length).length uC,Value.slice A6 (unkL ls).length c6,Value.int IntKind.i64 0] 88);have a0:(w3.alloc (Obj.cells #[Value.pointer (some ⟨g,0,none⟩),Value.slice A ls.length c,Value.slice uA (plcL ls (RR ls) ls.length).length uC,Value.slice A6 (unkL ls).length c6,Value.int IntKind.i64 0] 88)).cell? ⟨w3.heap.size,1,none⟩=some (.slice A ls.length c):=(by go_simp);have a1:(w3.alloc (Obj.cells #[Value.pointer (some ⟨g,0,none⟩),Value.slice A ls.length c,Value.slice uA (plcL ls (RR ls) ls.length).length uC,Value.slice A6 (unkL ls).length c6,Value.int IntKind.i64 0] 88)).cell? ⟨w3.heap.size,2,none⟩=some (.slice uA (usedL ls).length uC):=(by unfold usedL;go_simp);have a2:(w3.alloc (Obj.cells #[Value.pointer (some ⟨g,0,none⟩),Value.slice A ls.length c,Value.slice uA (plcL ls (RR ls) ls.length).length uC,Value.slice A6 (unkL ls).length c6,Value.int IntKind.i64 0] 88)).cell? ⟨w3.heap.size,3,none⟩=some (.slice A6 (unkL ls).length c6):=(by go_simp);have a4:(w3.alloc (Obj.cells #[Value.pointer (some ⟨g,0,none⟩),Value.slice A ls.length c,Value.slice uA (plcL ls (RR ls) ls.length).length uC,Value.slice A6 (unkL ls).length c6,Value.int IntKind.i64 0] 88)).cell? ⟨w3.heap.size,4,none⟩=some (.int .i64 0):=(by go_simp);have z4:(w3.alloc (Obj.cells #[Value.pointer (some ⟨g,0,none⟩),Value.slice A ls.length c,Value.slice uA (plcL ls (RR ls) ls.length).length uC,Value.slice A6 (unkL ls).length c6,Value.int IntKind.i64 0] 88)).frozen? ⟨w3.heap.size,4,none⟩=false:=(by go_simp);generalize w3.alloc (Obj.cells #[Value.pointer (some ⟨g,0,none⟩),Value.slice A ls.length c,Value.slice uA (plcL ls (RR ls) ls.length).length uC,Value.slice A6 (unkL ls).length c6,Value.int IntKind.i64 0] 88)=w4 at *;have HB34:=ak B4;have HB4:=ak (below_step HB.out B4);have HA4:=ak (show Adj w4 w3.heap.size A uA A6 c uC c6 ls (usedL ls) (unkL ls)from⟨a0,a1,a2,Kd.C_below HR.out HB4.out,Kd.C_below (Kd.R_reads' HU.out).2.2 B4,Kd.C_below HQ.out.2.2 B4,HQ.out.2.1⟩);have hwb:=below_size HB.out;clear a0 a1 a2 B4;have hq:=matrixW w3.heap.size A uA A6 c uC c6 ls (usedL ls) (unkL ls) (-1) 0 w4 (HL.out.keep HB4.out) HA4.out HG.out (by omega) (by have:=usedL_len ls;omega) (usedL_range ls) (Or.inl rfl) (by omega) (by omega);(with_reducible refine hq.mono ?_);clear hq;rintro e w5 ⟨bm,R,C,rfl,hm,hw⟩;have HM:=ak hm;have HB5:=ak hw;clear hm hw)
    |(go_at_call 116;have hq:=determinantM bm (unkL ls).length R C (matM ls (unkL ls) (usedL ls) 0 (-1)) w4.heap.size w5 HM.out (by omega) HB5.out.size;(with_reducible refine hq.mono ?_);clear hq;rintro e w6 ⟨rfl,hw⟩;have B6:=HB5.out.trans hw;have y4:=Sine.keepc a4 B6;have x4:=keepz a4 z4 B6;have HB6:=ak (below_step HB4.out B6);have HA6:=ak (HA4.out.keep B6);have HB36:=ak (HB34.out.trans (B6.mono HB34.out.size));clear hw B6 HB5 HB4))
  have B7:Below w3.heap.size w3 (w6.setCell ⟨w3.heap.size,4,none⟩ (.int .i64 (treesM ls))):=HB36.out.setCell (Nat.le_refl _) _;have B8:Below w.heap.size w (w6.setCell ⟨w3.heap.size,4,none⟩ (.int .i64 (treesM ls))):=HB6.out.setCell hwb _
  have HP:AdjPost A c ls w (.returned (.pointer (some ⟨w3.heap.size,0,none⟩))) (w6.setCell ⟨w3.heap.size,4,none⟩ (.int .i64 (treesM ls))):=
    ⟨_,_,_,_,_,rfl,⟨far HA6.out.c1 (offne (by omega)),far HA6.out.c2 (offne (by omega)),far HA6.out.c3 (offne (by omega)),Kd.C_below HR.out B8,Kd.C_below (Kd.R_reads' HU.out).2.2 B7,Kd.C_below HQ.out.2.2 B7,HA6.out.pl⟩,same y4,hwb,B8⟩
  exact bodyPost_ret (v:= .pointer (some ⟨w3.heap.size,0,none⟩)) (by simp[results,Tryz.results78,go_sem]) rfl HP
def coTo(ls:L)(ax:Int):Nat→List Int
  |0=>List.replicate 8 0
  |k+1=>(coTo ls ax k).set (rd (unkL ls) (k:Int)).toNat (coM ls ax k)
theorem coTo_len(ls:L)(ax:Int):∀k,(coTo ls ax k).length=8
  |0=>by simp[coTo]
  |k+1=>by unfold coTo;rw[List.length_set];exact coTo_len ls ax k
def coL(ls:L)(ax:Int):List Int:=coTo ls ax (unkL ls).length
def Lst(l:List Int)(w:World)(e:Ending)(w':World):Prop:=∃v,e= .returned v∧Kd.R (Kd.int .i64) 3 w' w.heap.size (fun _=>True) v l∧Below w.heap.size w w'
theorem coordinatesW (ba:Nat) (lA uA pA:Option Addr) (lc uc pc:Nat) (ls:L) (ax:Int) (w:World) (hL:Sine.Laid w) (hA:Adj w ba lA uA pA lc uc pc ls (usedL ls) (unkL ls)) (hn:ls.length≤12) (hg:∀x∈ls,Good x) (h0:0≤ax) (h2:ax≤2):
    Calls Tryz.prog 90 #[.pointer (some ⟨ba,0,none⟩),.int .i64 ax] w (Lst (coL ls ax) w):=by
  have HA:=ak hA;have HL:=ak hL;have HG:=ak hg;have HB:=ak (Below.refl w.heap.size w);have c3:=hA.c3;have hn8:=unkL_len hg;have HRG:=ak (unkL_range hg);clear hA hL hg;have HU:Aside0 (∀k,coTo ls ax (k+1)=(coTo ls ax k).set (rd (unkL ls) (k:Int)).toNat (coM ls ax k)):=⟨fun _=>rfl⟩;have HZ:Aside0 (coTo ls ax 0=List.replicate (8:Int).toNat 0):=⟨rfl⟩;have HLE:Aside0 (∀k,(coTo ls ax k).length=8):=⟨coTo_len ls ax⟩;have HEND:Aside0 (coL ls ax=coTo ls ax (unkL ls).length):=⟨rfl⟩;go_enter Tryz.func90,Tryz.ntmps90;go_wp2_with ((with_reducible refine gate_dst (N:=8) rfl ?_);refine Kd.R_make (Kd.int .i64) _ 3 rfl (N:=8) rfl 46 _ _ rfl (8:Int) rfl rfl Tryz.underlying46 (.int .i64 0) 8 info3 rfl (by decide) (by omega) 0 (ok:=fun _=>True) (okp:=fun _=>True) rfl (fun _ hk=>hk) trivial (by decide) (by decide) (Below.refl _ _) (Nat.le_refl _) ?_;intro v1 w1 ho hb hg_ hnew_;clear hg_ hnew_;rw[←HZ.out]at ho;have HO:=ak ho;replace HB:=ak hb;clear ho hb;replace c3:=Sine.keepc c3 HB.out);obtain⟨g1,cp,ev,hgb,_⟩:=Kd.R_form HO.out (by rw[HLE.out];omega);subst ev;have e8:(coTo ls ax 0).length=8:=HLE.out 0;rw[e8]at HO ⊢;clear e8
  go_loopw [14] (fun v14 W=>∃(k:Nat),k≤(unkL ls).length∧v14= .int .i64 k∧Aside0 (Kd.R (Kd.int .i64) 3 W w.heap.size (fun _=>True) (.slice (some ⟨g1,0,none⟩) 8 cp) (coTo ls ax k))∧Aside0 (Below w.heap.size w W)) (fun v14 _=>(unkL ls).length-(intOf v14).toNat)
  case atStart=>exact⟨0,Nat.zero_le _,rfl,HO,HB⟩
  case round=>
    obtain⟨k,hk,rfl,HO2,HB2⟩:=hrel;clear HO HB c3;have HO:=HO2;have HB:=HB2;clear HO2 HB2;by_cases hlt:k<(unkL ls).length
    · have k0:(0:Int)≤(k:Int):=by omega
      have k1:(k:Int)<((unkL ls).length:Int):=by omega
      obtain⟨ad,e1,h1⟩:=Kd.at_int (Kd.C_below HA.out.p HB.out) (k:Int) k0 k1;subst e1;rw[Int.toNat_natCast]at h1;have hs:=HRG.out (rd (unkL ls) (k:Int)) (by rw[rd_get _ k hlt];exact List.getElem_mem hlt);obtain⟨s,hs2⟩:=Int.eq_ofNat_of_zero_le hs.1;have HE:=ak (HU.out k);rw[hs2,Int.toNat_natCast]at HE;rw[hs2]at h1 hs;have s0:(0:Int)≤(s:Int):=hs.1;have s1:(s:Int)<8:=hs.2;have s2:(s:Int)<((8:Nat):Int):=hs.2;clear hs hs2;have hdet:coM ls ax k=Elim.det (unkL ls).length 0 1 1 (matM ls (unkL ls) (usedL ls) ax (k:Int)):=rfl;have HD:=ak hdet;clear hdet
      go_wp2_with (first
        |(go_at_call 117;have hq:=matrixW ba lA uA (some ad) lc uc pc ls (usedL ls) (unkL ls) (k:Int) ax wr (HL.out.keep HB.out) (HA.out.keep HB.out) HG.out (by omega) (by have:=usedL_len ls;omega) (usedL_range ls) (Or.inr ⟨k0,k1⟩) h0 h2;(with_reducible refine hq.mono ?_);clear hq;rintro e w5 ⟨bm,R,C,rfl,hm,hw⟩;have HM:=ak hm;have HB5:=ak hw;clear hm hw)
        |(go_at_call 116;have hq:=determinantM bm (unkL ls).length R C (matM ls (unkL ls) (usedL ls) ax (k:Int)) wr.heap.size w5 HM.out (by omega) HB5.out.size;rw[←HD.out]at hq;(with_reducible refine hq.mono ?_);clear hq;rintro e w6 ⟨rfl,hw⟩;have B6:=HB5.out.trans hw;replace HO:=ak (Kd.R_below HO.out B6);have HB6:=ak (below_step HB.out B6);obtain⟨y1,y2⟩:=Kd.R_celln 0 HO.out (s:Int) s0 s2;have HO6:=ak (Kd.R_putn HO.out (s:Int) (coM ls ax k));rw[Int.toNat_natCast]at y1 y2 HO6;clear hw B6 HM HB5))
      exact⟨⟨k+1,by omega,by go_num,(qx2 HO6),⟨HB6.out.setCell hgb _⟩⟩,qz41⟩
    · obtain rfl:k=(unkL ls).length:=by omega
      have HP:=ak (show Lst (coL ls ax) w (.returned (.slice (some ⟨g1,0,none⟩) 8 cp)) wr from⟨_,rfl,(by rw[HEND.out];exact HO.out),HB.out⟩);clear HU HZ HLE HEND;go_wp2;exact bodyPost_ret (v:= .slice (some ⟨g1,0,none⟩) 8 cp) (by simp[results,Tryz.results90,go_sem]) rfl HP.out
end Net
namespace Net
open Go A Plain
open Elim (Mx)
theorem l9Det0(A:Option Addr)(cap lo:Nat)(w:World):
    Calls Tryz.prog 119 #[.slice A 0 cap] w fun e w'=>e= .returned (.int .i64 1)∧Below lo w w':=by
  have HB:=ak (Below.refl lo w);go_enter Tryz.func119,Tryz.ntmps119;go_wp2
  go_loopw [4,5,6] (fun v4 v5 v6 W=>v4= .int .i64 1∧v5= .int .i64 1∧v6= .int .i64 0∧Aside0 (Below lo w W)) (fun _ _ v6 _=>0)
  case atStart=>exact⟨rfl,rfl,rfl,HB⟩
  case round=>
    obtain⟨rfl,rfl,rfl,HB2⟩:=hrel;go_wp2;go_ret;exact⟨rfl,HB2.out⟩
theorem l9DetM{A2:Option Addr}{c2 bm n lo:Nat}{R C:Nat→Nat}{M:Mx}{w:World}(h:0<n→A2=some ⟨bm,0,none⟩∧MatAt w bm n R C M lo)(h8:n≤8):
    Calls Tryz.prog 119 #[.slice A2 n c2] w fun e w'=>e= .returned (.int .i64 (Elim.det n 0 1 1 M))∧Below lo w w':=by
  by_cases h0:0<n
  · obtain⟨rfl,hM⟩:=h h0
    exact l9DetW bm n c2 R C M lo w hM h0 h8
  · obtain rfl:n=0:=by omega
    have e:Elim.det 0 0 1 1 M=1:=by unfold Elim.det wrap64;omega
    rw[e];exact l9Det0 A2 c2 lo w
theorem unknown_ev{ls:L}(hn:ls.length≤12)(hg:∀x∈ls,Good x):Ev (fun k=>spec_l9Unknown.f k ls) (unkL ls):=by
  refine Ev.bind (place_ev ls hn hg (RR ls) rfl) ?_;have:=plL_pos ls;exact Ev.pos (show(1:Int)≤((plL (RR ls)).length:Int) by omega) (Ev.now _)
theorem usedL_100{ls:L}(hn:ls.length≤12):(usedL ls).length≤100:=by have:=usedL_len ls;omega
theorem treesM_eq(ls:L):Elim.det (unkL ls).length 0 1 1 (matM ls (unkL ls) (usedL ls) (-1) (ecol (-1) 0))=treesM ls:=
  Elim.det_same (n:=(unkL ls).length) _ 0 1 1 _ _ (by omega) (fun p q _ hp _ hq=>by
    unfold matM ecol
    rw[if_neg (show¬((0:Int)≤ -1) by omega),if_neg (show¬(q:Int)= -1 by omega),if_neg (show¬(q:Int)= -1 by omega)])
theorem l9TreesW(A:Option Addr)(c:Nat)(ls:L)(w:World)(hr0:Kd.C k82 w A ls.length ls)(hc:ls.length≤c)(hn:ls.length≤12)(hg:∀x∈ls,Good x):
    Calls Tryz.prog 85 #[.slice A ls.length c] w fun e w'=>e= .returned (.int .i64 (treesM ls))∧Below w.heap.size w w':=by
  obtain⟨K1,hU⟩:=unknown_ev hn hg;obtain⟨K2,hP⟩:=l9Legs_ev hn hg;have HU:=ak (hU K1 (Nat.le_refl _));have HP:=ak (show spec_l9Legs.f K2 ls=some (usedL ls)from hP K2 (Nat.le_refl _));have HR:=ak hr0;have HG:=ak hg;have HB:=ak (Below.refl w.heap.size w);have h8:=unkL_len hg;have HT:=ak (treesM_eq ls);clear hr0 hU hP hg;go_enter Tryz.func85,Tryz.ntmps85
  go_wp2_with (first
    |(go_at_call 121;(with_reducible refine(spec_l9Unknown.calls K1 A c ls (unkL ls) _ HR.out hc HU.out).mono ?_);rintro e w1 ⟨v1,rfl,hq,hw⟩;have HQ:=ak hq;replace HB:=ak hw;clear hq hw;obtain⟨uA,uC,eu,_⟩:=Kd.Q_slice HQ.out;subst eu)
    |(go_at_call 120;have hrd:=Kd.Q_reads' HQ.out;have hm:=specMatrixW A uA c uC ls (unkL ls) (usedL ls) (-1) 0 K2 w1 (Kd.C_below HR.out HB.out) hc hrd.2.2 hrd.2.1 HP.out HG.out (by omega) (usedL_100 hn) (usedL_range ls) (Or.inl rfl) (fun h=>by omega);(with_reducible refine hm.mono ?_);clear hm hrd;rintro e w2 ⟨A2,c2,bm,R,C,rfl,hs,hw⟩;have HS:=ak hs;have HBM:=ak hw;clear hs hw HQ)
    |(go_at_call 119;have hd:=l9DetM (c2:=c2) HS.out (by omega);rw[HT.out]at hd;(with_reducible refine hd.mono ?_);clear hd;rintro e w3 ⟨rfl,hw⟩;have HB3:=ak (below_step HB.out (HBM.out.trans hw));clear hw))
  go_ret;exact⟨rfl,HB3.out⟩
theorem l9AdjustW (A0:Option Addr) (c0:Nat) (ls:L) (ax:Int) (w:World) (hr0:Kd.C k82 w A0 ls.length ls) (hc0:ls.length≤c0) (hn:ls.length≤12) (hg:∀x∈ls,Good x) (hx0:0≤ax) (hx2:ax≤2):
    Calls Tryz.prog 86 #[.slice A0 ls.length c0,.int .i64 ax] w (Lst (coL ls ax) w):=by
  obtain⟨K1,hU⟩:=unknown_ev hn hg;obtain⟨K2,hP⟩:=l9Legs_ev hn hg;have HU:=ak (hU K1 (Nat.le_refl _));have HP:=ak (show spec_l9Legs.f K2 ls=some (usedL ls)from hP K2 (Nat.le_refl _));have HR:=ak hr0;have HG:=ak hg;have HB:=ak (Below.refl w.heap.size w);have h8:=unkL_len hg;have HRG:=ak (unkL_range hg);have HCU:Aside0 (∀k,coTo ls ax (k+1)=(coTo ls ax k).set (rd (unkL ls) (k:Int)).toNat (coM ls ax k)):=⟨fun _=>rfl⟩;have HCD:Aside0 (∀k:Nat,Elim.det (unkL ls).length 0 1 1 (matM ls (unkL ls) (usedL ls) ax (ecol ax (k:Int)))=coM ls ax k):=⟨fun k=>by unfold ecol coM;rw[if_pos hx0]⟩;have HZ:Aside0 (coTo ls ax 0=List.replicate (8:Int).toNat 0):=⟨rfl⟩;have HLE:Aside0 (∀k,(coTo ls ax k).length=8):=⟨coTo_len ls ax⟩;have HEND:Aside0 (coL ls ax=coTo ls ax (unkL ls).length):=⟨rfl⟩;clear hr0 hU hP hg;go_enter Tryz.func86,Tryz.ntmps86
  go_wp2_with (first
    |((with_reducible refine gate_dst (N:=8) rfl ?_);refine Kd.R_make (Kd.int .i64) _ 3 rfl (N:=8) rfl 46 _ _ rfl (8:Int) rfl rfl Tryz.underlying46 (.int .i64 0) 8 info3 rfl (by decide) (by omega) 0 (ok:=fun _=>True) (okp:=fun _=>True) rfl (fun _ hk=>hk) trivial (by decide) (by decide) (Below.refl _ _) (Nat.le_refl _) ?_;intro v1 w1 ho hb hg_ hnew_;clear hg_ hnew_;rw[←HZ.out]at ho;have HO:=ak ho;replace HB:=ak hb;clear ho hb;obtain⟨g1,cp,ev,hgb,hgs,_⟩:=Kd.R_form HO.out (by rw[HLE.out];omega);subst ev;have e8:(coTo ls ax 0).length=8:=HLE.out 0;rw[e8]at HO ⊢;clear e8)
    |(go_at_call 121;(with_reducible refine(spec_l9Unknown.calls K1 A0 c0 ls (unkL ls) _ ?s1 hc0 HU.out).mono ?_);(case s1=>exact Kd.C_below HR.out HB.out);rintro e w2 ⟨v2,rfl,hq,hw⟩;obtain⟨uA,uC,eu,_⟩:=Kd.Q_slice hq;subst eu;have HUB:=ak (Kd.Q_base hq);have HRD:=ak (Kd.Q_reads' hq);replace HO:=ak (Kd.R_below HO.out hw);have hsz:=below_size HB.out;replace HB:=ak (below_step HB.out hw);clear hq hw))
  go_loopw [7] (fun v7 W=>∃(j:Nat),j≤(unkL ls).length∧v7= .int .i64 j∧Aside0 (Kd.R (Kd.int .i64) 3 W w.heap.size (fun _=>True) (.slice (some ⟨g1,0,none⟩) 8 cp) (coTo ls ax j))∧Aside0 (Kd.C (Kd.int .i64) W uA (unkL ls).length (unkL ls))∧Aside0 (Below w.heap.size w W)) (fun v7 _=>(unkL ls).length-(intOf v7).toNat)
  case atStart=>exact⟨0,Nat.zero_le _,rfl,HO,⟨HRD.out.2.2⟩,HB⟩
  case round =>
    obtain⟨j,hj,rfl,HO2,HC2,HB3⟩:=hrel;clear HO HB;have HO:=HO2;have HB:=HB3;clear HO2 HB3;by_cases hlt:j<(unkL ls).length
    · have j0:(0:Int)≤(j:Int):=by omega
      have j1:(j:Int)<((unkL ls).length:Int):=by omega
      obtain⟨ad,e1,h1⟩:=Kd.at_int HC2.out (j:Int) j0 j1;subst e1;have hadb:ad.block≠g1:=by have:=HUB.out ad.block rfl;omega
      rw[Int.toNat_natCast]at h1;have hs:=HRG.out (rd (unkL ls) (j:Int)) (by rw[rd_get _ j hlt];exact List.getElem_mem hlt);obtain⟨s,hs2⟩:=Int.eq_ofNat_of_zero_le hs.1;have HRO:=ak (HCU.out j);rw[hs2,Int.toNat_natCast]at HRO;rw[hs2]at h1 hs;have s0:(0:Int)≤(s:Int):=hs.1;have s2:(s:Int)<((8:Nat):Int):=hs.2;have s1:(s:Int)<8:=hs.2;have HRC:=HRD.out.2.1;clear hs hs2;have hadn:(⟨g1,s,none⟩:Addr)≠ad.add j:=fun e=>hadb (by have h:=congrArg Addr.block e;simp[Addr.add]at h;split at h<;>exact h.symm)
      go_wp2_with fail
      go_region_held3 (fun w'=>w'.cell? (ad.add j)=some (.int .i64 (s:Int)))
        (first|exact h1|exact Sine.keepc h1 qz74|exact far (Sine.keepc h1 qz74) hadn|(refine Sine.keepc (w:=wr) h1 ?_<;>((repeat(first|exact Below.refl _ _|apply pw_below_drewN|apply below_drew1|exact HB.out|refine below_step ?_ qz74));done)))
        (first
          |(go_at_call 120;(with_reducible refine(specMatrixW A0 (some ad) c0 uC ls (unkL ls) (usedL ls) ax (j:Int) K2 _ ?s1 hc0 ?s2 HRC HP.out HG.out (by omega) (usedL_100 hn) (usedL_range ls) (Or.inr ⟨hx0,hx2⟩) (fun _=>⟨j0,j1⟩)).mono ?_);(case s1=>exact Kd.C_below HR.out (below_step HB.out (show Below wr.heap.size wr _ from by(repeat(first|exact Below.refl _ _|apply pw_below_drewN|apply below_drew1|exact HB.out|refine below_step ?_ qz74));done)));(case s2=>exact Kd.C_below HC2.out qz13);rintro e w3 ⟨A2,c2,bm,R,C,rfl,hS,hw3⟩;have HS:=ak hS;clear hS)
          | (go_at_call 119;have hd:=l9DetM (c2:=c2) HS.out (by omega);rw[HCD.out]at hd;(with_reducible refine hd.mono ?_);clear hd;rintro e w4 ⟨rfl,hw4⟩
             have hB3:Below wr.heap.size wr w3:=by(repeat(first|exact Below.refl _ _|apply pw_below_drewN|apply below_drew1|exact HB.out|refine below_step ?_ qz74));done
             have hB4:Below wr.heap.size wr w4:=hB3.trans hw4;clear hB3 hw4 hw3;have HO4:=ak (Kd.R_below HO.out hB4);obtain⟨y1,y2⟩:=Kd.R_celln 0 HO4.out (s:Int) s0 s2;have HO5:=ak (Kd.R_putn HO4.out (s:Int) (coM ls ax j));rw[Int.toNat_natCast]at y1 y2 HO5
             have HB4:=ak (below_step HB.out hB4)))
      go_wp2;have HC5:=ak (Kd.C_set (i:=s) (Kd.C_below HC2.out hB4) (fun ad' e=>by obtain rfl:=Option.some.inj e;exact hadb) (.int .i64 (coM ls ax j)));have HB5:=ak (HB4.out.setCell (p:=⟨g1,s,none⟩) hgb (.int .i64 (coM ls ax j)));exact⟨⟨j+1,by omega,by go_num,(by rw[HRO.out];exact HO5),HC5,HB5⟩,qz41⟩
    · obtain rfl:j=(unkL ls).length:=by omega
      have HPp:=ak (show Lst (coL ls ax) w (.returned (.slice (some ⟨g1,0,none⟩) 8 cp)) wr from⟨_,rfl,(by rw[HEND.out];exact HO.out),HB.out⟩);clear HCU HCD HZ HLE HEND;go_wp2;exact bodyPost_ret (v:= .slice (some ⟨g1,0,none⟩) 8 cp) (by simp[results,Tryz.results86,go_sem]) rfl HPp.out
end Net
namespace A
open Net (L Sine.Laid legsB legsB_iff treesM coL l9TreesW l9AdjustW)
def spec_l9Trees.f(l0:List (S82)):Option Int:=if legsB l0=true then some (treesM l0) else none
theorem spec_l9Trees.calls(A0:Option Addr)(c0:Nat)(l0:List (S82))(r:Int)(w:World)(hr0:Kd.C k82 w A0 l0.length l0)(hc0:l0.length≤c0)(h:spec_l9Trees.f l0=some r)(hL:Sine.Laid w):
    Calls Tryz.prog 85 #[.slice A0 l0.length c0] w fun e w'=>e= .returned (.int .i64 r)∧Below w.heap.size w w':=by
  unfold spec_l9Trees.f at h;by_cases hv:legsB l0=true
  · rw[if_pos hv]at h
    obtain rfl:=Option.some.inj h;obtain⟨hg,hn⟩:=legsB_iff.mp hv;exact l9TreesW A0 c0 l0 w hr0 hc0 hn hg
  · rw[if_neg hv]at h;cases h
def spec_l9Adjust.f(l0:List (S82))(a1:Int):Option (List Int):=if legsB l0=true∧(0≤a1∧a1≤2)then some (coL l0 a1) else none
theorem spec_l9Adjust.calls(A0:Option Addr)(c0:Nat)(l0:List (S82))(a1:Int)(r:List Int)(w:World)(hr0:Kd.C k82 w A0 l0.length l0)(hc0:l0.length≤c0)(h:spec_l9Adjust.f l0 a1=some r)(hL:Sine.Laid w):
    Calls Tryz.prog 86 #[.slice A0 l0.length c0,.int .i64 a1] w fun e w'=>∃v0_:Value,e= .returned (v0_)∧Kd.R (Kd.int .i64) 3 w' w.heap.size (fun _=>True) v0_ r∧Below w.heap.size w w':=by
  unfold spec_l9Adjust.f at h;by_cases hv:legsB l0=true∧(0≤a1∧a1≤2)
  · rw[if_pos hv]at h
    obtain rfl:=Option.some.inj h;obtain⟨hg,hn⟩:=legsB_iff.mp hv.1;exact l9AdjustW A0 c0 l0 a1 w hr0 hc0 hn hg hv.2.1 hv.2.2
  · rw[if_neg hv]at h;cases h
end A
end Go.Proofs.YtmgkbhhnchnkcaaGreatDoor
