/- The reference's IsBridge. -/
import Derived.Maps.OwnSet
import Derived.Test.YtcafgpincnkcdaaDoorKFnPlaces6
import Derived.Test.YtcafgpincnkcdaaDoorKFnPlacesU1
set_option maxHeartbeats 8000000
set_option maxRecDepth 100000
set_option linter.unusedSimpArgs false
set_option linter.unusedVariables false
namespace Go.Proofs.YtcafgpincnkcdaaDoor
open Go.RowKit YtcafgpincnkcdaaDoorW.PrintWords
namespace Net
open YtcafgpincnkcdaaDoorW.PrintLast YtcafgpincnkcdaaDoorW.PrintMore A Plain
open Tree (verts legs)
open Grow (Q sweep grow)
theorem Ev.step_ge{α:Type}{g f:Nat→Option α}{r:α}(N:Nat)(h:∀k,N≤k→g (k+1)=f k)(k:Ev f r):Ev g r:=by
  obtain⟨K,hK⟩:=k;refine⟨max N K+1,fun m hm=>?_⟩;obtain⟨m,rfl⟩:∃x,m=x+1:=⟨m-1,by omega⟩
  rw[h m (by omega)];exact hK m (by omega)
theorem has_loop(l:List Int)(n:Int)(hl:l.length≤1000000):∀(d i k:Nat),i+d=l.length→d<k→spec_l1Has.l0 k l n (i:Int)=some (decide (n∈l.drop i)):=by
  intro d
  induction d with
  | zero=>
    intro i k hi hk;obtain⟨k,rfl⟩:∃m,k=m+1:=⟨k-1,by omega⟩
    simp only[spec_l1Has.l0];rw[if_neg (by omega),List.drop_eq_nil_of_le (by omega)];simp
  | succ d ih=>
    intro i k hi hk;obtain⟨k,rfl⟩:∃m,k=m+1:=⟨k-1,by omega⟩
    have hlt:i<l.length:=by omega
    have er:rd l (i:Int)=l[i]:=by
      unfold rd;rw[Int.toNat_natCast,List.getD_eq_getElem?_getD,List.getElem?_eq_getElem hlt];rfl
    have e:wrap64 ((i:Int)+1)=((i+1:Nat):Int):=by rw[w64 (by omega) (by omega)];omega
    rw[List.drop_eq_getElem_cons hlt];simp only[spec_l1Has.l0];by_cases hc:l[i]=n
    · rw[if_pos (by omega),if_pos (by omega),er,if_pos hc,hc]
      simp
    · have hd:decide (n∈l[i]::l.drop (i+1))=decide (n∈l.drop (i+1)):=by rw[decide_eq_decide,List.mem_cons];exact⟨fun h=>h.resolve_left (fun e=>hc e.symm),Or.inr⟩
      rw[if_pos (by omega),if_pos (by omega),er,if_neg hc,e,hd];exact ih (i+1) k (by omega) (by omega)
theorem has_at(l:List Int)(n:Int)(hl:l.length≤1000000)(k:Nat)(hk:l.length<k):spec_l1Has.f k l n=some (decide (n∈l)):=has_loop l n hl l.length 0 k (by omega) hk
theorem has_ev(l:List Int)(n:Int)(hl:l.length≤1000000):Ev (fun k=>spec_l1Has.f k l n) (decide (n∈l)):=⟨l.length+1,fun k hk=>has_at l n hl k hk⟩
theorem put_split(n:Int):∀(p s:List Int),(∀x∈p,x<n)→(∀y∈s.head?,n<y)→Sort.put (p++s) n=p++n::s
  |[],[],_,_=>rfl
  | [],y::s,_,h=>by
    have:=h y rfl;simp only[List.nil_append,Sort.put];rw[if_neg (by omega),if_neg (by omega)]
  | x::p,s,h,hs=>by
    have:=h x List.mem_cons_self;simp only[List.cons_append,Sort.put];rw[if_pos this,put_split n p s (fun x hx=>h x (List.mem_cons_of_mem _ hx)) hs]
theorem put_loop (l:List Int) (n:Int) (hl:l.length≤1000000) (ha:Sort.Asc l) (hn:n∉l):∀(d i k:Nat),i+d=l.length→d<k→(∀x∈l.take i,x<n)→spec_l1Put.l0 k l n (i:Int)=some (Sort.put l n):=by
  intro d
  induction d with
  | zero=>
    intro i k hi hk h;obtain⟨k,rfl⟩:∃m,k=m+1:=⟨k-1,by omega⟩
    have e1:Sort.put l n=l.take i++n::l.drop i:=by
      have:=put_split n (l.take i) (l.drop i) h (by rw[List.drop_eq_nil_of_le (by omega)];simp)
      rwa [List.take_append_drop]at this
    simp only[spec_l1Put.l0];rw[if_neg (by omega)];simp only[Option.bind_some,Int.toNat_natCast];rw[if_pos (by omega),if_pos (by omega),if_pos qz90,if_pos qz90,if_pos qz90,e1];simp
  | succ d ih=>
    intro i k hi hk h;obtain⟨k,rfl⟩:∃m,k=m+1:=⟨k-1,by omega⟩
    have hlt:i<l.length:=by omega
    have er:rd l (i:Int)=l[i]:=by
      unfold rd;rw[Int.toNat_natCast,List.getD_eq_getElem?_getD,List.getElem?_eq_getElem hlt];rfl
    have e:wrap64 ((i:Int)+1)=((i+1:Nat):Int):=by rw[w64 (by omega) (by omega)];omega
    have hne:l[i]≠n:=fun e=>hn (e▸List.getElem_mem hlt)
    by_cases hc:l[i]<n
    · simp only[spec_l1Put.l0]
      rw[if_pos (by omega),if_pos (by omega),er,if_pos hc,e];refine ih (i+1) k (by omega) (by omega) (fun x hx=>?_)
      · rw[List.take_succ_eq_append_getElem hlt,List.mem_append,List.mem_singleton]at hx
        rcases hx with hx|rfl
        · exact h x hx
        · exact hc
    · have e1:Sort.put l n=l.take i++n::l.drop i:=by
        have:=put_split n (l.take i) (l.drop i) h (by
          rw[List.drop_eq_getElem_cons hlt];intro y hy;simp only[List.head?_cons,Option.mem_def,Option.some.injEq]at hy
          omega)
        rwa [List.take_append_drop]at this
      simp only[spec_l1Put.l0];rw[if_pos (by omega),if_pos (by omega),er,if_neg hc,if_neg hne];simp only[Option.bind_some,Int.toNat_natCast];rw[if_pos (by omega),if_pos qz90,if_pos qz90,if_pos qz90,e1];simp
theorem put_at(l:List Int)(n:Int)(hl:l.length≤1000000)(ha:Sort.Asc l)(hn:n∉l)(k:Nat)(hk:l.length<k):spec_l1Put.f k l n=some (Sort.put l n):=put_loop l n hl ha hn l.length 0 k (by omega) hk (by simp)
theorem div_eq(a:Int)(h0: -1000000000≤a)(h1:a≤1000000000):spec_l2Div.f a 1000=some (rnd a):=by
  unfold spec_l2Div.f rnd;have e2:wrap64 (2*1000)=2000:=by unfold wrap64;omega
  by_cases h:a<0
  · have e1:wrap64 ((-2)*a)=2*(-a):=by unfold wrap64;omega
    have e3:wrap64 (2*(-a)+1000)=2*(-a)+1000:=by unfold wrap64;omega
    have e4:Int.tdiv (2*(-a)+1000) 2000=(2*(-a)+1000)/2000:=Int.tdiv_eq_ediv_of_nonneg (by omega);have e5:wrap64 ((2*(-a)+1000)/2000)=(2*(-a)+1000)/2000:=by unfold wrap64;omega
    have e6:wrap64 (-((2*(-a)+1000)/2000))= -((2*(-a)+1000)/2000):=by unfold wrap64;omega
    rw[if_pos h,e2,if_neg (by decide),e1,e3,e4,e5,e6,if_pos h]
  · have e1:wrap64 (2*a)=2*a:=by unfold wrap64;omega
    have e3:wrap64 (2*a+1000)=2*a+1000:=by unfold wrap64;omega
    have e4:Int.tdiv (2*a+1000) 2000=(2*a+1000)/2000:=Int.tdiv_eq_ediv_of_nonneg (by omega);have e5:wrap64 ((2*a+1000)/2000)=(2*a+1000)/2000:=by unfold wrap64;omega
    rw[if_neg h,e2,if_neg (by decide),e1,e3,e4,e5,if_neg h]
theorem table_eq:spec_l2Table.f=some Sine.tab:=rfl
theorem sine_eq (a:Int) (h0: -1000000≤a) (h1:a≤1000000):spec_l2Sine.f a=some (Sine.f a):=by
  have hm:Int.tmod (wrap64 (Int.tmod a 360+360)) 360=a % 360:=by
    have e0:Int.tmod a 360=a % 360∨Int.tmod a 360=a % 360-360:=by
      rw[Int.tmod_eq_emod];split
      · left;omega
      · right;simp
    have e1:wrap64 (Int.tmod a 360+360)=Int.tmod a 360+360:=by unfold wrap64;omega
    rw[e1,Int.tmod_eq_emod_of_nonneg (by omega)];omega
  unfold spec_l2Sine.f Sine.f;simp only[hm];have g0:0≤a % 360:=by omega
  have g1:a % 360<360:=by omega
  generalize a % 360=d at *;have hlen:(Sine.tab.length:Int)=91:=rfl;have w1:wrap64 (180-d)=180-d:=by unfold wrap64;omega
  have w2:wrap64 (d-180)=d-180:=by unfold wrap64;omega
  have w3:wrap64 (360-d)=360-d:=by unfold wrap64;omega
  have hb:∀i:Nat,wrap64 (-(Sine.tab.getD i 0))= -(Sine.tab.getD i 0):=fun i=>by have:=Sine.getD_bound i;unfold wrap64;omega
  by_cases c1:d≤90
  · rw[if_pos c1,table_eq,Option.bind_some,if_pos g0,if_pos (by omega),if_pos (by omega)]
    unfold Sine.s rd;rw[if_pos c1]
  · rw [if_neg c1]
    by_cases c2:d≤180
    · rw[if_pos c2,table_eq,Option.bind_some,w1,if_pos (by omega),if_pos (by omega),if_pos c2]
      unfold Sine.s rd;rw[if_neg c1]
    · rw[if_neg c2,if_neg c2]
      by_cases c3:d≤270
      · rw[if_pos c3,table_eq,Option.bind_some,w2,if_pos (by omega),if_pos (by omega)]
        unfold Sine.s rd;rw[if_pos (by omega),hb]
      · rw[if_neg c3,table_eq,Option.bind_some,w3,if_pos (by omega),if_pos (by omega)]
        unfold Sine.s rd;rw[if_neg (by omega),hb,show 180-(d-180)=360-d by omega]
theorem cosine_eq(a:Int)(h0: -100000≤a)(h1:a≤100000):spec_l2Cosine.f a=some (Sine.f (a+90)):=by
  unfold spec_l2Cosine.f;rw[w64 (by omega) (by omega),sine_eq _ (by omega) (by omega)];rfl
theorem shift_eq(x:S49)(h:Good x):spec_l4Shift.f x.f0 x.f1 x.f2 x.f3 x.f4=some ((shift x).f0,(shift x).f1,(shift x).f2):=by
  obtain⟨_,_,_,h2,h3,h4⟩:=h;have a:=part_bound x.f2 x.f4 500 (by omega) (by omega);have p1:=prod_bound x.f2 (x.f4+90) (by omega) (by omega);have p2:=prod_bound x.f2 x.f4 (by omega) (by omega);have p3:=prod_bound (part x.f2 x.f4).1 (x.f3+90) (by omega) (by omega);have p4:=prod_bound (part x.f2 x.f4).1 x.f3 (by omega) (by omega);have ep:rnd (x.f2*Sine.f (x.f4+90))=(part x.f2 x.f4).1:=rfl;unfold spec_l4Shift.f
  rw[cosine_eq _ (by omega) (by omega),Option.bind_some,w64 (by omega) (by omega),div_eq _ (by omega) (by omega),Option.bind_some,ep,sine_eq _ (by omega) (by omega),Option.bind_some,w64 (by omega) (by omega),div_eq _ (by omega) (by omega),Option.bind_some,
    cosine_eq _ (by omega) (by omega),Option.bind_some,w64 (by omega) (by omega),div_eq _ (by omega) (by omega),Option.bind_some,sine_eq _ (by omega) (by omega),Option.bind_some,w64 (by omega) (by omega),div_eq _ (by omega) (by omega),Option.bind_some]
  rfl
def plL:Q→List Int
  |[]=>[0]
  |(_,_,s)::q=>Sort.put (plL q) s
def trL:Q→List Int
  |[]=>[]
  |(i,_,_)::q=>Sort.put (trL q) i
def XL(ls:L)(q:Q):List S31:=(List.range 8).map (Xq ls q)
theorem mem_plL(q:Q)(s:Int):s∈plL q↔s∈verts 0 q:=by
  induction q with
  |nil=>simp[plL,verts]
  | cons x q ih=>
    obtain⟨i,u,t⟩:=x;simp only[plL,Sort.mem_put,ih,verts,List.map_cons,List.mem_cons]
    constructor
    · rintro(h|h|h)
      · exact Or.inr (Or.inl h)
      · exact Or.inl h
      · exact Or.inr (Or.inr h)
    · rintro(h|h|h)
      · exact Or.inr (Or.inl h)
      · exact Or.inl h
      · exact Or.inr (Or.inr h)
theorem mem_trL(q:Q)(i:Int):i∈trL q↔i∈legs q:=by
  induction q with
  |nil=>simp[trL,legs]
  | cons x q ih=>
    obtain⟨j,u,t⟩:=x;simp only[trL,Sort.mem_put,ih,legs,List.map_cons,List.mem_cons]
theorem put_len_le(l:List Int)(n:Int):(Sort.put l n).length≤l.length+1:=by
  induction l with
  |nil=>simp[Sort.put]
  | cons x l ih=>
    simp only[Sort.put];split
    · simp;omega
    · split<;>simp
theorem asc_plL(q:Q):Sort.Asc (plL q):=by
  induction q with
  |nil=>simp[plL,Sort.Asc]
  |cons x q ih=>exact Sort.asc_put ih _
theorem asc_trL(q:Q):Sort.Asc (trL q):=by
  induction q with
  |nil=>simp[trL,Sort.Asc]
  |cons x q ih=>exact Sort.asc_put ih _
theorem plL_len(q:Q):(plL q).length≤q.length+1:=by
  induction q with
  |nil=>simp[plL]
  | cons x q ih=>
    obtain⟨i,u,s⟩:=x;have:=put_len_le (plL q) s;simp only[plL,List.length_cons];omega
theorem trL_len(q:Q):(trL q).length≤q.length:=by
  induction q with
  |nil=>simp[trL]
  | cons x q ih=>
    obtain⟨i,u,s⟩:=x;have:=put_len_le (trL q) i;simp only[trL,List.length_cons];omega
theorem XL_len(ls:L)(q:Q):(XL ls q).length=8:=by simp[XL]
theorem XL_at(ls:L)(q:Q)(a:Nat)(h:a<8):rd_T31 (XL ls q) (a:Int)=Xq ls q a:=by
  unfold rd_T31 XL;rw[Int.toNat_natCast,List.getD_eq_getElem?_getD,List.getElem?_map,List.getElem?_range h];rfl
theorem XL_set(ls:L)(q q':Q)(d:Nat)(v:S31)(h:∀i,i<8→Xq ls q' i=if i=d then v else Xq ls q i):(XL ls q).set d v=XL ls q':=by
  apply List.ext_getElem
  · simp[XL]
  · intro i h1 h2
    rw[List.getElem_set];simp only[XL,List.getElem_map,List.getElem_range];have hi:i<8:=by simpa[XL]using h2
    rw[h i hi];by_cases e:i=d
    · subst e;simp
    · rw[if_neg e,if_neg (fun e'=>e e'.symm)]
theorem leg_good{ls:L}(hg:∀x∈ls,Good x)(i:Nat)(hi:i<ls.length):Good (leg ls (i:Int)):=hg _ (by
  unfold leg rd_T49;rw[Int.toNat_natCast,List.getD_eq_getElem?_getD,List.getElem?_eq_getElem hi]
  exact List.getElem_mem _)
theorem one_leg (ls:L) (hn:ls.length≤12) (hg:∀x∈ls,Good x) (q:Q) (ok:Grow.Ok (ends ls) ls.length q) (i:Nat) (hi:i<ls.length) (b:Bool) (hb:q.length≤7) (r:List S31×List Int×List Int)
    (h:∀b',b'=(b || decide (q.length<(Grow.step (ends ls) q i).length))→Ev (fun k=>spec_l6Place.l1 k ls (XL ls (Grow.step (ends ls) q i)) (plL (Grow.step (ends ls) q i)) (trL (Grow.step (ends ls) q i)) b' ((i+1:Nat):Int)) r):
    Ev (fun k=>spec_l6Place.l1 k ls (XL ls q) (plL q) (trL q) b (i:Int)) r:=by
  have b1:(i:Int)<(ls.length:Int):=Int.ofNat_lt.mpr hi;have b0:(0:Int)≤(i:Int):=Int.natCast_nonneg i;have e:wrap64 ((i:Int)+1)=((i+1:Nat):Int):=by rw[w64 (by omega) (by omega)];omega
  have hgood:=leg_good hg i hi;have hE:ends ls i=((leg ls i).f0,(leg ls i).f1):=rfl;have hrd:rd_T49 ls (i:Int)=leg ls i:=rfl;have hsh:=shift_eq _ hgood;generalize hx:leg ls (i:Int)=x at hgood hE hrd hsh;obtain⟨⟨a0,a8⟩,⟨d0,d8⟩,had,_⟩:=hgood;obtain⟨a,ha⟩:=Int.eq_ofNat_of_zero_le a0;obtain⟨d,hd⟩:=Int.eq_ofNat_of_zero_le d0;rw[ha,hd]at had hE;have ka0:(0:Int)≤(a:Int):=Int.natCast_nonneg a;have kd0:(0:Int)≤(d:Int):=Int.natCast_nonneg d;rw[ha]at a8;rw[hd]at d8;have na8:a<8:=Int.ofNat_lt.mp a8;have nd8:d<8:=Int.ofNat_lt.mp d8;have hlen:((XL ls q).length:Int)=8:=by rw[XL_len];rfl
  have ka1:(a:Int)<((XL ls q).length:Int):=by rw[hlen];exact Int.ofNat_lt.mpr na8
  have kd1:(d:Int)<((XL ls q).length:Int):=by rw[hlen];exact Int.ofNat_lt.mpr nd8
  have l1:(plL q).length≤8:=Nat.le_trans (plL_len q) (Nat.succ_le_succ hb);have l2:(trL q).length≤7:=Nat.le_trans (trL_len q) hb;have l1m:(plL q).length≤1000000:=Nat.le_trans l1 (by decide);have l2m:(trL q).length≤1000000:=Nat.le_trans l2 (by decide);have l1k:∀{k:Nat},20≤k→(plL q).length<k:=fun hk=>Nat.lt_of_le_of_lt l1 (Nat.lt_of_lt_of_le (by decide:8<20) hk)
  have l2k:∀{k:Nat},20≤k→(trL q).length<k:=fun hk=>Nat.lt_of_le_of_lt l2 (Nat.lt_of_lt_of_le (by decide:7<20) hk)
  have A1:=fun k (hk:20≤k)=>has_at (plL q) (a:Int) l1m k (l1k hk)
  have D1:=fun k (hk:20≤k)=>has_at (plL q) (d:Int) l1m k (l1k hk)
  simp only[mem_plL]at A1 D1
  have hitr:¬((a:Int)∈verts 0 q∧(d:Int)∈verts 0 q)→(i:Int)∉trL q:=by
    intro c h;rw[mem_trL]at h;have:=ok.legs_ends _ h;rw[hE]at this;exact c ⟨this.1,this.2.1⟩
  have na:∀{c:Nat},(c:Int)∉verts 0 q→(c:Int)∉plL q:=fun h h'=>h ((mem_plL q _).mp h')
  by_cases pa:(a:Int)∈verts 0 q
  · by_cases pd:(d:Int)∈verts 0 q
    · have hs:Grow.step (ends ls) q i=q:=by
        unfold Grow.step;rw[hE,if_neg (fun c=>c.2 pd),if_neg (fun c=>c.2 pa)]
      rw[hs]at h;refine Ev.step_ge 20 (f:=fun k=>spec_l6Place.j2 k ls (XL ls q) (plL q) (trL q) b (i:Int) (a:Int) (d:Int) false) (fun k hk=>?_) ?_
      · simp only[spec_l6Place.l1]
        rw[if_pos b1,if_pos b0,hrd,ha,hd,A1 k hk,Option.bind_some,decide_eq_true pa,if_pos rfl,D1 k hk,Option.bind_some,decide_eq_true pd];rfl
      refine Ev.step_ge 20 (f:=fun k=>spec_l6Place.j3 k ls (XL ls q) (plL q) (trL q) b (i:Int) (a:Int) (d:Int) false) (fun k hk=>?_) ?_
      · simp only[spec_l6Place.j2]
        rw[if_neg (by decide),D1 k hk,Option.bind_some,decide_eq_true pd,if_pos rfl,A1 k hk,Option.bind_some,decide_eq_true pa];rfl
      refine Ev.step_ge 20 (fun k hk=>?_) (h b (by simp));simp only[spec_l6Place.j3];rw[if_neg (by decide),e]
    · have hs:Grow.step (ends ls) q i=((i:Int),(a:Int),(d:Int))::q:=by
        unfold Grow.step;rw[hE,if_pos ⟨pa,pd⟩]
      rw[hs]at h;refine Ev.step_ge 20 (f:=fun k=>spec_l6Place.j2 k ls (XL ls q) (plL q) (trL q) b (i:Int) (a:Int) (d:Int) true) (fun k hk=>?_) ?_
      · simp only[spec_l6Place.l1]
        rw[if_pos b1,if_pos b0,hrd,ha,hd,A1 k hk,Option.bind_some,decide_eq_true pa,if_pos rfl,D1 k hk,Option.bind_some,decide_eq_false pd];rfl
      refine Ev.step_ge 20 (fun k hk=>?_) (h true (by simp));simp only[spec_l6Place.j2];rw[if_pos trivial,if_pos ka0,if_pos ka1,if_pos b0,if_pos b1,hrd,hsh,Option.bind_some];simp only[spec_l4Plus.f,Option.bind_some];rw[if_pos kd0,if_pos kd1,put_at _ _ l1m (asc_plL q) (na pd) k (l1k hk),Option.bind_some,put_at _ _ l2m (asc_trL q) (hitr (fun c=>pd c.2)) k (l2k hk),Option.bind_some,e,XL_at _ _ _ na8,Int.toNat_natCast];rw[←XL_set ls q (((i:Int),(a:Int),(d:Int))::q) d (plus (Xq ls q a) (shift x) 1) (fun s _=>Xq_fore hE hx s)];rfl
  · by_cases pd:(d:Int)∈verts 0 q
    · have hs:Grow.step (ends ls) q i=((i:Int),(d:Int),(a:Int))::q:=by
        unfold Grow.step;rw[hE,if_neg (fun c=>pa c.1),if_pos ⟨pd,pa⟩]
      rw[hs]at h;refine Ev.step_ge 20 (f:=fun k=>spec_l6Place.j2 k ls (XL ls q) (plL q) (trL q) b (i:Int) (a:Int) (d:Int) false) (fun k hk=>?_) ?_
      · simp only[spec_l6Place.l1]
        rw[if_pos b1,if_pos b0,hrd,ha,hd,A1 k hk,Option.bind_some,decide_eq_false pa,if_neg (by decide)]
      refine Ev.step_ge 20 (f:=fun k=>spec_l6Place.j3 k ls (XL ls q) (plL q) (trL q) b (i:Int) (a:Int) (d:Int) true) (fun k hk=>?_) ?_
      · simp only[spec_l6Place.j2]
        rw[if_neg (by decide),D1 k hk,Option.bind_some,decide_eq_true pd,if_pos rfl,A1 k hk,Option.bind_some,decide_eq_false pa];rfl
      refine Ev.step_ge 20 (fun k hk=>?_) (h true (by simp));simp only[spec_l6Place.j3];rw[if_pos trivial,if_pos kd0,if_pos kd1,if_pos b0,if_pos b1,hrd,hsh,Option.bind_some];simp only[spec_l4Plus.f,Option.bind_some];rw[if_pos ka0,if_pos ka1,put_at _ _ l1m (asc_plL q) (na pa) k (l1k hk),Option.bind_some,put_at _ _ l2m (asc_trL q) (hitr (fun c=>pa c.1)) k (l2k hk),Option.bind_some,e,XL_at _ _ _ nd8,Int.toNat_natCast];rw[←XL_set ls q (((i:Int),(d:Int),(a:Int))::q) a (plus (Xq ls q d) (shift x) (-1)) (fun s _=>Xq_back hE had hx s)];rfl
    · have hs:Grow.step (ends ls) q i=q:=by
        unfold Grow.step;rw[hE,if_neg (fun c=>pa c.1),if_neg (fun c=>pd c.1)]
      rw[hs]at h;refine Ev.step_ge 20 (f:=fun k=>spec_l6Place.j2 k ls (XL ls q) (plL q) (trL q) b (i:Int) (a:Int) (d:Int) false) (fun k hk=>?_) ?_
      · simp only[spec_l6Place.l1]
        rw[if_pos b1,if_pos b0,hrd,ha,hd,A1 k hk,Option.bind_some,decide_eq_false pa,if_neg (by decide)]
      refine Ev.step_ge 20 (f:=fun k=>spec_l6Place.j3 k ls (XL ls q) (plL q) (trL q) b (i:Int) (a:Int) (d:Int) false) (fun k hk=>?_) ?_
      · simp only[spec_l6Place.j2]
        rw[if_neg (by decide),D1 k hk,Option.bind_some,decide_eq_false pd,if_neg (by decide)]
      refine Ev.step_ge 20 (fun k hk=>?_) (h b (by simp));simp only[spec_l6Place.j3];rw[if_neg (by decide),e]
theorem Good.range{ls:L}(hg:∀x∈ls,Good x):∀i:Int,0≤i→i<ls.length→0≤(ends ls i).1∧(ends ls i).1<8∧0≤(ends ls i).2∧(ends ls i).2<8:=by
  intro i h0 h1;obtain⟨k,rfl⟩:=Int.eq_ofNat_of_zero_le h0;have h:=leg_good hg k (Int.ofNat_lt.mp h1);exact⟨h.1.1,h.1.2,h.2.1.1,h.2.1.2⟩
theorem round_ev(ls:L)(hn:ls.length≤12)(hg:∀x∈ls,Good x)(r:List S31×List Int×List Int)(q0:Q):∀(d i:Nat) (q:Q),i+d=ls.length→Grow.Ok (ends ls) ls.length q→q0.length≤q.length →
    (Ev (fun k=>spec_l6Place.l0 k ls (XL ls (sweep (ends ls) d i q)) (plL (sweep (ends ls) d i q)) (trL (sweep (ends ls) d i q)) (decide (q0.length<(sweep (ends ls) d i q).length))) r)→
    Ev (fun k=>spec_l6Place.l1 k ls (XL ls q) (plL q) (trL q) (decide (q0.length<q.length)) (i:Int)) r:=by
  intro d
  induction d with
  | zero=>
    intro i q hi ok hq h;refine Ev.step (fun k=>?_) h;simp only[spec_l6Place.l1];rw[if_neg (fun c=>by have:=Int.ofNat_lt.mp c;omega)];rfl
  | succ d ih=>
    intro i q hi ok hq h;refine one_leg ls hn hg q ok i (by omega) _ (ok.len _ (Good.range hg)) r (fun b' hb'=>?_);have hl:=Grow.step_len (ends ls) q i
    have hb2:b'=decide (q0.length<(Grow.step (ends ls) q i).length):=by
      rw[hb',←Bool.decide_or,decide_eq_decide];omega
    rw[hb2];exact ih (i+1) _ (by omega) (ok.step _ (by omega) (by omega)) (by omega) h
theorem rounds_ev (ls:L) (hn:ls.length≤12) (hg:∀x∈ls,Good x) (R:Q):∀(f:Nat) (q:Q),Grow.Ok (ends ls) ls.length q→8≤f+q.length→grow (ends ls) ls.length f q=R→Ev (fun k=>spec_l6Place.l0 k ls (XL ls q) (plL q) (trL q) true) (XL ls R,plL R,trL R):=by
  intro f
  induction f with
  | zero=>
    intro q ok h8 hR;have:=ok.len _ (Good.range hg);omega
  | succ f ih=>
    intro q ok h8 hR;refine Ev.step (f:=fun k=>spec_l6Place.l1 k ls (XL ls q) (plL q) (trL q) (decide (q.length<q.length)) ((0:Nat):Int)) (fun k=>?_) ?_
    · simp only[spec_l6Place.l0]
      rw[if_pos trivial,decide_eq_false (Nat.lt_irrefl _)];rfl
    · refine round_ev ls hn hg _ q ls.length 0 q (by omega) ok (Nat.le_refl _) ?_
      rw[grow]at hR;have hl:=Grow.sweep_len (ends ls) ls.length 0 q;by_cases c:(sweep (ends ls) ls.length 0 q).length=q.length
      · rw[if_pos c]at hR
        have hs:=(Grow.sweep_same (ends ls) c).1;have e0:sweep (ends ls) ls.length ((0:Nat):Int) q=q:=hs;rw[e0,decide_eq_false (Nat.lt_irrefl _),hR];refine Ev.step (f:=fun _=>some (XL ls R,plL R,trL R)) (fun k=>?_) (Ev.now _);simp only[spec_l6Place.l0];rw[if_neg (by decide)]
      · rw[if_neg c]at hR
        have e1:decide (q.length<(sweep (ends ls) ls.length ((0:Nat):Int) q).length)=true:=decide_eq_true (by
          show q.length<(sweep (ends ls) ls.length 0 q).length
          omega)
        rw[e1];exact ih _ (ok.sweep _ (by omega) (by omega)) (by show 8≤f+(sweep (ends ls) ls.length 0 q).length;omega) hR
theorem place_ev(ls:L)(hn:ls.length≤12)(hg:∀x∈ls,Good x)(R:Q)(hR:grow (ends ls) ls.length 8 []=R):Ev (fun k=>spec_l6Place.f k ls) (XL ls R,plL R,trL R):=by
  refine Ev.congr (f:=fun k=>spec_l6Place.l0 k ls (XL ls []) (plL []) (trL []) true) (fun k=>?_) (rounds_ev ls hn hg R 8 [] (Grow.Ok.nil _ _) (by simp) hR);unfold spec_l6Place.f;rw[if_pos (by decide)];rfl
instance:DecidablePred Good:=fun x=>by unfold Good;infer_instance
theorem within_eq(x a b:Int):impl_within.f x a b=some (decide (a≤x∧x≤b)):=by
  unfold impl_within.f;by_cases h:x≥a
  · rw[if_pos h];congr 1;rw[decide_eq_decide];omega
  · rw[if_neg h,decide_eq_false (by omega)]
theorem IsLeg_eq (x:S49):impl_IsLeg.f x.f0 x.f1 x.f2 x.f3 x.f4=some (decide (Good x)):=by
  unfold impl_IsLeg.f impl_isStation.f impl_isBearing.f;simp only[within_eq,Option.bind_some];by_cases h0:0≤x.f0∧x.f0≤7
  · rw [decide_eq_true h0,if_pos rfl]
    by_cases h1:0≤x.f1∧x.f1≤7
    · rw [decide_eq_true h1,if_pos rfl]
      by_cases h2:x.f0=x.f1
      · rw[if_pos h2,decide_eq_false (fun c=>c.2.2.1 h2)]
      · rw [if_neg h2]
        by_cases h3:1≤x.f2∧x.f2≤500
        · rw[decide_eq_true h3,if_pos rfl]
          by_cases h4:0≤x.f3∧x.f3≤359
          · rw[decide_eq_true h4,if_pos rfl]
            congr 1
            rw[decide_eq_decide];exact⟨fun c=>⟨⟨h0.1,by omega⟩,⟨h1.1,by omega⟩,h2,h3,h4,c⟩,fun c=>c.2.2.2.2.2⟩
          · rw[decide_eq_false h4,if_neg (by decide),decide_eq_false (fun c=>h4 c.2.2.2.2.1)]
        · rw[decide_eq_false h3,if_neg (by decide),decide_eq_false (fun c=>h3 c.2.2.2.1)]
    · rw[decide_eq_false h1,if_neg (by decide),decide_eq_false (fun c=>h1 ⟨c.2.1.1,(by have:=c.2.1.2;omega)⟩)]
  · rw[decide_eq_false h0,if_neg (by decide),decide_eq_false (fun c=>h0 ⟨c.1.1,(by have:=c.1.2;omega)⟩)]
theorem l4Leg_eq(x:S49):spec_l4Leg.f x.f0 x.f1 x.f2 x.f3 x.f4=some (decide (Good x)):=IsLeg_eq x
def legsB(ls:L):Bool:=decide ((∀x∈ls,Good x)∧ls.length≤12)
theorem legsB_all(ls:L):(if allFrom (fun i=>decide (Good (ls.getD i z49))) 0 ls.length=true then some (decide ((ls.length:Int)≤12)) else some false)=some (legsB ls):=by
  rw[allFrom_all ls z49 (fun x=>decide (Good x))];unfold legsB;by_cases h:∀x∈ls,Good x
  · rw[if_pos (by simpa using h)]
    congr 1
    rw[decide_eq_decide];exact⟨fun c=>⟨h,by omega⟩,fun c=>by have:=c.2;omega⟩
  · rw[if_neg (by simpa using h),decide_eq_false (fun c=>h c.1)]
theorem areLegs_ev(ls:L)(hb:ls.length≤140737488351232):Ev (fun k=>impl_areLegs.f k ls) (legsB ls):=by
  obtain⟨K,hK⟩:=all_ev (fun i=>decide (Good (ls.getD i z49))) ls.length hb (fun k i=>impl_areLegs.l0 k ls ls (ls.length:Int) i) (some (decide ((ls.length:Int)≤12))) (by
      intro k i hi;simp only[impl_areLegs.l0];rw[if_pos (by omega),if_pos (by omega),if_pos (by omega),IsLeg_eq,Option.bind_some]
      rfl) (by
      intro k;simp only[impl_areLegs.l0]
      rw[if_neg (by omega)])
  refine⟨K,fun k hk=>?_⟩;have:=hK k hk;rw[legsB_all]at this;exact this
theorem l4Legs_ev(ls:L)(hb:ls.length≤140737488351232):Ev (fun k=>spec_l4Legs.f k ls) (legsB ls):=by
  obtain⟨K,hK⟩:=all_ev (fun i=>decide (Good (ls.getD i z49))) ls.length hb (fun k i=>spec_l4Legs.l0 k ls i) (some (decide ((ls.length:Int)≤12))) (by
      intro k i hi;simp only[spec_l4Legs.l0];rw[if_pos (by omega),if_pos (by omega),l4Leg_eq,Option.bind_some]
      rfl) (by
      intro k;simp only[spec_l4Legs.l0]
      rw[if_neg (by omega)])
  refine⟨K,fun k hk=>?_⟩;have:=hK k hk;rw[legsB_all]at this;exact this
def RR(ls:L):Q:=grow (ends ls) ls.length 8 []
theorem RR_ok{ls:L}(hg:∀x∈ls,Good x):Grow.Ok (ends ls) ls.length (RR ls)∧∀i:Int,0≤i→i<ls.length→((ends ls i).1∈verts 0 (RR ls)↔(ends ls i).2∈verts 0 (RR ls)):=by
  have h:=Grow.grow_end (ends ls) (Good.range hg) 8 [] (Grow.Ok.nil _ _) (by simp);exact⟨h.1,h.2.2⟩
theorem RR_len{ls:L}(hg:∀x∈ls,Good x):(RR ls).length≤7:=(RR_ok hg).1.len _ (Good.range hg)
theorem plL_small{ls:L}(hg:∀x∈ls,Good x):(plL (RR ls)).length≤8:=Nat.le_trans (plL_len _) (Nat.succ_le_succ (RR_len hg))
theorem trL_small{ls:L}(hg:∀x∈ls,Good x):(trL (RR ls)).length≤7:=Nat.le_trans (trL_len _) (RR_len hg)
theorem Pq_eq(q:Q)(a:Nat):Pq q a=decide ((a:Int)∈plL q):=by
  unfold Pq;rw[decide_eq_decide,mem_plL]
theorem Bq_eq(q:Q)(a:Nat):Bq q a=decide ((a:Int)∈trL q):=by
  unfold Bq;rw[decide_eq_decide,mem_trL]
theorem closing_loop(ls:L)(hn:ls.length≤12)(hg:∀x∈ls,Good x)(q:Q)(h1:(plL q).length≤8)(h2:(trL q).length≤7):∀(d i:Nat),i+d=ls.length→Ev (fun k=>spec_l6Closing.l0 k ls (closeTo ls q i) (plL q) (trL q) (i:Int)) (closeTo ls q ls.length):=by
  intro d
  induction d with
  | zero=>
    intro i hi;obtain rfl:i=ls.length:=by omega
    refine Ev.step (f:=fun _=>some (closeTo ls q ls.length)) (fun k=>?_) (Ev.now _);simp only[spec_l6Closing.l0];rw[if_neg (by omega)]
  | succ d ih=>
    intro i hi;have e:wrap64 ((i:Int)+1)=((i+1:Nat):Int):=by rw[w64 (by omega) (by omega)];omega
    have b1:(i:Int)<(ls.length:Int):=by omega
    have b0:(0:Int)≤(i:Int):=by omega
    have hlen:=closeTo_len ls q i;have bl:(closeTo ls q i).length<17592186044416:=by omega
    have hgood:=leg_good hg i (by omega);have hrd:rd_T49 ls (i:Int)=leg ls i:=rfl
    have hc:closeTo ls q (i+1)=if Pq q (leg ls i).f0.toNat=true∧Bq q i=false then closeTo ls q i++[(i:Int)] else closeTo ls q i:=rfl
    have h:=ih (i+1) (by omega);rw[hc]at h;generalize leg ls (i:Int)=x at hgood hrd h;obtain⟨a,ha⟩:=Int.eq_ofNat_of_zero_le hgood.1.1;rw[ha,Int.toNat_natCast,Pq_eq,Bq_eq]at h;refine Ev.step_ge 20 (fun k hk=>?_) h;simp only[spec_l6Closing.l0];rw[if_pos b1,if_pos b0,hrd,ha,has_at _ _ (Nat.le_trans h1 (by decide)) k (Nat.lt_of_le_of_lt h1 (Nat.lt_of_lt_of_le (by decide:8<20) hk)),Option.bind_some];by_cases c1:(a:Int)∈plL q
    · rw[decide_eq_true c1,if_pos rfl,has_at _ _ (Nat.le_trans h2 (by decide)) k (Nat.lt_of_le_of_lt h2 (Nat.lt_of_lt_of_le (by decide:7<20) hk)),Option.bind_some]
      by_cases c2:(i:Int)∈trL q
      · rw[decide_eq_true c2,if_pos rfl,e,if_neg (fun h=>by cases h.2)]
      · rw[decide_eq_false c2,if_neg (by decide),if_pos bl,e,if_pos ⟨rfl,rfl⟩]
    · rw[decide_eq_false c1,if_neg (by decide),e,if_neg (fun h=>by cases h.1)]
def closeL(ls:L):List Int:=closeTo ls (RR ls) ls.length
theorem closing_ev(ls:L)(hn:ls.length≤12)(hg:∀x∈ls,Good x):Ev (fun k=>spec_l6Closing.f k ls) (closeL ls):=by
  refine Ev.congr (f:=fun k=>(spec_l6Place.f k ls).bind fun bt193=>spec_l6Closing.l0 k ls [] bt193.2.1 bt193.2.2 0) (fun k=>rfl) ?_;refine Ev.bind (place_ev ls hn hg (RR ls) rfl) ?_;exact closing_loop ls hn hg (RR ls) (plL_small hg) (trL_small hg) ls.length 0 (by omega)
theorem legsB_iff{ls:L}:legsB ls=true↔(∀x∈ls,Good x)∧ls.length≤12:=by
  unfold legsB;exact decide_eq_true_iff
end Net
namespace Net
open YtcafgpincnkcdaaDoorW.PrintLast YtcafgpincnkcdaaDoorW.PrintMore A Plain
open Tree (verts legs W)
open Dfs (dfs try_)
open Grow (Q sweep grow)
theorem rd_at(l:List Int)(i:Nat)(h:i<l.length):rd l (i:Int)=l[i]:=by
  unfold rd;rw[Int.toNat_natCast,List.getD_eq_getElem?_getD,List.getElem?_eq_getElem h];rfl
section
variable (ls:L) (hg:∀x∈ls,Good x) (tree:List Int) (ht:∀i∈tree,0≤i∧i<(ls.length:Int)) (hl:tree.length≤1000) (dst:Int)
include hg ht hl
end
theorem mem_closeTo (ls:L) (q:Q):∀(n:Nat) (i:Int),i∈closeTo ls q n↔∃k:Nat,i=k∧k<n∧Pq q (leg ls k).f0.toNat=true∧Bq q k=false
  |0,i=>by simp[closeTo]
  | n + 1,i=>by
    have ih:=mem_closeTo ls q n i;unfold closeTo;split
    · rename_i c
      rw[List.mem_append,ih,List.mem_singleton]
      constructor
      · rintro(⟨k,h1,h2,h3⟩|rfl)
        · exact⟨k,h1,by omega,h3⟩
        · exact⟨n,rfl,by omega,c⟩
      · rintro⟨k,h1,h2,h3⟩
        by_cases e:k=n
        · exact Or.inr (by rw[h1,e])
        · exact Or.inl ⟨k,h1,by omega,h3⟩
    · rename_i c
      rw[ih]
      constructor
      · rintro⟨k,h1,h2,h3⟩
        exact⟨k,h1,by omega,h3⟩
      · rintro⟨k,h1,h2,h3⟩
        by_cases e:k=n
        · exact absurd (e▸h3) c
        · exact⟨k,h1,by omega,h3⟩
theorem mem_closeL{ls:L}(hg:∀x∈ls,Good x){i:Int}(h:i∈closeL ls):0≤i∧i<(ls.length:Int)∧(ends ls i).1∈verts 0 (RR ls)∧(ends ls i).2∈verts 0 (RR ls)∧i∉legs (RR ls):=by
  obtain⟨k,rfl,h1,h2,h3⟩:=(mem_closeTo ls (RR ls) ls.length i).mp h;have hk:=(leg_good hg k h1).1.1
  have hv:(ends ls k).1∈verts 0 (RR ls):=by
    have:=of_decide_eq_true h2
    rwa [Int.toNat_of_nonneg hk]at this
  exact⟨by omega,by omega,hv,((RR_ok hg).2 k (by omega) (by omega)).mp hv,of_decide_eq_false h3⟩
theorem trL_range{ls:L}(hg:∀x∈ls,Good x):∀i∈trL (RR ls),0≤i∧i<(ls.length:Int):=fun i hi=>by
  have:=(RR_ok hg).1.legs_ends (ends ls) ((mem_trL _ _).mp hi);exact⟨this.2.2.2.1,this.2.2.2.2⟩
theorem pl_bound{ls:L}(sh:Int→Int)(hs:∀i,0≤i→i<(ls.length:Int)→ -500≤sh i∧sh i≤500):∀{q:Q},(∀x∈q,0≤x.1∧x.1<(ls.length:Int))→∀x,-(500*(q.length:Int))≤Sum.pl (ends ls) sh q x∧Sum.pl (ends ls) sh q x≤500*(q.length:Int)
  |[],_,x=>by simp[Sum.pl]
  | (i,u,s)::q,h,x=>by
    have hi:=hs i (h _ List.mem_cons_self).1 (h _ List.mem_cons_self).2;have ih:=pl_bound sh hs (q:=q) (fun x hx=>h x (List.mem_cons_of_mem _ hx));have h1:=ih u;have h2:=ih x;simp only[Sum.pl,List.length_cons];split
    · split<;>omega
    · omega
theorem plus_exact{a b:S31}(ha:(-1000000≤a.f0∧a.f0≤1000000)∧(-1000000≤a.f1∧a.f1≤1000000)∧(-1000000≤a.f2∧a.f2≤1000000))(hb:(-1000000≤b.f0∧b.f0≤1000000)∧(-1000000≤b.f1∧b.f1≤1000000)∧(-1000000≤b.f2∧b.f2≤1000000)):
    plus a b 1=⟨a.f0+b.f0,a.f1+b.f1,a.f2+b.f2⟩∧plus a b (-1)=⟨a.f0-b.f0,a.f1-b.f1,a.f2-b.f2⟩:=by
  unfold plus
  constructor
  · rw[Int.one_mul,Int.one_mul,Int.one_mul,w64 (x:=b.f0) (by omega) (by omega),w64 (x:=b.f1) (by omega) (by omega),w64 (x:=b.f2) (by omega) (by omega),w64 (by omega) (by omega),w64 (by omega) (by omega),w64 (by omega) (by omega)]
  · rw[w64 (x:= -1*b.f0) (by omega) (by omega),w64 (x:= -1*b.f1) (by omega) (by omega),w64 (x:= -1*b.f2) (by omega) (by omega),w64 (by omega) (by omega),w64 (by omega) (by omega),w64 (by omega) (by omega)]
    congr 1<;>omega
def sh0(ls:L)(i:Int):Int:=(shift (leg ls i)).f0
def sh1(ls:L)(i:Int):Int:=(shift (leg ls i)).f1
def sh2(ls:L)(i:Int):Int:=(shift (leg ls i)).f2
theorem sh_bound{ls:L}(hg:∀x∈ls,Good x)(i:Int)(h0:0≤i)(h1:i<(ls.length:Int)):(-500≤sh0 ls i∧sh0 ls i≤500)∧(-500≤sh1 ls i∧sh1 ls i≤500)∧(-500≤sh2 ls i∧sh2 ls i≤500):=by
  obtain⟨k,rfl⟩:=Int.eq_ofNat_of_zero_le h0;exact shift_bound _ (leg_good hg k (Int.ofNat_lt.mp h1))
theorem plq_pl {ls:L} (hg:∀x∈ls,Good x):∀{q:Q},q.length≤100→(∀x∈q,0≤x.1∧x.1<(ls.length:Int))→∀x,plq ls q x=⟨Sum.pl (ends ls) (sh0 ls) q x,Sum.pl (ends ls) (sh1 ls) q x,Sum.pl (ends ls) (sh2 ls) q x⟩
  |[],_,_,x=>rfl
  | (i, u,s)::q,hl,h,x=>by
    have hi:=sh_bound hg i (h _ List.mem_cons_self).1 (h _ List.mem_cons_self).2;have hr:=fun x hx=>h x (List.mem_cons_of_mem (i,u,s) hx)
    have hl':q.length≤100:=by simp only[List.length_cons]at hl;omega
    have ih:=plq_pl hg hl' hr;have b0:=pl_bound (sh0 ls) (fun i a b=>(sh_bound hg i a b).1) hr u;have b1:=pl_bound (sh1 ls) (fun i a b=>(sh_bound hg i a b).2.1) hr u;have b2:=pl_bound (sh2 ls) (fun i a b=>(sh_bound hg i a b).2.2) hr u;simp only[plq,Sum.pl];by_cases c:x=s
    · simp only[if_pos c]
      rw[ih u];have ex:=plus_exact (a:=⟨Sum.pl (ends ls) (sh0 ls) q u,Sum.pl (ends ls) (sh1 ls) q u,Sum.pl (ends ls) (sh2 ls) q u⟩) (b:=shift (leg ls i)) ⟨qz35,qz35,qz35⟩ ⟨(by have:=hi.1;unfold sh0 at this;omega),(by have:=hi.2.1;unfold sh1 at this;omega),(by have:=hi.2.2;unfold sh2 at this;omega)⟩;by_cases c2:(ends ls i).1=u
      · simp only[if_pos c2]
        rw[ex.1];rfl
      · simp only[if_neg c2]
        rw[ex.2];rfl
    · simp only[if_neg c]
      exact ih x
end Net
namespace Net
open Go YtcafgpincnkcdaaDoorW.PrintLast YtcafgpincnkcdaaDoorW.PrintMore A Plain
open Tree (verts legs W)
open Grow (Q)
def selTo(p:Nat→Bool):Nat→List Int
  |0=>[]
  |k+1=>if p k=true then selTo p k++[(k:Int)] else selTo p k
theorem selTo_len(p:Nat→Bool):∀k,(selTo p k).length≤k
  |0=>by simp[selTo]
  | k+1=>by
    have:=selTo_len p k;unfold selTo;split
    · rw[List.length_append,List.length_singleton];omega
    · omega
theorem mem_selTo (p:Nat→Bool):∀(n:Nat) (i:Int),i∈selTo p n↔∃k:Nat,i=k∧k<n∧p k=true
  |0,i=>by simp[selTo]
  | n + 1,i=>by
    have ih:=mem_selTo p n i;unfold selTo;split
    · rename_i c
      rw[List.mem_append,ih,List.mem_singleton]
      constructor
      · rintro(⟨k,h1,h2,h3⟩|rfl)
        · exact⟨k,h1,by omega,h3⟩
        · exact⟨n,rfl,by omega,c⟩
      · rintro⟨k,h1,h2,h3⟩
        by_cases e:k=n
        · exact Or.inr (by rw[h1,e])
        · exact Or.inl ⟨k,h1,by omega,h3⟩
    · rename_i c
      rw[ih]
      constructor
      · rintro⟨k,h1,h2,h3⟩
        exact⟨k,h1,by omega,h3⟩
      · rintro⟨k,h1,h2,h3⟩
        by_cases e:k=n
        · exact absurd (e▸h3) c
        · exact⟨k,h1,by omega,h3⟩
theorem asc_selTo(p:Nat→Bool):∀n,Sort.Asc (selTo p n)
  |0=>by simp[selTo,Sort.Asc]
  | n +1=>by
    have ih:=asc_selTo p n;unfold selTo;split
    · refine List.pairwise_append.mpr ⟨ih,List.pairwise_singleton _ _,fun a ha b hb=>?_⟩
      obtain⟨k,rfl,hk,_⟩:=(mem_selTo p n a).mp ha;rw[List.mem_singleton]at hb;omega
    · exact ih
theorem plL_sel{ls:L}(hg:∀x∈ls,Good x):selTo (Pq (RR ls)) 8=plL (RR ls):=by
  refine Sort.ext (asc_selTo _ _) (asc_plL _) (fun s=>?_);rw[mem_selTo]
  constructor
  · rintro⟨k,rfl,_,h⟩
    rw[Pq_eq]at h;exact of_decide_eq_true h
  · intro h
    have h8:=Grow.in_range (ends ls) (RR_ok hg).1 (Good.range hg) s ((mem_plL _ _).mp h);obtain⟨k,rfl⟩:=Int.eq_ofNat_of_zero_le h8.1;exact⟨k,rfl,by omega,(by rw[Pq_eq];exact decide_eq_true h)⟩
def SelPost(l:List Int)(w:World)(e:Ending)(w':World):Prop:=∃v,e= .returned v∧Kd.R (Kd.int .i64) 3 w' w.heap.size (fun b=>w.heap.size≤b) v l∧Below w.heap.size w w'
theorem run_idx8(w:World)(v:Array Value)(k:Nat)(i:Int)(hi:i=(k:Int))(h8:k<8)(x:Value)(hx:v[k]?=some x):(Instr.index 54 (.agg v) (.int .i64 i)).run Tryd.prog w= .ok x w:=by
  subst hi;have hn:(0:Int)≤(k:Int)∧(k:Int)<((8:Nat):Int):=by omega
  simp[Instr.index,run_underlying Tryd.underlying54,asIntOf,hn,go_sem];rw[if_pos h8,hx];rfl
theorem stationsW {n T g:Nat} {P:Nat→Bool} {X:Nat→S31} {B:Nat→Bool} {cl:Value} (w:World) (hS:St n T g P X B cl w):
    Calls Tryd.prog 65 #[.pointer (some ⟨g,0,none⟩)] w (SelPost (selTo P 8) w):=by
  have HB:=ak (Below.refl w.heap.size w);have p0:=hS.pb 0 (by decide);have p1:=hS.pb 1 (by decide);have p2:=hS.pb 2 (by decide);have p3:=hS.pb 3 (by decide);have p4:=hS.pb 4 (by decide);have p5:=hS.pb 5 (by decide);have p6:=hS.pb 6 (by decide);have p7:=hS.pb 7 (by decide);clear hS;obtain⟨l0,hl0⟩:∃l0,l0=selTo P 0:=⟨_,rfl⟩
  obtain⟨b0,hb0⟩:∃b,b=P 0:=⟨_,rfl⟩
  rw[←hb0]at p0;obtain⟨b1,hb1⟩:∃b,b=P 1:=⟨_,rfl⟩
  rw[←hb1]at p1;obtain⟨b2,hb2⟩:∃b,b=P 2:=⟨_,rfl⟩
  rw[←hb2]at p2;obtain⟨b3,hb3⟩:∃b,b=P 3:=⟨_,rfl⟩
  rw[←hb3]at p3;obtain⟨b4,hb4⟩:∃b,b=P 4:=⟨_,rfl⟩
  rw[←hb4]at p4;obtain⟨b5,hb5⟩:∃b,b=P 5:=⟨_,rfl⟩
  rw[←hb5]at p5;obtain⟨b6,hb6⟩:∃b,b=P 6:=⟨_,rfl⟩
  rw[←hb6]at p6;obtain⟨b7,hb7⟩:∃b,b=P 7:=⟨_,rfl⟩
  rw[←hb7]at p7;have HE0:Aside0 (selTo P (0+1)=if b0=true then selTo P 0++[((0:Nat):Int)] else selTo P 0):=⟨(by rw[hb0];rfl)⟩;have HE1:Aside0 (selTo P (1+1)=if b1=true then selTo P 1++[((1:Nat):Int)] else selTo P 1):=⟨(by rw[hb1];rfl)⟩;have HE2:Aside0 (selTo P (2+1)=if b2=true then selTo P 2++[((2:Nat):Int)] else selTo P 2):=⟨(by rw[hb2];rfl)⟩;have HE3:Aside0 (selTo P (3+1)=if b3=true then selTo P 3++[((3:Nat):Int)] else selTo P 3):=⟨(by rw[hb3];rfl)⟩;have HE4:Aside0 (selTo P (4+1)=if b4=true then selTo P 4++[((4:Nat):Int)] else selTo P 4):=⟨(by rw[hb4];rfl)⟩;have HE5:Aside0 (selTo P (5+1)=if b5=true then selTo P 5++[((5:Nat):Int)] else selTo P 5):=⟨(by rw[hb5];rfl)⟩;have HE6:Aside0 (selTo P (6+1)=if b6=true then selTo P 6++[((6:Nat):Int)] else selTo P 6):=⟨(by rw[hb6];rfl)⟩;have HE7:Aside0 (selTo P (7+1)=if b7=true then selTo P 7++[((7:Nat):Int)] else selTo P 7):=⟨(by rw[hb7];rfl)⟩;have HT:Aside0 (∀k,(selTo P k).length≤k):=⟨selTo_len P⟩;clear hb0 hb1 hb2 hb3 hb4 hb5 hb6 hb7;have HN0:Aside0 (selTo P 0=[]):=⟨rfl⟩;generalize selTo P=S at *;go_enter Tryd.func65,Tryd.ntmps65;go_wp2
  go_loopw [3,10] (fun v3 v10 w'=>∃(j:Nat),j≤8∧v10= .int .i64 j∧Aside0 (Kd.R (Kd.int .i64) 3 w' w.heap.size (fun b=>w.heap.size≤b) v3 (S j))∧Aside0 (Below w.heap.size w w')) (fun _ v10 _=>8-(intOf v10).toNat)
  case atStart=>exact⟨0,by omega,rfl,⟨(by rw[HN0.out];exact Kd.R_nil _ _ _ _ _)⟩,HB⟩
  case round=>
    obtain⟨j,hj,rfl,HV,HB2⟩:=hrel;clear HB;have HB:=HB2;clear HB2;obtain⟨vA,vC,ev⟩:=Kd.R_slice HV.out;subst ev;have HTL:=ak (HT.out j);by_cases hlt:j<8
    · have hj8 : j = 0 ∨j=1∨j=2∨j=3∨j=4∨j=5∨j=6∨j=7:=by omega
      rcases hj8 with rfl|rfl|rfl|rfl|rfl|rfl|rfl|rfl
      · have HE:=HE0
        cases b0
        · rw[if_neg (by decide)]at HE
          go_wp2;rw[run_idx8 _ _ 0 0 rfl (by decide) _ rfl];go_wp2;exact⟨⟨0+1,by omega,by go_num,(qx2 HV),HB⟩,qz85⟩
        · rw[if_pos rfl]at HE
          go_wp2;rw[run_idx8 _ _ 0 0 rfl (by decide) _ rfl]
          go_wp2_with ((with_reducible refine gate_builtin (b:= .append) (xs:= #[.tmp 15,.tmp 17]) rfl ?_);at_builtin;refine Kd.R_append (Kd.int .i64) (w0:=w) w.heap.size rfl (.tmp 15) (.tmp 17) 26 3 (.int .i64 0) 8 rfl Tryd.underlying26 info3 rfl (by decide) (by omega) (.slice vA (S 0).length vC) (S 0) ((0:Nat):Int) [.int .i64 ((0:Nat):Int)] (fun b=>w.heap.size≤b) (fun _=>False) rfl rfl ?aP (fun _ hk=>hk.elim) ?aF ?aO ?aB ?aS ?aL ?_;(case aP=>exact rfl);(case aF=>exact qz67);(case aO=>exact HV.out);(case aB=>exact HB.out);(case aS=>exact below_size HB.out);(case aL=>have:=HTL.out;omega)
                       intro v_ w_ ho hb hg hat;have HP1:=ak ho
                       have HP2:=ak hb)
          exact⟨⟨0+1,by omega,by go_num,(qx2 HP1),HP2⟩,qz85⟩
      · have HE:=HE1
        cases b1
        · rw[if_neg (by decide)]at HE
          go_wp2;rw[run_idx8 _ _ 1 1 rfl (by decide) _ rfl];go_wp2;exact⟨⟨1+1,by omega,by go_num,(qx2 HV),HB⟩,qz85⟩
        · rw[if_pos rfl]at HE
          go_wp2;rw[run_idx8 _ _ 1 1 rfl (by decide) _ rfl]
          go_wp2_with ((with_reducible refine gate_builtin (b:= .append) (xs:= #[.tmp 15,.tmp 17]) rfl ?_);at_builtin;refine Kd.R_append (Kd.int .i64) (w0:=w) w.heap.size rfl (.tmp 15) (.tmp 17) 26 3 (.int .i64 0) 8 rfl Tryd.underlying26 info3 rfl (by decide) (by omega) (.slice vA (S 1).length vC) (S 1) ((1:Nat):Int) [.int .i64 ((1:Nat):Int)] (fun b=>w.heap.size≤b) (fun _=>False) rfl rfl ?aP (fun _ hk=>hk.elim) ?aF ?aO ?aB ?aS ?aL ?_;(case aP=>exact rfl);(case aF=>exact qz67);(case aO=>exact HV.out);(case aB=>exact HB.out);(case aS=>exact below_size HB.out);(case aL=>have:=HTL.out;omega)
                       intro v_ w_ ho hb hg hat;have HP1:=ak ho
                       have HP2:=ak hb)
          exact⟨⟨1+1,by omega,by go_num,(qx2 HP1),HP2⟩,qz85⟩
      · have HE:=HE2
        cases b2
        · rw[if_neg (by decide)]at HE
          go_wp2;rw[run_idx8 _ _ 2 2 rfl (by decide) _ rfl];go_wp2;exact⟨⟨2+1,by omega,by go_num,(qx2 HV),HB⟩,qz85⟩
        · rw[if_pos rfl]at HE
          go_wp2;rw[run_idx8 _ _ 2 2 rfl (by decide) _ rfl]
          go_wp2_with ((with_reducible refine gate_builtin (b:= .append) (xs:= #[.tmp 15,.tmp 17]) rfl ?_);at_builtin;refine Kd.R_append (Kd.int .i64) (w0:=w) w.heap.size rfl (.tmp 15) (.tmp 17) 26 3 (.int .i64 0) 8 rfl Tryd.underlying26 info3 rfl (by decide) (by omega) (.slice vA (S 2).length vC) (S 2) ((2:Nat):Int) [.int .i64 ((2:Nat):Int)] (fun b=>w.heap.size≤b) (fun _=>False) rfl rfl ?aP (fun _ hk=>hk.elim) ?aF ?aO ?aB ?aS ?aL ?_;(case aP=>exact rfl);(case aF=>exact qz67);(case aO=>exact HV.out);(case aB=>exact HB.out);(case aS=>exact below_size HB.out);(case aL=>have:=HTL.out;omega)
                       intro v_ w_ ho hb hg hat;have HP1:=ak ho
                       have HP2:=ak hb)
          exact⟨⟨2+1,by omega,by go_num,(qx2 HP1),HP2⟩,qz85⟩
      · have HE:=HE3
        cases b3
        · rw[if_neg (by decide)]at HE
          go_wp2;rw[run_idx8 _ _ 3 3 rfl (by decide) _ rfl];go_wp2;exact⟨⟨3+1,by omega,by go_num,(qx2 HV),HB⟩,qz85⟩
        · rw[if_pos rfl]at HE
          go_wp2;rw[run_idx8 _ _ 3 3 rfl (by decide) _ rfl]
          go_wp2_with ((with_reducible refine gate_builtin (b:= .append) (xs:= #[.tmp 15,.tmp 17]) rfl ?_);at_builtin;refine Kd.R_append (Kd.int .i64) (w0:=w) w.heap.size rfl (.tmp 15) (.tmp 17) 26 3 (.int .i64 0) 8 rfl Tryd.underlying26 info3 rfl (by decide) (by omega) (.slice vA (S 3).length vC) (S 3) ((3:Nat):Int) [.int .i64 ((3:Nat):Int)] (fun b=>w.heap.size≤b) (fun _=>False) rfl rfl ?aP (fun _ hk=>hk.elim) ?aF ?aO ?aB ?aS ?aL ?_;(case aP=>exact rfl);(case aF=>exact qz67);(case aO=>exact HV.out);(case aB=>exact HB.out);(case aS=>exact below_size HB.out);(case aL=>have:=HTL.out;omega)
                       intro v_ w_ ho hb hg hat;have HP1:=ak ho
                       have HP2:=ak hb)
          exact⟨⟨3+1,by omega,by go_num,(qx2 HP1),HP2⟩,qz85⟩
      · have HE:=HE4
        cases b4
        · rw[if_neg (by decide)]at HE
          go_wp2;rw[run_idx8 _ _ 4 4 rfl (by decide) _ rfl];go_wp2;exact⟨⟨4+1,by omega,by go_num,(qx2 HV),HB⟩,qz85⟩
        · rw[if_pos rfl]at HE
          go_wp2;rw[run_idx8 _ _ 4 4 rfl (by decide) _ rfl]
          go_wp2_with ((with_reducible refine gate_builtin (b:= .append) (xs:= #[.tmp 15,.tmp 17]) rfl ?_);at_builtin;refine Kd.R_append (Kd.int .i64) (w0:=w) w.heap.size rfl (.tmp 15) (.tmp 17) 26 3 (.int .i64 0) 8 rfl Tryd.underlying26 info3 rfl (by decide) (by omega) (.slice vA (S 4).length vC) (S 4) ((4:Nat):Int) [.int .i64 ((4:Nat):Int)] (fun b=>w.heap.size≤b) (fun _=>False) rfl rfl ?aP (fun _ hk=>hk.elim) ?aF ?aO ?aB ?aS ?aL ?_;(case aP=>exact rfl);(case aF=>exact qz67);(case aO=>exact HV.out);(case aB=>exact HB.out);(case aS=>exact below_size HB.out);(case aL=>have:=HTL.out;omega)
                       intro v_ w_ ho hb hg hat;have HP1:=ak ho
                       have HP2:=ak hb)
          exact⟨⟨4+1,by omega,by go_num,(qx2 HP1),HP2⟩,qz85⟩
      · have HE:=HE5
        cases b5
        · rw[if_neg (by decide)]at HE
          go_wp2;rw[run_idx8 _ _ 5 5 rfl (by decide) _ rfl];go_wp2;exact⟨⟨5+1,by omega,by go_num,(qx2 HV),HB⟩,qz85⟩
        · rw[if_pos rfl]at HE
          go_wp2;rw[run_idx8 _ _ 5 5 rfl (by decide) _ rfl]
          go_wp2_with ((with_reducible refine gate_builtin (b:= .append) (xs:= #[.tmp 15,.tmp 17]) rfl ?_);at_builtin;refine Kd.R_append (Kd.int .i64) (w0:=w) w.heap.size rfl (.tmp 15) (.tmp 17) 26 3 (.int .i64 0) 8 rfl Tryd.underlying26 info3 rfl (by decide) (by omega) (.slice vA (S 5).length vC) (S 5) ((5:Nat):Int) [.int .i64 ((5:Nat):Int)] (fun b=>w.heap.size≤b) (fun _=>False) rfl rfl ?aP (fun _ hk=>hk.elim) ?aF ?aO ?aB ?aS ?aL ?_;(case aP=>exact rfl);(case aF=>exact qz67);(case aO=>exact HV.out);(case aB=>exact HB.out);(case aS=>exact below_size HB.out);(case aL=>have:=HTL.out;omega)
                       intro v_ w_ ho hb hg hat;have HP1:=ak ho
                       have HP2:=ak hb)
          exact⟨⟨5+1,by omega,by go_num,(qx2 HP1),HP2⟩,qz85⟩
      · have HE:=HE6
        cases b6
        · rw[if_neg (by decide)]at HE
          go_wp2;rw[run_idx8 _ _ 6 6 rfl (by decide) _ rfl];go_wp2;exact⟨⟨6+1,by omega,by go_num,(qx2 HV),HB⟩,qz85⟩
        · rw[if_pos rfl]at HE
          go_wp2;rw[run_idx8 _ _ 6 6 rfl (by decide) _ rfl]
          go_wp2_with ((with_reducible refine gate_builtin (b:= .append) (xs:= #[.tmp 15,.tmp 17]) rfl ?_);at_builtin;refine Kd.R_append (Kd.int .i64) (w0:=w) w.heap.size rfl (.tmp 15) (.tmp 17) 26 3 (.int .i64 0) 8 rfl Tryd.underlying26 info3 rfl (by decide) (by omega) (.slice vA (S 6).length vC) (S 6) ((6:Nat):Int) [.int .i64 ((6:Nat):Int)] (fun b=>w.heap.size≤b) (fun _=>False) rfl rfl ?aP (fun _ hk=>hk.elim) ?aF ?aO ?aB ?aS ?aL ?_;(case aP=>exact rfl);(case aF=>exact qz67);(case aO=>exact HV.out);(case aB=>exact HB.out);(case aS=>exact below_size HB.out);(case aL=>have:=HTL.out;omega)
                       intro v_ w_ ho hb hg hat;have HP1:=ak ho
                       have HP2:=ak hb)
          exact⟨⟨6+1,by omega,by go_num,(qx2 HP1),HP2⟩,qz85⟩
      · have HE:=HE7
        cases b7
        · rw[if_neg (by decide)]at HE
          go_wp2;rw[run_idx8 _ _ 7 7 rfl (by decide) _ rfl];go_wp2;exact⟨⟨7+1,by omega,by go_num,(qx2 HV),HB⟩,qz85⟩
        · rw[if_pos rfl]at HE
          go_wp2;rw[run_idx8 _ _ 7 7 rfl (by decide) _ rfl]
          go_wp2_with ((with_reducible refine gate_builtin (b:= .append) (xs:= #[.tmp 15,.tmp 17]) rfl ?_);at_builtin;refine Kd.R_append (Kd.int .i64) (w0:=w) w.heap.size rfl (.tmp 15) (.tmp 17) 26 3 (.int .i64 0) 8 rfl Tryd.underlying26 info3 rfl (by decide) (by omega) (.slice vA (S 7).length vC) (S 7) ((7:Nat):Int) [.int .i64 ((7:Nat):Int)] (fun b=>w.heap.size≤b) (fun _=>False) rfl rfl ?aP (fun _ hk=>hk.elim) ?aF ?aO ?aB ?aS ?aL ?_;(case aP=>exact rfl);(case aF=>exact qz67);(case aO=>exact HV.out);(case aB=>exact HB.out);(case aS=>exact below_size HB.out);(case aL=>have:=HTL.out;omega)
                       intro v_ w_ ho hb hg hat;have HP1:=ak ho
                       have HP2:=ak hb)
          exact⟨⟨7+1,by omega,by go_num,(qx2 HP1),HP2⟩,qz85⟩
    · obtain rfl:j=8:=by omega
      go_wp2;exact bodyPost_ret (v:= .slice vA (S 8).length vC) (by simp[results,Tryd.results65,go_sem]) rfl ⟨_,rfl,HV.out,HB.out⟩
theorem trL_sel{ls:L}(hg:∀x∈ls,Good x):selTo (Bq (RR ls)) ls.length=trL (RR ls):=by
  refine Sort.ext (asc_selTo _ _) (asc_trL _) (fun s=>?_);rw[mem_selTo]
  constructor
  · rintro⟨k,rfl,_,h⟩
    rw[Bq_eq]at h;exact of_decide_eq_true h
  · intro h
    have h8:=trL_range hg s h;obtain⟨k,rfl⟩:=Int.eq_ofNat_of_zero_le h8.1;exact⟨k,rfl,by omega,(by rw[Bq_eq];exact decide_eq_true h)⟩
theorem treeLegsW {n T g:Nat} {P:Nat→Bool} {X:Nat→S31} {B:Nat→Bool} {cl:Value} (w:World) (hS:St n T g P X B cl w) (hn:n≤12):
    Calls Tryd.prog 64 #[.pointer (some ⟨g,0,none⟩)] w (SelPost (selTo B n) w):=by
  have HB:=ak (Below.refl w.heap.size w);have HS0:=ak hS;have tc:=hS.tc;have HT:Aside0 (∀k,(selTo B k).length≤k):=⟨selTo_len _⟩;have HE:Aside0 (∀k,selTo B (k+1)=if B k=true then selTo B k++[(k:Int)] else selTo B k):=⟨fun k=>rfl⟩;have HN0:Aside0 (selTo B 0=[]):=⟨rfl⟩;clear hS;generalize selTo B=S at *;go_enter Tryd.func64,Tryd.ntmps64;go_wp2
  go_loopw [3,11] (fun v3 v11 w'=>∃(k:Nat),k≤n∧v11= .int .i64 k∧Aside0 (Kd.R (Kd.int .i64) 3 w' w.heap.size (fun b=>w.heap.size≤b) v3 (S k))∧Aside0 (Below w.heap.size w w')) (fun _ v11 _=>n-(intOf v11).toNat)
  case atStart=>exact⟨0,by omega,rfl,⟨(by rw[HN0.out];exact Kd.R_nil _ _ _ _ _)⟩,HB⟩
  case round=>
    obtain⟨k,hk,rfl,HV,HB2⟩:=hrel;clear HB;have HB:=HB2;clear HB2;obtain⟨vA,vC,ev⟩:=Kd.R_slice HV.out;subst ev;have HTL:=ak (HT.out k);by_cases hlt:k<n
    · have HC := ak (HE.out k)
      have tk:=Sine.keepc (HS0.out.tb k hlt) HB.out;have k0:(0:Int)≤(k:Int):=by omega
      have k1:(k:Int)<(n:Int):=by omega
      by_cases hp:B k=true
      · rw[hp]at tk
        rw[if_pos hp]at HC
        go_wp2_with ((with_reducible refine gate_builtin (b:= .append) (xs:= #[.tmp 17,.tmp 19]) rfl ?_);at_builtin;refine Kd.R_append (Kd.int .i64) (w0:=w) w.heap.size rfl (.tmp 17) (.tmp 19) 26 3 (.int .i64 0) 8 rfl Tryd.underlying26 info3 rfl (by decide) (by omega) (.slice vA (S k).length vC) (S k) (k:Int) [.int .i64 (k:Int)] (fun b=>w.heap.size≤b) (fun _=>False) rfl rfl ?aP (fun _ hk=>hk.elim) ?aF ?aO ?aB ?aS ?aL ?_;(case aP=>exact rfl);(case aF=>exact qz67);(case aO=>exact HV.out);(case aB=>exact HB.out);(case aS=>exact below_size HB.out);(case aL=>have:=HTL.out;omega)
                     intro v_ w_ ho hb hg hat;have HP1:=ak ho
                     have HP2:=ak hb)
        exact⟨⟨k+1,by omega,by go_num,(by rw[HC.out];exact HP1),HP2⟩,qz82⟩
      · rw[Bool.eq_false_iff.mpr hp]at tk
        rw[if_neg hp]at HC;go_wp2;exact⟨⟨k+1,by omega,by go_num,(by rw[HC.out];exact HV),HB⟩,qz82⟩
    · obtain rfl:k=n:=by omega
      go_wp2;exact bodyPost_ret (v:= .slice vA (S k).length vC) (by simp[results,Tryd.results64,go_sem]) rfl ⟨_,rfl,HV.out,HB.out⟩
end Net
namespace A
open YtcafgpincnkcdaaDoorW.PrintLast YtcafgpincnkcdaaDoorW.PrintMore Net Plain
def impl_TreeLegs.f(l0:List (S49)):Option (List Int×Bool):=if l0.length≤140737488351232 then some (if legsB l0=true then(trL (RR l0),true) else([],false)) else none
theorem impl_TreeLegs.calls (A0:Option Addr) (c:Nat) (ls:List (S49)) (r1:List Int) (r2:Bool) (w:World) (hr0:Kd.C k49 w A0 ls.length ls) (hc:ls.length≤c) (h:impl_TreeLegs.f ls=some (r1,r2)) (hL:Sine.Laid w):
    Calls Tryd.prog 9 #[.slice A0 ls.length c] w fun e w'=>∃v0_:Value,e= .returned (.tuple #[v0_,.bool r2])∧Kd.R (Kd.int .i64) 3 w' w.heap.size (fun _=>True) v0_ r1∧Below w.heap.size w w':=by
  unfold impl_TreeLegs.f at h;by_cases hb:ls.length≤140737488351232
  · rw [if_pos hb]at h
    obtain⟨K,hK⟩:=areLegs_ev ls hb;have HA:=ak (hK K (Nat.le_refl _));have HR:=ak hr0;have HL:=ak hL;have HB:=ak (Below.refl w.heap.size w);clear hK hr0 hL;by_cases hv:legsB ls=true
    · rw[if_pos hv]at h
      obtain⟨rfl,rfl⟩:=Prod.mk.inj (Option.some.inj h);rw[hv]at HA;have hv':=legsB_iff.mp hv;have HG:=ak hv'.1;have hn:=hv'.2;have HPE:=ak (show selTo (Bq (RR ls)) ls.length=trL (RR ls)from trL_sel HG.out);clear h hv hv';go_enter Tryd.func9,Tryd.ntmps9
      go_wp2_with (first
        |(go_at_call 62;(with_reducible refine(impl_areLegs.calls K _ _ ls true _ ?s1 ?s2 HA.out).mono ?_);(case s1=>exact Kd.C_below HR.out qz4);(case s2=>exact hc);rintro e w' ⟨rfl,hw⟩;replace HB:=ak (below_step (show Below w.heap.size w _ from by(repeat(first|exact HB.out|exact Below.refl _ _|apply below_alloc|apply pw_below_drewN|apply below_drew1));done) hw);clear hw)
        |(go_at_call 63;(with_reducible refine(place _ c ls _ ?s1 ?s2 hc hn HG.out (RR ls) rfl).mono ?_);(case s1=>exact HL.out.keep qz4);(case s2=>exact Kd.C_below HR.out qz4);rintro e w' ⟨g,T,cl,rfl,hst,ho,hw⟩;have HO:Aside0 (Kd.R (Kd.int .i64) 3 w' w.heap.size (fun k=>k≠g∧k≠T) cl (closeL ls)):=⟨Kd.R_lower ho (below_size (show Below w.heap.size w _ from by(repeat(first|exact HB.out|exact Below.refl _ _|apply below_alloc|apply pw_below_drewN|apply below_drew1));done))⟩;replace HB:=ak (below_step (show Below w.heap.size w _ from by(repeat(first|exact HB.out|exact Below.refl _ _|apply below_alloc|apply pw_below_drewN|apply below_drew1));done) hw);have HS:=ak hst;clear hst ho hw;obtain⟨cA,cC,ecl⟩:=Kd.R_slice HO.out;subst ecl)
        |(go_at_call 64;have hq:=treeLegsW _ (HS.out.keep qz87) hn;(with_reducible refine hq.mono ?_);clear hq;rintro e w3 ⟨v,rfl,hv3,hw⟩;have hsz:=below_size HB.out;rw[HPE.out]at hv3;have HP:=ak (show Kd.R (Kd.int .i64) 3 w3 w.heap.size (fun _=>True) v (trL (RR ls))from Kd.R_mono (Kd.R_lower hv3 hsz) (fun k hk=>trivial));replace HB:=ak (below_step (show Below w.heap.size w _ from by(repeat(first|exact HB.out|exact Below.refl _ _|apply below_alloc|apply pw_below_drewN|apply below_drew1));done) hw);clear hv3 hw))
      exact bodyPost_ret (v:= .tuple #[v,.bool true]) (by simp[results,Tryd.results9,go_sem]) rfl ⟨_,rfl,(by repeat(first|exact HP.out|apply Kd.R_drewN|apply Kd.R_drew)),qz4⟩
    · rw[if_neg hv]at h
      obtain⟨rfl,rfl⟩:=Prod.mk.inj (Option.some.inj h);rw[Bool.eq_false_iff.mpr hv]at HA;clear h hv;go_enter Tryd.func9,Tryd.ntmps9;go_wp2_with (go_at_call 62;(with_reducible refine(impl_areLegs.calls K _ _ ls false _ ?s1 ?s2 HA.out).mono ?_);(case s1=>exact Kd.C_below HR.out qz4);(case s2=>exact hc);rintro e w' ⟨rfl,hw⟩;replace HB:=ak (below_step (show Below w.heap.size w _ from by(repeat(first|exact HB.out|exact Below.refl _ _|apply below_alloc|apply pw_below_drewN|apply below_drew1));done) hw);clear hw);exact bodyPost_ret (v:= .tuple #[.slice none 0 0,.bool false]) (by simp[results,Tryd.results9,go_sem]) rfl ⟨_,rfl,Kd.R_nil _ _ _ _ _,qz4⟩
  · rw[if_neg hb]at h
    cases h
end A
namespace Net
open YtcafgpincnkcdaaDoorW.PrintLast YtcafgpincnkcdaaDoorW.PrintMore A Plain
def errM(X:Nat→S31)(x:S49):S31:=plus (plus (shift x) (X x.f1.toNat) (-1)) (X x.f0.toNat) 1
theorem errorOf{n T g:Nat}{P:Nat→Bool}{X:Nat→S31}{B:Nat→Bool}{cl:Value}(x:S49)(w:World)(hL:Sine.Laid w)(hS:St n T g P X B cl w)(h:Good x):
    Calls Tryd.prog 72 #[.pointer (some ⟨g,0,none⟩),.agg #[.int .i64 x.f0,.int .i64 x.f1,.int .i64 x.f2,.int .i64 x.f3,.int .i64 x.f4]] w fun e w'=>e= .returned (.agg #[.int .i64 (errM X x).f0,.int .i64 (errM X x).f1,.int .i64 (errM X x).f2])∧Below w.heap.size w w':=by
  have LS:=fun W (hl:Sine.Laid W)=>legShift x W hl h
  obtain⟨⟨a0,a8⟩,⟨d0,d8⟩,had,_⟩:=h;unfold errM;obtain⟨a,ha⟩:=Int.eq_ofNat_of_zero_le a0;obtain⟨d,hd⟩:=Int.eq_ofNat_of_zero_le d0;rw[ha,hd]at LS;rw[ha]at a8;rw[hd]at d8;rw[ha,hd,Int.toNat_natCast,Int.toNat_natCast];have HLS:=ak LS;have HL:=ak hL;have HS:=ak hS;have HB:=ak (Below.refl w.heap.size w);clear LS hL hS a0 d0 had;go_enter Tryd.func72,Tryd.ntmps72;go_wp2;have hgw:g<w.heap.size:=World.block_lt_of_cell? _ _ HS.out.tc;have h0:((w.alloc (Obj.cells #[Value.int IntKind.i64 ↑a,Value.int IntKind.i64 ↑d,Value.int IntKind.i64 x.f2,Value.int IntKind.i64 x.f3,Value.int IntKind.i64 x.f4] 49)).alloc (Obj.cells #[Value.int IntKind.i64 0,Value.int IntKind.i64 0,Value.int IntKind.i64 0] 31)).cell? ⟨w.heap.size,0,none⟩=some (.int .i64 (a:Int)):=by go_simp
  have h1:((w.alloc (Obj.cells #[Value.int IntKind.i64 ↑a,Value.int IntKind.i64 ↑d,Value.int IntKind.i64 x.f2,Value.int IntKind.i64 x.f3,Value.int IntKind.i64 x.f4] 49)).alloc (Obj.cells #[Value.int IntKind.i64 0,Value.int IntKind.i64 0,Value.int IntKind.i64 0] 31)).cell? ⟨w.heap.size,1,none⟩=some (.int .i64 (d:Int)):=by go_simp
  have h2:((w.alloc (Obj.cells #[Value.int IntKind.i64 ↑a,Value.int IntKind.i64 ↑d,Value.int IntKind.i64 x.f2,Value.int IntKind.i64 x.f3,Value.int IntKind.i64 x.f4] 49)).alloc (Obj.cells #[Value.int IntKind.i64 0,Value.int IntKind.i64 0,Value.int IntKind.i64 0] 31)).cell? ⟨w.heap.size,2,none⟩=some (.int .i64 x.f2):=by go_simp
  have h3:((w.alloc (Obj.cells #[Value.int IntKind.i64 ↑a,Value.int IntKind.i64 ↑d,Value.int IntKind.i64 x.f2,Value.int IntKind.i64 x.f3,Value.int IntKind.i64 x.f4] 49)).alloc (Obj.cells #[Value.int IntKind.i64 0,Value.int IntKind.i64 0,Value.int IntKind.i64 0] 31)).cell? ⟨w.heap.size,3,none⟩=some (.int .i64 x.f3):=by go_simp
  have h4:((w.alloc (Obj.cells #[Value.int IntKind.i64 ↑a,Value.int IntKind.i64 ↑d,Value.int IntKind.i64 x.f2,Value.int IntKind.i64 x.f3,Value.int IntKind.i64 x.f4] 49)).alloc (Obj.cells #[Value.int IntKind.i64 0,Value.int IntKind.i64 0,Value.int IntKind.i64 0] 31)).cell? ⟨w.heap.size,4,none⟩=some (.int .i64 x.f4):=by go_simp
  have g0:((w.alloc (Obj.cells #[Value.int IntKind.i64 ↑a,Value.int IntKind.i64 ↑d,Value.int IntKind.i64 x.f2,Value.int IntKind.i64 x.f3,Value.int IntKind.i64 x.f4] 49)).alloc (Obj.cells #[Value.int IntKind.i64 0,Value.int IntKind.i64 0,Value.int IntKind.i64 0] 31)).cell? ⟨w.heap.size+1,0,none⟩=some (.int .i64 0):=by go_simp
  have g1:((w.alloc (Obj.cells #[Value.int IntKind.i64 ↑a,Value.int IntKind.i64 ↑d,Value.int IntKind.i64 x.f2,Value.int IntKind.i64 x.f3,Value.int IntKind.i64 x.f4] 49)).alloc (Obj.cells #[Value.int IntKind.i64 0,Value.int IntKind.i64 0,Value.int IntKind.i64 0] 31)).cell? ⟨w.heap.size+1,1,none⟩=some (.int .i64 0):=by go_simp
  have g2:((w.alloc (Obj.cells #[Value.int IntKind.i64 ↑a,Value.int IntKind.i64 ↑d,Value.int IntKind.i64 x.f2,Value.int IntKind.i64 x.f3,Value.int IntKind.i64 x.f4] 49)).alloc (Obj.cells #[Value.int IntKind.i64 0,Value.int IntKind.i64 0,Value.int IntKind.i64 0] 31)).cell? ⟨w.heap.size+1,2,none⟩=some (.int .i64 0):=by go_simp
  have z0:((w.alloc (Obj.cells #[Value.int IntKind.i64 ↑a,Value.int IntKind.i64 ↑d,Value.int IntKind.i64 x.f2,Value.int IntKind.i64 x.f3,Value.int IntKind.i64 x.f4] 49)).alloc (Obj.cells #[Value.int IntKind.i64 0,Value.int IntKind.i64 0,Value.int IntKind.i64 0] 31)).frozen? ⟨w.heap.size+1,0,none⟩=false:=by go_simp
  have z1:((w.alloc (Obj.cells #[Value.int IntKind.i64 ↑a,Value.int IntKind.i64 ↑d,Value.int IntKind.i64 x.f2,Value.int IntKind.i64 x.f3,Value.int IntKind.i64 x.f4] 49)).alloc (Obj.cells #[Value.int IntKind.i64 0,Value.int IntKind.i64 0,Value.int IntKind.i64 0] 31)).frozen? ⟨w.heap.size+1,1,none⟩=false:=by go_simp
  have z2:((w.alloc (Obj.cells #[Value.int IntKind.i64 ↑a,Value.int IntKind.i64 ↑d,Value.int IntKind.i64 x.f2,Value.int IntKind.i64 x.f3,Value.int IntKind.i64 x.f4] 49)).alloc (Obj.cells #[Value.int IntKind.i64 0,Value.int IntKind.i64 0,Value.int IntKind.i64 0] 31)).frozen? ⟨w.heap.size+1,2,none⟩=false:=by go_simp
  replace HB:Aside0 (Below w.heap.size w ((w.alloc (Obj.cells #[Value.int IntKind.i64 ↑a,Value.int IntKind.i64 ↑d,Value.int IntKind.i64 x.f2,Value.int IntKind.i64 x.f3,Value.int IntKind.i64 x.f4] 49)).alloc (Obj.cells #[Value.int IntKind.i64 0,Value.int IntKind.i64 0,Value.int IntKind.i64 0] 31))):=⟨below_alloc (below_alloc HB.out _) _⟩;replace HS:=ak (HS.out.keep HB.out);generalize ((w.alloc (Obj.cells #[Value.int IntKind.i64 ↑a,Value.int IntKind.i64 ↑d,Value.int IntKind.i64 x.f2,Value.int IntKind.i64 x.f3,Value.int IntKind.i64 x.f4] 49)).alloc (Obj.cells #[Value.int IntKind.i64 0,Value.int IntKind.i64 0,Value.int IntKind.i64 0] 31))=W1 at *;have p0:=HS.out.px a (by omega);have p1:=HS.out.py a (by omega);have p2:=HS.out.pz a (by omega);have q0:=HS.out.px d (by omega);have q1:=HS.out.py d (by omega);have q2:=HS.out.pz d (by omega);have n1:w.heap.size+1≠w.heap.size:=by omega
  have n2:w.heap.size+1≠g:=by omega
  go_region_held3 (fun w'=>w'.cell? ⟨w.heap.size,0,none⟩=some (.int .i64 (a:Int))∧w'.cell? ⟨w.heap.size,1,none⟩=some (.int .i64 (d:Int))∧w'.cell? ⟨w.heap.size,2,none⟩=some (.int .i64 x.f2)∧w'.cell? ⟨w.heap.size,3,none⟩=some (.int .i64 x.f3)∧w'.cell? ⟨w.heap.size,4,none⟩=some (.int .i64 x.f4)∧w'.cell? ⟨g,8+a*3,none⟩=some (.int .i64 (X a).f0)∧w'.cell? ⟨g,8+a*3+1,none⟩=some (.int .i64 (X a).f1)∧w'.cell? ⟨g,8+a*3+2,none⟩=some (.int .i64 (X a).f2)∧w'.cell? ⟨g,8+d*3,none⟩=some (.int .i64 (X d).f0)∧w'.cell? ⟨g,8+d*3+1,none⟩=some (.int .i64 (X d).f1)∧w'.cell? ⟨g,8+d*3+2,none⟩=some (.int .i64 (X d).f2))
    ((repeat' refine And.intro ?_ ?_)<;>first
      |((with_reducible refine far (far (far ?_ ?_) ?_) ?_)<;>first|exact blkne n1|exact blkne n2|exact Sine.keepc (w:=W1) qz89 qz27)
      |exact Sine.keepc (w:=W1) qz89 qz27)
    (first
      |(go_at_call 103;(with_reducible refine(HLS.out _ ?s1).mono ?_);(case s1=>exact HL.out.keep qz27);rintro e w' ⟨rfl,hw1⟩)
      |(go_at_call 102;(with_reducible refine(shiftPlus (shift x) (X d) (-1) _).mono ?_);rintro e w' ⟨rfl,hw2⟩)
      | (go_at_call 102;(with_reducible refine(shiftPlus (plus (shift x) (X d) (-1)) (X a) 1 _).mono ?_);rintro e w' ⟨rfl,hw3⟩
         have HB3:Aside0 (Below w.heap.size w w'):=⟨qz27⟩;have y0:=Sine.keepc (w:=W1) g0 (show Below W1.heap.size W1 w' from by(repeat(first|exact Below.refl _ _|apply pw_below_drewN|apply below_drew1|exact HB.out|refine below_step ?_ qz89));done);have u0:=keepz (w:=W1) g0 z0 (show Below W1.heap.size W1 w' from by(repeat(first|exact Below.refl _ _|apply pw_below_drewN|apply below_drew1|exact HB.out|refine below_step ?_ qz89));done);have y1:=Sine.keepc (w:=W1) g1 (show Below W1.heap.size W1 w' from by(repeat(first|exact Below.refl _ _|apply pw_below_drewN|apply below_drew1|exact HB.out|refine below_step ?_ qz89));done);have u1:=keepz (w:=W1) g1 z1 (show Below W1.heap.size W1 w' from by(repeat(first|exact Below.refl _ _|apply pw_below_drewN|apply below_drew1|exact HB.out|refine below_step ?_ qz89));done);have y2:=Sine.keepc (w:=W1) g2 (show Below W1.heap.size W1 w' from by(repeat(first|exact Below.refl _ _|apply pw_below_drewN|apply below_drew1|exact HB.out|refine below_step ?_ qz89));done)
         have u2:=keepz (w:=W1) g2 z2 (show Below W1.heap.size W1 w' from by(repeat(first|exact Below.refl _ _|apply pw_below_drewN|apply below_drew1|exact HB.out|refine below_step ?_ qz89));done)))
  go_wp2;exact bodyPost_ret (v:= .agg #[.int .i64 (plus (plus (shift x) (X d) (-1)) (X a) 1).f0,.int .i64 (plus (plus (shift x) (X d) (-1)) (X a) 1).f1,.int .i64 (plus (plus (shift x) (X d) (-1)) (X a) 1).f2]) (by simp[results,Tryd.results72,go_sem,y0,y1,y2]) rfl ⟨rfl,(by repeat(first|exact HB3.out|apply below_drew1|(refine below_set ?_ (by omega))))⟩
def Gate(ls:L)(b:Bool)(w:World)(e:Ending)(w':World):Prop:=∃g T cA cC,e= .returned (.tuple #[.pointer (some ⟨g,0,none⟩),.bool b])∧St ls.length T g (Pq (RR ls)) (Xq ls (RR ls)) (Bq (RR ls)) (.slice cA (closeL ls).length cC) w'∧Kd.R (Kd.int .i64) 3 w' w.heap.size (fun k=>k≠g∧k≠T) (.slice cA (closeL ls).length cC) (closeL ls)∧Below w.heap.size w w'
theorem closeL_len(ls:L):(closeL ls).length≤ls.length:=closeTo_len ls (RR ls) ls.length
theorem isStation_eq(x:Int):impl_isStation.f x=some (decide (0≤x∧x≤7)):=by
  unfold impl_isStation.f;rw[within_eq];rfl
theorem placedAt(A:Option Addr)(c:Nat)(ls:L)(s:Int)(w:World)(hL:Sine.Laid w)(hr0:Kd.C k49 w A ls.length ls)(hc:ls.length≤c)(hv:legsB ls=true)(h0:0≤s)(h1:s<8):
    Calls Tryd.prog 70 #[.slice A ls.length c,.int .i64 s] w (Gate ls (Pq (RR ls) s.toNat) w):=by
  have hv':=legsB_iff.mp hv;have hn:=hv'.2;obtain⟨K,hK⟩:=areLegs_ev ls (by omega);have HA:=ak (hK K (Nat.le_refl _));rw[hv]at HA;have HW:Aside0 (impl_isStation.f s=some true):=⟨(by rw[isStation_eq,decide_eq_true (by omega)])⟩;obtain⟨a,rfl⟩:=Int.eq_ofNat_of_zero_le h0;rw[Int.toNat_natCast];have HG:=ak hv'.1;have HR:=ak hr0;have HL:=ak hL;have HB:=ak (Below.refl w.heap.size w);clear hK hr0 hL hv hv';go_enter Tryd.func70,Tryd.ntmps70
  go_wp2_with (first
    |(go_at_call 62;(with_reducible refine(impl_areLegs.calls K _ _ ls true _ ?s1 ?s2 HA.out).mono ?_);(case s1=>exact Kd.C_below HR.out qz4);(case s2=>exact hc);rintro e w' ⟨rfl,hw⟩;replace HB:=ak (below_step (show Below w.heap.size w _ from by(repeat(first|exact HB.out|exact Below.refl _ _|apply below_alloc|apply pw_below_drewN|apply below_drew1));done) hw);clear hw)
    |(go_at_call 107;(with_reducible refine(impl_isStation.calls _ _ _ HW.out).mono ?_);rintro e w' ⟨rfl,⟨nd,rfl⟩⟩;replace HB:=ak (pw_below_drewN HB.out nd))
    |((go_at_call 63;(with_reducible refine(place _ c ls _ ?s1 ?s2 hc hn HG.out (RR ls) rfl).mono ?_);(case s1=>exact HL.out.keep qz4);(case s2=>exact Kd.C_below HR.out qz4);rintro e w' ⟨g,T,cl,rfl,hst,ho,hw⟩;have HO:Aside0 (Kd.R (Kd.int .i64) 3 w' w.heap.size (fun k=>k≠g∧k≠T) cl (closeL ls)):=⟨Kd.R_lower ho (below_size (show Below w.heap.size w _ from by(repeat(first|exact HB.out|exact Below.refl _ _|apply below_alloc|apply pw_below_drewN|apply below_drew1));done))⟩;replace HB:=ak (below_step (show Below w.heap.size w _ from by(repeat(first|exact HB.out|exact Below.refl _ _|apply below_alloc|apply pw_below_drewN|apply below_drew1));done) hw);have HS:=ak hst;clear hst ho hw;obtain⟨cA,cC,ecl⟩:=Kd.R_slice HO.out;subst ecl);have pa:=HS.out.pb a (by omega)))
  go_quiet (fail)
  go_wp2
  go_ret2
  exact⟨g,T,cA,cC,rfl,HS.out.keep (pw_below_drewN (Below.refl _ _) _),Kd.R_drewN HO.out _,pw_below_drewN HB.out _⟩
theorem placedAt_no(A:Option Addr)(c:Nat)(ls:L)(s:Int)(w:World)(hr0:Kd.C k49 w A ls.length ls)(hc:ls.length≤c)(hb:ls.length≤140737488351232)(hv:legsB ls=true→¬(0≤s∧s<8)):
    Calls Tryd.prog 70 #[.slice A ls.length c,.int .i64 s] w fun e w'=>e= .returned (.tuple #[.pointer none,.bool false])∧Below w.heap.size w w':=by
  obtain⟨K,hK⟩:=areLegs_ev ls hb;have HA:=ak (hK K (Nat.le_refl _));have HR:=ak hr0;have HB:=ak (Below.refl w.heap.size w);clear hK hr0;cases hq:legsB ls
  · rw[hq]at HA
    clear hq hv;go_enter Tryd.func70,Tryd.ntmps70;go_wp2_with (go_at_call 62;(with_reducible refine(impl_areLegs.calls K _ _ ls false _ ?s1 ?s2 HA.out).mono ?_);(case s1=>exact Kd.C_below HR.out qz4);(case s2=>exact hc);rintro e w' ⟨rfl,hw⟩;replace HB:=ak (below_step (show Below w.heap.size w _ from by(repeat(first|exact HB.out|exact Below.refl _ _|apply below_alloc|apply pw_below_drewN|apply below_drew1));done) hw);clear hw)
    go_ret2
    exact⟨rfl,HB.out⟩
  · rw[hq]at HA
    have hv2:=hv hq;have HW:Aside0 (impl_isStation.f s=some false):=⟨(by rw[isStation_eq,decide_eq_false (by omega)])⟩;clear hq hv;go_enter Tryd.func70,Tryd.ntmps70
    go_wp2_with (first
      |(go_at_call 62;(with_reducible refine(impl_areLegs.calls K _ _ ls true _ ?s1 ?s2 HA.out).mono ?_);(case s1=>exact Kd.C_below HR.out qz4);(case s2=>exact hc);rintro e w' ⟨rfl,hw⟩;replace HB:=ak (below_step (show Below w.heap.size w _ from by(repeat(first|exact HB.out|exact Below.refl _ _|apply below_alloc|apply pw_below_drewN|apply below_drew1));done) hw);clear hw)
      |(go_at_call 107;(with_reducible refine(impl_isStation.calls _ _ _ HW.out).mono ?_);rintro e w' ⟨rfl,⟨nd,rfl⟩⟩;replace HB:=ak (pw_below_drewN HB.out nd)))
    go_ret2
    exact⟨rfl,HB.out⟩
end Net
namespace Net
open YtcafgpincnkcdaaDoorW.PrintLast YtcafgpincnkcdaaDoorW.PrintMore A Plain
open Tree (verts legs W)
open Grow (Q sweep grow)
theorem RR_idx{ls:L}(hg:∀x∈ls,Good x):∀x∈RR ls,0≤x.1∧x.1<(ls.length:Int):=fun x hx=>((RR_ok hg).1.ends x hx).2
theorem err_exact{ls:L}(hg:∀x∈ls,Good x)(i:Nat)(hi:i<ls.length):errM (Xq ls (RR ls)) (leg ls i)=
    ⟨sh0 ls i-Sum.pl (ends ls) (sh0 ls) (RR ls) (ends ls i).2+Sum.pl (ends ls) (sh0 ls) (RR ls) (ends ls i).1,sh1 ls i-Sum.pl (ends ls) (sh1 ls) (RR ls) (ends ls i).2+Sum.pl (ends ls) (sh1 ls) (RR ls) (ends ls i).1,sh2 ls i-Sum.pl (ends ls) (sh2 ls) (RR ls) (ends ls i).2+Sum.pl (ends ls) (sh2 ls) (RR ls) (ends ls i).1⟩:=by
  have hgi:=leg_good hg i hi;have hl:=RR_len hg;have hsb:=sh_bound hg i (by omega) (by omega);have hp:=fun x=>plq_pl hg (q:=RR ls) (by omega) (RR_idx hg) x
  have b0:=fun x=>pl_bound (sh0 ls) (fun i a b=>(sh_bound hg i a b).1) (RR_idx hg) x
  have b1:=fun x=>pl_bound (sh1 ls) (fun i a b=>(sh_bound hg i a b).2.1) (RR_idx hg) x
  have b2:=fun x=>pl_bound (sh2 ls) (fun i a b=>(sh_bound hg i a b).2.2) (RR_idx hg) x
  have e1:Xq ls (RR ls) (leg ls i).f1.toNat=⟨Sum.pl (ends ls) (sh0 ls) (RR ls) (ends ls i).2,Sum.pl (ends ls) (sh1 ls) (RR ls) (ends ls i).2,Sum.pl (ends ls) (sh2 ls) (RR ls) (ends ls i).2⟩:=by
    unfold Xq;rw[Int.toNat_of_nonneg hgi.2.1.1];exact hp _
  have e0:Xq ls (RR ls) (leg ls i).f0.toNat=⟨Sum.pl (ends ls) (sh0 ls) (RR ls) (ends ls i).1,Sum.pl (ends ls) (sh1 ls) (RR ls) (ends ls i).1,Sum.pl (ends ls) (sh2 ls) (RR ls) (ends ls i).1⟩:=by
    unfold Xq;rw[Int.toNat_of_nonneg hgi.1.1];exact hp _
  unfold errM;rw[e1,e0];have c1:=b0 (ends ls i).1;have c2:=b0 (ends ls i).2;have c3:=b1 (ends ls i).1;have c4:=b1 (ends ls i).2;have c5:=b2 (ends ls i).1;have c6:=b2 (ends ls i).2;have es:shift (leg ls i)=⟨sh0 ls i,sh1 ls i,sh2 ls i⟩:=rfl;rw[es];clear e1 e0 es hp b0 b1 b2;generalize sh0 ls i=s0 at *;generalize sh1 ls i=s1 at *;generalize sh2 ls i=s2 at *;generalize Sum.pl (ends ls) (sh0 ls) (RR ls) (ends ls i).1=p1 at *;generalize Sum.pl (ends ls) (sh0 ls) (RR ls) (ends ls i).2=p2 at *;generalize Sum.pl (ends ls) (sh1 ls) (RR ls) (ends ls i).1=p3 at *;generalize Sum.pl (ends ls) (sh1 ls) (RR ls) (ends ls i).2=p4 at *;generalize Sum.pl (ends ls) (sh2 ls) (RR ls) (ends ls i).1=p5 at *;generalize Sum.pl (ends ls) (sh2 ls) (RR ls) (ends ls i).2=p6 at *;have x1:=(plus_exact (a:=⟨s0,s1,s2⟩) (b:=⟨p2,p4,p6⟩) ⟨qz35,qz35,qz35⟩ ⟨qz35,qz35,qz35⟩).2;rw[x1];exact(plus_exact (a:=⟨s0-p2,s1-p4,s2-p6⟩) (b:=⟨p1,p3,p5⟩) ⟨qz35,qz35,qz35⟩ ⟨qz35,qz35,qz35⟩).1
end Net
namespace Net
open Plain
theorem place_bound{ls:L}(hg:∀x∈ls,Good x)(s:Nat):(-3500≤(Xq ls (RR ls) s).f0∧(Xq ls (RR ls) s).f0≤3500)∧(-3500≤(Xq ls (RR ls) s).f1∧(Xq ls (RR ls) s).f1≤3500)∧(-3500≤(Xq ls (RR ls) s).f2∧(Xq ls (RR ls) s).f2≤3500):=by
  have hl:=RR_len hg;have b0:=pl_bound (sh0 ls) (fun i a b=>(sh_bound hg i a b).1) (RR_idx hg) (s:Int);have b1:=pl_bound (sh1 ls) (fun i a b=>(sh_bound hg i a b).2.1) (RR_idx hg) (s:Int);have b2:=pl_bound (sh2 ls) (fun i a b=>(sh_bound hg i a b).2.2) (RR_idx hg) (s:Int);unfold Xq;rw[plq_pl hg (q:=RR ls) (by omega) (RR_idx hg) (s:Int)];simp only;omega
end Net
namespace Net
open Go Go.Maps Go.WideElems Go.ChangeShapes YtcafgpincnkcdaaDoorW.PrintLast YtcafgpincnkcdaaDoorW.PrintMore A Plain
open Tree (verts legs W)
open Grow (Q)
theorem keyed3:Maps.Keyed Tryd.prog 3:=Maps.int_keyed Tryd.underlying3
theorem zero3(w:World):(zeroValue 3).run Tryd.prog w= .ok (.int .i64 0) w:=by kernel_rfl
def MapAt(w:World)(b:Nat)(n:Nat)(F:Int→Option Int):Prop:=∃D:DataW Unit,w.ownsMap Tryd.prog 3 (plainElem Tryd.prog 3) b n D∧∀x:Int,0≤x→x<100→Maps.has D (.int .i64 x)=(F x).isSome∧D.atKey (.int .i64 x) (.lit (.int .i64 0))= .lit (.int .i64 ((F x).getD 0))
theorem wf_small{x:Int}(h0: -100≤x)(h1:x<1000):(Lit.int .i64 x).wf=true:=by
  simp only[Lit.wf,IntKind.min,IntKind.max,IntKind.signed,IntKind.bits,Bool.and_eq_true,decide_eq_true_eq,if_true];omega
theorem MapAt.lt{w:World}{b n:Nat}{F:Int→Option Int}(h:MapAt w b n F):b<w.heap.size:=by
  obtain⟨D,h1,h2⟩:=h;exact h1.lt
theorem MapAt.below{w w':World}{b n:Nat}{F:Int→Option Int}(h:MapAt w b n F)(hb:Below w.heap.size w w'):MapAt w' b n F:=by
  obtain⟨D,h1,h2⟩:=h;have hlt:=h1.lt;obtain⟨es,clock,hh,F',hs,hD⟩:=h1;exact⟨D,⟨es,clock,(hb.block b hlt).trans hh,F',hs,hD⟩,h2⟩
theorem MapAt.look{w:World}{b n:Nat}{F:Int→Option Int}(h:MapAt w b n F)(x:Int)(h0:0≤x)(h1:x<100):
    (Instr.lookup 103 (.map (some b)) (.int .i64 x) true).run Tryd.prog w= .ok (.tuple #[.int .i64 ((F x).getD 0),.bool (F x).isSome]) w ∧
    (Instr.lookup 103 (.map (some b)) (.int .i64 x) false).run Tryd.prog w= .ok (.int .i64 ((F x).getD 0)) w:=by
  obtain⟨D,hown,hF⟩:=h;obtain⟨hh,hat⟩:=hF x h0 h1;have hkey:=keyOf_int_mk Tryd.underlying3 (wf_small (x:=x) (by omega) (by omega));have hz0:(Lit.int .i64 0).wf=true:=by decide
  obtain⟨v,ps,hrun,hv⟩:=hown.look_ok keyed3 Tryd.underlying103 (zero3 w) (plainElem_int Tryd.underlying3 hz0) hkey;obtain⟨c,rfl,hc,_⟩:=plainElem_int_inv Tryd.underlying3 hv;obtain⟨c2,hrun2,hc2,_⟩:=hown.lookup_int keyed3 Tryd.underlying103 Tryd.underlying3 (zero3 w) hkey;rw[hat]at hc2 hc;have e1:(F x).getD 0=c:=by simpa using congrArg Prod.fst hc
  have e2:(F x).getD 0=c2:=by simpa using hc2
  rw[hrun,hrun2,hh,←e1,←e2];exact⟨rfl,rfl⟩
theorem MapAt.store{w:World}{b n:Nat}{F:Int→Option Int}(h:MapAt w b n F)(hn:n<1000)(x v:Int)(h0:0≤x)(h1:x<100)(hv: -100≤v)(hv1:v<1000):
    ∃w',(Instr.mapUpdate 103 (.map (some b)) (.int .i64 x) (.int .i64 v)).run Tryd.prog w= .ok () w'∧MapAt w' b (n+1) (fun y=>if y=x then some v else F y)∧w.grownBy w' (some b):=by
  obtain⟨D,hown,hF⟩:=h;have hkey:=keyOf_int_mk Tryd.underlying3 (wf_small (x:=x) (by omega) (by omega));obtain⟨w',hrun,hown',hg⟩:=hown.update keyed3 Tryd.underlying103 (by unfold maxLen;omega) hkey (plainElem_int Tryd.underlying3 (wf_small hv hv1));refine⟨w',hrun,⟨_,hown',fun y y0 y1=>?_⟩,hg⟩;have hD:=hown.isMap;have hk:∀z:Int,WideAt.IsKeyLit (.int .i64 z):=fun z=>trivial
  obtain⟨f1,f2⟩:=hF y y0 y1
  dsimp only
  by_cases e:y=x
  · subst e
    rw[if_pos rfl,Maps.has_put_same hD (hk y),Maps.atKey_put_same hD (hk y)];exact⟨rfl,rfl⟩
  · have hne:(Lit.int .i64 y:Lit)≠ .int .i64 x:=fun h=>e (by injection h)
    rw[if_neg e,Maps.has_put_other hne,Maps.atKey_put_other hne];exact⟨f1,f2⟩
def trail(e:Int→Int×Int):Int→List Int→List Int
  |a,[]=>[a]
  |a,i::l=>a::trail e ((e i).1+(e i).2-a) l
theorem back_len{e:Int→Int×Int}{use:Int→Bool}{r:Int}{n:Nat}{q:Q}(h:Bfs.Ok e use r n q){cur:Int}(hc:cur∈verts r q):(Bfs.back q cur).length≤q.length:=by
  rw[Bfs.back_eq r h.tr hc];exact Tree.W_len q cur r
theorem trail_cons(e:Int→Int×Int)(a:Int)(l:List Int):trail e a l=a::(trail e a l).tail:=by cases l<;>rfl
theorem trail_len(e:Int→Int×Int):∀(l:List Int) (a:Int),(trail e a l).length=l.length+1
  |[],a=>rfl
  |i::l,a=>by simp[trail,trail_len e l]
def BackInv(e:Int→Int×Int)(r dst:Int)(R:Q)(cur:Int)(st lst:List Int):Prop:=cur∈verts r R∧lst++Bfs.back R cur=Bfs.back R dst∧st++(trail e cur (Bfs.back R cur)).tail=trail e dst (Bfs.back R dst)
theorem BackInv.start{e:Int→Int×Int}{r dst:Int}{R:Q}(h:dst∈verts r R):BackInv e r dst R dst [dst] []:=⟨h,rfl,(by rw[List.singleton_append,←trail_cons])⟩
theorem BackInv.next{e:Int→Int×Int}{r dst:Int}{R:Q}{cur i u:Int}{st lst:List Int}(h:BackInv e r dst R cur st lst)(hb:Bfs.back R cur=i::Bfs.back R u)(hu:u∈verts r R)(he:(e i).1+(e i).2-cur=u):BackInv e r dst R u (st++[u]) (lst++[i]):=by
  obtain⟨h1,h2,h3⟩:=h;refine⟨hu,(by rw[←h2,hb];simp),?_⟩;rw[←h3,hb];simp only[trail,he,List.tail_cons];rw[List.append_assoc,List.singleton_append,←trail_cons]
theorem BackInv.len{e:Int→Int×Int}{r dst:Int}{R:Q}{cur:Int}{st lst:List Int}(h:BackInv e r dst R cur st lst){n:Nat}{use:Int→Bool}(ok:Bfs.Ok e use r n R)(hd:dst∈verts r R):lst.length≤R.length∧st.length≤R.length+1:=by
  obtain⟨h1,h2,h3⟩:=h;have a:=congrArg List.length h2;have b:=congrArg List.length h3;have c:=back_len ok hd;rw[List.length_append]at a b;rw[trail_len]at b;omega
def OutInv(ls:L)(use:Int→Bool)(r:Int)(R:Q)(k:Nat)(q:Q):Prop:=Bfs.Ok (ends ls) use r ls.length q∧k≤q.length+1∧∃f,Bfs.run (ends ls) use r ls.length f k q=R∧8<f+k
def InInv(ls:L)(use:Int→Bool)(r:Int)(a:Int)(q:Q)(i:Nat)(p:Q):Prop:=Bfs.Ok (ends ls) use r ls.length p∧Bfs.Ext q p∧Bfs.scan (ends ls) use r a (ls.length-i) i p=Bfs.scan (ends ls) use r a ls.length 0 q
theorem InInv.next{ls:L}{use:Int→Bool}{r a:Int}{q p:Q}{i:Nat}(h:InInv ls use r a q i p)(hi:i<ls.length)(ha:a∈verts r q):InInv ls use r a q (i+1) (Bfs.look (ends ls) use r a p i):=by
  obtain⟨h1,h2,h3⟩:=h;refine⟨h1.look (ends ls) use r (h2.verts r ha) (by omega) (by omega),h2.trans (Bfs.look_ext (ends ls) use r a p i),?_⟩;rw[←h3,show ls.length-i=(ls.length-(i+1))+1 by omega];rfl
theorem InInv.skip{ls:L}{use:Int→Bool}{r a:Int}{q p:Q}{i:Nat}(h:InInv ls use r a q i p)(hi:i<ls.length)(hs:((ends ls i).1≠a∧(ends ls i).2≠a)∨use i=false):InInv ls use r a q (i+1) p:=by
  obtain⟨h1,h2,h3⟩:=h;refine⟨h1,h2,?_⟩;rw[←h3,show ls.length-i=(ls.length-(i+1))+1 by omega];have e:Bfs.look (ends ls) use r a p i=p:=by unfold Bfs.look;rw[if_pos hs]
  show _=Bfs.scan (ends ls) use r a _ ((i:Int)+1) (Bfs.look (ends ls) use r a p i);rw[e];rfl
theorem OutInv.next{ls:L}{use:Int→Bool}{r a:Int}{q p R:Q}{k:Nat}(h:OutInv ls use r R k q)(hp:InInv ls use r a q ls.length p)(hk:k<(Bfs.queue r q).length)(ha:a=(Bfs.queue r q).getD k 0)(h7:q.length≤7):OutInv ls use r R (k+1) p:=by
  obtain⟨h1,h2,f,h3,h4⟩:=h;obtain⟨p1,⟨t,ht⟩,p3⟩:=hp;have hql:=Bfs.queue_len r q;rw[Nat.sub_self]at p3;obtain⟨f,rfl⟩:∃m,f=m+1:=⟨f-1,by omega⟩
  refine⟨p1,(by rw[ht,List.length_append];omega),f,?_,by omega⟩;rw[Bfs.run,if_pos hk,←ha]at h3;have p3':p=Bfs.scan (ends ls) use r a ls.length 0 q:=p3;rw[p3'];exact h3
theorem OutInv.stop{ls:L}{use:Int→Bool}{r:Int}{q R:Q}{k:Nat}(h:OutInv ls use r R k q)(hk:¬k<(Bfs.queue r q).length):R=q:=by
  obtain⟨h1,h2,f,h3,h4⟩:=h
  cases f with
  |zero=>exact h3.symm
  |succ f=>rw[Bfs.run,if_neg hk]at h3;exact h3.symm
end Net
namespace Net
open YtcafgpincnkcdaaDoorW.PrintLast YtcafgpincnkcdaaDoorW.PrintMore A Plain
open Tree (verts legs W)
open Grow (Q sweep grow)
open Conn (Conn)
end Net
namespace Net
open Go YtcafgpincnkcdaaDoorW.PrintLast YtcafgpincnkcdaaDoorW.PrintMore A Plain
open Tree (verts legs W)
open Grow (Q)
end Net
namespace Net
open YtcafgpincnkcdaaDoorW.PrintLast YtcafgpincnkcdaaDoorW.PrintMore A Plain
theorem l6Has_ev(ls:L)(s:Int)(hb:ls.length≤140737488351232):Ev (fun m=>spec_l6Has.f m ls s) (legsB ls && decide (s∈plL (RR ls))):=by
  unfold spec_l6Has.f;refine Ev.bind (l4Legs_ev ls hb) ?_;cases h:legsB ls
  · exact Ev.neg (by decide) (Ev.now _)
  · have h':=legsB_iff.mp h
    have hs:=plL_small h'.1;exact Ev.pos rfl (Ev.bind (place_ev ls h'.2 h'.1 (RR ls) rfl) (Ev.bind (has_ev _ _ (by show(plL (RR ls)).length≤_;omega)) (Ev.now _)))
end Net
end Go.Proofs.YtcafgpincnkcdaaDoor
