/- The program's fixed, walked. -/
import Derived.Test.YtmgkbhhnchnkcaaGreatDoorKFnFixesU6
set_option maxHeartbeats 4000000
set_option maxRecDepth 100000
set_option linter.unusedSimpArgs false
set_option linter.unusedVariables false
namespace Go.Proofs.YtmgkbhhnchnkcaaGreatDoor
namespace Net
open Go.RowKit YtmgkbhhnchnkcaaGreatDoorW.PrintWords Plain Det
section
variable {ls:L}
def vAt(x:Nat→Int)(a:Int):Int:=if 0≤a then x a.toNat else 0
theorem sumTo_indv(n:Nat)(x:Nat→Int)(c:Int)(hc:c<(n:Int))(p:Prop)[Decidable p]:sumTo n (fun j=>(if p∧(j:Int)=c then 1 else 0)*x j)=if p then vAt x c else 0:=by
  unfold vAt;by_cases hp:p∧0≤c
  · obtain⟨m,rfl⟩:=Int.eq_ofNat_of_zero_le hp.2
    rw[if_pos hp.1,if_pos hp.2,sumTo_single (j:=m) (g:=fun _=>0) (by omega) (fun l _ hl=>by rw[if_neg (fun e=>hl (by omega)),Int.zero_mul]) rfl,if_pos ⟨hp.1,rfl⟩,sumTo_zero (fun _ _=>rfl),Int.add_zero,Int.one_mul,Int.toNat_natCast]
  · rw[sumTo_zero (fun j _=>by rw[if_neg (fun e=>hp ⟨e.1,by omega⟩),Int.zero_mul])]
    by_cases c1:p
    · rw[if_pos c1,if_neg (fun e=>hp ⟨c1,e⟩)]
    · rw[if_neg c1]
theorem lapD_mul(n:Nat)(x:Nat→Int)(a b:Int)(ha:a<(n:Int))(hb:b<(n:Int))(i:Nat):sumTo n (fun j=>lapD a b i j*x j)=rgtD a b (vAt x b-vAt x a) i:=by
  have e:(fun j:Nat=>lapD a b i j*x j)=fun j:Nat=>(if(i:Int)=a∧(j:Int)=a then 1 else 0)*x j+(if(i:Int)=b∧(j:Int)=b then 1 else 0)*x j-(if(i:Int)=a∧(j:Int)=b then 1 else 0)*x j-(if(i:Int)=b∧(j:Int)=a then 1 else 0)*x j:=by
    funext j
    rw[lapD_eq,Int.sub_mul,Int.sub_mul,Int.add_mul]
  rw[e,sum_add3,sumTo_indv n x a ha,sumTo_indv n x b hb,sumTo_indv n x b hb,sumTo_indv n x a ha];unfold rgtD;split<;>split<;>omega
theorem rgtD_mul(n:Nat)(x:Nat→Int)(a b v:Int)(ha:a<(n:Int))(hb:b<(n:Int)):sumTo n (fun r=>x r*rgtD a b v r)=v*(vAt x b-vAt x a):=by
  have e1:=sumTo_indv n x a ha True;have e2:=sumTo_indv n x b hb True;simp only[true_and,if_true]at e1 e2
  have e:(fun r:Nat=>x r*rgtD a b v r)=fun r:Nat=>v*((if(r:Int)=b then 1 else 0)*x r)+(-v)*((if(r:Int)=a then 1 else 0)*x r):=by
    funext r
    unfold rgtD;by_cases c1:(r:Int)=b<;>by_cases c2:(r:Int)=a<;>simp only[c1,c2,if_true,if_false]<;>grind
  rw[e,sumTo_add,sumTo_mul,sumTo_mul,e1,e2]
  grind
theorem rgtD_lin(a b u v:Int)(r:Nat):rgtD a b (u-v) r=rgtD a b u r-rgtD a b v r:=by unfold rgtD;split<;>split<;>omega
theorem rgtD_scale(a b c v:Int)(r:Nat):rgtD a b (c*v) r=c*rgtD a b v r:=by
  unfold rgtD;by_cases c1:(r:Int)=b<;>by_cases c2:(r:Int)=a<;>simp only[c1,c2,if_true,if_false]<;>grind
def dT(ls:L)(ax k:Int):Int:=vAt (coM ls ax) (fb ls k)-vAt (coM ls ax) (fa ls k)
def nT(ls:L)(ax k:Int):Int:=treesM ls*meas ls ax k-dT ls ax k
theorem balance(hn:ls.length≤12)(hg:∀x∈ls,Good x)(ax:Int)(r:Nat)(hr:r<(unkL ls).length):tot (fun k=>rgtD (fa ls k) (fb ls k) (nT ls ax k) r) (usedL ls)=0:=by
  have h:=co_solve hn hg ax r hr
  have e1:sumTo (unkL ls).length (fun j=>LT ls r j*coM ls ax j)=tot (fun k=>rgtD (fa ls k) (fb ls k) (dT ls ax k) r) (usedL ls):=by
    have e2:∀j,LT ls r j*coM ls ax j=tot (fun k=>lapD (fa ls k) (fb ls k) r j*coM ls ax j) (usedL ls):=fun j=>by
      rw[Int.mul_comm,LT_eq,←tot_mul];exact tot_congr (fun k _=>Int.mul_comm _ _)
    rw[sumTo_congr (fun j _=>e2 j),sumTo_tot];exact tot_congr (fun k _=>lapD_mul _ _ _ _ (fa_lt ls k) (fb_lt ls k) r)
  have e3:treesM ls*RT ls ax r=tot (fun k=>rgtD (fa ls k) (fb ls k) (treesM ls*meas ls ax k) r) (usedL ls):=by
    rw[RT_eq,←tot_mul];exact tot_congr (fun k _=>(rgtD_scale _ _ _ _ _).symm)
  have e4:tot (fun k=>rgtD (fa ls k) (fb ls k) (nT ls ax k) r) (usedL ls)=tot (fun k=>rgtD (fa ls k) (fb ls k) (treesM ls*meas ls ax k) r) (usedL ls)+(-1)*tot (fun k=>rgtD (fa ls k) (fb ls k) (dT ls ax k) r) (usedL ls):=by
    rw[←tot_mul,←tot_add];exact tot_congr (fun k _=>by unfold nT;rw[rgtD_lin];omega)
  rw[e4,←e3,←e1,h];omega
theorem orth(hn:ls.length≤12)(hg:∀x∈ls,Good x)(ax:Int):tot (fun k=>nT ls ax k*dT ls ax k) (usedL ls)=0:=by
  have e:tot (fun k=>nT ls ax k*dT ls ax k) (usedL ls)=sumTo (unkL ls).length (fun r=>tot (fun k=>coM ls ax r*rgtD (fa ls k) (fb ls k) (nT ls ax k) r) (usedL ls)):=by
    rw[sumTo_tot];exact tot_congr (fun k _=>(rgtD_mul _ _ _ _ _ (fa_lt ls k) (fb_lt ls k)).symm)
  rw[e];refine sumTo_zero (fun r hr=>?_);rw[tot_mul,balance hn hg ax r hr,Int.mul_zero]
theorem sq_sum(hn:ls.length≤12)(hg:∀x∈ls,Good x)(ax:Int):tot (fun k=>nT ls ax k*nT ls ax k) (usedL ls)=treesM ls*tot (fun k=>nT ls ax k*meas ls ax k) (usedL ls):=by
  have h:=orth hn hg ax
  have e:tot (fun k=>nT ls ax k*nT ls ax k) (usedL ls)=tot (fun k=>treesM ls*(nT ls ax k*meas ls ax k)) (usedL ls)+(-1)*tot (fun k=>nT ls ax k*dT ls ax k) (usedL ls):=by
    rw[←tot_mul,←tot_add]
    exact tot_congr (fun k _=>by
      have e2:nT ls ax k=treesM ls*meas ls ax k-dT ls ax k:=rfl;generalize nT ls ax k=n at *
      grind)
  rw[e,tot_mul,h];omega
theorem sq_nonneg(x:Int):0≤x*x:=by
  rcases Int.le_total 0 x with h|h
  · exact Int.mul_nonneg h h
  · exact Int.mul_nonneg_of_nonpos_of_nonpos h h
theorem sq_le(hn:ls.length≤12)(hg:∀x∈ls,Good x)(ax:Int):tot (fun k=>nT ls ax k*nT ls ax k) (usedL ls)≤treesM ls*treesM ls*tot (fun k=>meas ls ax k*meas ls ax k) (usedL ls):=by
  have h:=sq_sum hn hg ax;have hp:=tot_nonneg (f:=fun k=>(treesM ls*meas ls ax k-nT ls ax k)*(treesM ls*meas ls ax k-nT ls ax k)) (l:=usedL ls) (fun k _=>sq_nonneg _)
  have e:tot (fun k=>(treesM ls*meas ls ax k-nT ls ax k)*(treesM ls*meas ls ax k-nT ls ax k)) (usedL ls)=treesM ls*treesM ls*tot (fun k=>meas ls ax k*meas ls ax k) (usedL ls)+((-2*treesM ls)*tot (fun k=>nT ls ax k*meas ls ax k) (usedL ls)+tot (fun k=>nT ls ax k*nT ls ax k) (usedL ls)):=by
    rw[←tot_mul,←tot_mul,←tot_add,←tot_add];exact tot_congr (fun k _=>by grind)
  rw[e]at hp;have e2:(-2*treesM ls)*tot (fun k=>nT ls ax k*meas ls ax k) (usedL ls)= -2*tot (fun k=>nT ls ax k*nT ls ax k) (usedL ls):=by rw[h,Int.mul_assoc]
  omega
theorem meas_sq(hn:ls.length≤12)(hg:∀x∈ls,Good x)(ax:Int):tot (fun k=>meas ls ax k*meas ls ax k) (usedL ls)≤3000000:=by
  refine Int.le_trans (tot_le (g:=fun _=>250000) (fun k hk=>?_)) ?_
  · have h:=RT_meas (ax:=ax) hg hk
    have h2:=Elim.mul_le_sq (B:=500) (by decide) h h;have h3:meas ls ax k*meas ls ax k≤ab (meas ls ax k*meas ls ax k):=by unfold ab;omega
    omega
  · rw[tot_const]
    have:=usedL_len ls;omega
theorem sq_bound(hn:ls.length≤12)(hg:∀x∈ls,Good x)(ax:Int):tot (fun k=>nT ls ax k*nT ls ax k) (usedL ls)≤129140163000000:=by
  have h1:=sq_le hn hg ax;have h2:=meas_sq hn hg ax;have h3:=trees_pos hn hg;have h4:=trees_le hn hg;have h5:treesM ls*treesM ls≤6561*6561:=Int.mul_le_mul h4 h4 (by omega) (by decide);have h6:=tot_nonneg (f:=fun k=>meas ls ax k*meas ls ax k) (l:=usedL ls) (fun k _=>sq_nonneg _);have h7:treesM ls*treesM ls*tot (fun k=>meas ls ax k*meas ls ax k) (usedL ls)≤6561*6561*3000000:=Int.mul_le_mul h5 h2 h6 (by decide);have h8:(6561*6561*3000000:Int)=129140163000000:=by decide
  omega
end
end Net
namespace Frac
def Red(n d N T:Int):Prop:=0<d∧Int.gcd n d=1∧n*T=N*d
theorem Red.dvd{n d n' d':Int}(h1:Int.gcd n d=1)(e:n*d'=n'*d):d∣d':=by
  have hd:d∣n*d':=⟨n',(by rw[e,Int.mul_comm])⟩;have h2:d.natAbs∣n.natAbs*d'.natAbs:=by rw[←Int.natAbs_mul];exact Int.natAbs_dvd_natAbs.mpr hd
  exact Int.natAbs_dvd_natAbs.mp (Nat.Coprime.dvd_of_dvd_mul_left (show Nat.gcd d.natAbs n.natAbs=1 by rw[Nat.gcd_comm];exact h1) h2)
theorem Red.unique{n d n' d' N T:Int}(hT:0<T)(h:Red n d N T)(h':Red n' d' N T):n=n'∧d=d':=by
  obtain⟨p1,p2,p3⟩:=h;obtain⟨q1,q2,q3⟩:=h'
  have e:n*d'=n'*d:=by
    have e1:T*(n*d')=T*(n'*d):=by
      have a:n*T*d'=n'*T*d:=by rw[p3,q3,Int.mul_assoc,Int.mul_assoc,Int.mul_comm d]
      grind
    exact Int.eq_of_mul_eq_mul_left (by omega) e1
  have h1:=Red.dvd p2 e;have h2:=Red.dvd q2 e.symm;have hd:d=d':=Int.dvd_antisymm (by omega) (by omega) h1 h2;subst hd;exact⟨Int.eq_of_mul_eq_mul_right (by omega) e,rfl⟩
theorem tdiv_exact{a g:Int}(hg:g≠0)(h:g∣a):a.tdiv g*g=a:=Int.tdiv_mul_cancel h
theorem Red.of_div{N D:Int}(hD:0<D):Red (N.tdiv (Int.gcd N D)) (D.tdiv (Int.gcd N D)) N D:=by
  have hg:0<(Int.gcd N D:Int):=by
    have:=Int.gcd_pos_of_ne_zero_right N (show D≠0 by omega);omega
  have h1:=tdiv_exact (a:=N) (g:=Int.gcd N D) (by omega) (Int.gcd_dvd_left ..);have h2:=tdiv_exact (a:=D) (g:=Int.gcd N D) (by omega) (Int.gcd_dvd_right ..);generalize hn:N.tdiv (Int.gcd N D)=n at *;generalize hd:D.tdiv (Int.gcd N D)=d at *;generalize hgg:Int.gcd N D=g at *
  have hdp:0<d:=by
    rcases Int.lt_or_le 0 d with c|c
    · exact c
    · exfalso
      have:=Int.mul_le_mul_of_nonneg_right c (Int.le_of_lt hg);omega
  refine⟨hdp,?_,?_⟩
  · have e:Int.gcd (n*g) (d*g)=g:=by rw[h1,h2,hgg]
    rw[Int.gcd_mul_right]at e;simp only[Int.natAbs_natCast]at e;have hgn:0<g:=by omega
    exact Nat.eq_of_mul_eq_mul_right hgn (by rw[e,Nat.one_mul])
  · rw[←h1,←h2]
    generalize (g:Int)=z
    grind
theorem Red.change{n d x y N T:Int}(hy:0<y)(h:Red n d x y)(e:x*T=N*y):Red n d N T:=by
  obtain⟨p1,p2,p3⟩:=h;refine⟨p1,p2,?_⟩
  have e1:y*(n*T)=y*(N*d):=by
    have a:n*y*T=x*d*T:=by rw[p3]
    have b:x*T*d=N*y*d:=by rw[e]
    grind
  exact Int.eq_of_mul_eq_mul_left (by omega) e1
theorem Red.sum{n d a b N A T g:Int}(hd:0<d)(hb:0<b)(hg:0<g)(h1:n*T=N*d)(h2:a*T=A*b){d' b':Int}(e1:d'*g=d)(e2:b'*g=b):(n*b'+a*d')*T=(N+A)*(d'*b):=by
  have a1:n*T*b'=N*d*b':=by rw[h1]
  have a2:a*T*d'=A*b*d':=by rw[h2]
  subst e1;subst e2
  grind
theorem gcd_step(a b:Int)(hb:b≠0):Int.gcd b (a.tmod b)=Int.gcd a b:=by
  unfold Int.gcd;rw[Int.natAbs_tmod,Nat.gcd_comm a.natAbs,Nat.gcd_rec b.natAbs a.natAbs,Nat.gcd_comm]
theorem tmod_lt(a b:Int)(hb:b≠0):(a.tmod b).natAbs<b.natAbs:=by
  rw[Int.natAbs_tmod];exact Nat.mod_lt _ (by omega)
def cmp(a b c d:Int):Int:=if a*d<c*b then -1 else if c*b<a*d then 1 else 0
theorem cmp_lt{a b c d:Int}(hb:0<b)(hd:0<d)(ha:0≤a)(hc:0≤c)(h:a.tdiv b<c.tdiv d):cmp a b c d= -1:=by
  have e1:=Int.tmod_add_mul_tdiv a b;have e2:=Int.tmod_add_mul_tdiv c d;have r1:=Int.tmod_lt_of_pos a hb;have r2:=Int.tmod_nonneg d hc;generalize a.tdiv b=q at *;generalize c.tdiv d=p at *;generalize a.tmod b=x at *;generalize c.tmod d=y at *;unfold cmp;rw[if_pos];subst e1;subst e2;have h1:x*d<b*d:=Int.mul_lt_mul_of_pos_right r1 hd;have h2:0≤y*b:=Int.mul_nonneg r2 (Int.le_of_lt hb);have h3:b*d*(q+1)≤b*d*p:=Int.mul_le_mul_of_nonneg_left (by omega) (Int.le_of_lt (Int.mul_pos hb hd))
  grind
theorem cmp_swap(a b c d:Int):cmp c d a b= - cmp a b c d:=by
  unfold cmp;split<;>split<;>(try split)<;>omega
theorem cmp_gt{a b c d:Int}(hb:0<b)(hd:0<d)(ha:0≤a)(hc:0≤c)(h:c.tdiv d<a.tdiv b):cmp a b c d=1:=by
  have:=cmp_lt hd hb hc ha h;rw[cmp_swap]at this;omega
theorem cmp_rest{a b c d:Int}(h:a.tdiv b=c.tdiv d):cmp a b c d=cmp (a.tmod b) b (c.tmod d) d:=by
  have e1:=Int.tmod_add_mul_tdiv a b;have e2:=Int.tmod_add_mul_tdiv c d;rw[h]at e1;generalize c.tdiv d=p at *;generalize a.tmod b=x at *;generalize c.tmod d=y at *;subst e1;subst e2;unfold cmp;have e:(x+b*p)*d-(y+d*p)*b=x*d-y*b:=by grind
  by_cases c1:x*d<y*b
  · rw[if_pos c1,if_pos (by omega)]
  · rw[if_neg c1,if_neg (by omega)]
    by_cases c2:y*b<x*d
    · rw[if_pos c2,if_pos (by omega)]
    · rw[if_neg c2,if_neg (by omega)]
theorem cmp_flip(x b y d:Int):cmp b x d y= - cmp x b y d:=by
  unfold cmp;rw[Int.mul_comm b y,Int.mul_comm d x];by_cases c1:x*d<y*b
  · rw[if_neg (by omega),if_pos c1,if_pos c1];omega
  · by_cases c2:y*b<x*d
    · rw[if_pos c2,if_neg c1,if_pos c2]
    · rw[if_neg c2,if_neg c1,if_neg c1,if_neg c2];omega
theorem cmp_zero_left{b y d:Int}(hb:0<b)(hy:0<y):cmp 0 b y d= -1:=by
  unfold cmp;rw[Int.zero_mul,if_pos (Int.mul_pos hy hb)]
theorem cmp_zero_right{x b d:Int}(hd:0<d)(hx:0<x):cmp x b 0 d=1:=by
  have h:=Int.mul_pos hx hd;unfold cmp;rw[Int.zero_mul,if_neg (by omega),if_pos h]
theorem cmp_zero(b d:Int):cmp 0 b 0 d=0:=by unfold cmp;simp
end Frac
namespace Frac
open Go.RowKit YtmgkbhhnchnkcaaGreatDoorW.PrintWords Plain
theorem gcd_loop{β:Type}{g:Nat→Int→Int→Option β}{fin:Int→β}(h0:∀k a,g (k+1) a 0=some (fin a))(h1:∀k a b,b≠0→g (k+1) a b=g k b (Int.tmod a b)):
    ∀(n:Nat) (a b:Int),b.natAbs<n→∃z:Int,z.natAbs=Int.gcd a b∧(0≤a→0≤b→0≤z)∧Ev (fun k=>g k a b) (fin z):=by
  intro n
  induction n with
  |zero=>intro a b h;omega
  | succ n ih=>
    intro a b h;by_cases hb:b=0
    · subst hb
      refine⟨a,(by rw[Int.gcd_zero_right]),fun h _=>h,⟨1,fun k hk=>?_⟩⟩;obtain⟨k,rfl⟩:∃m,k=m+1:=⟨k-1,by omega⟩
      exact h0 k a
    · obtain⟨z,hz,hs,K,hK⟩:=ih b (Int.tmod a b) (by have:=tmod_lt a b hb;omega)
      refine⟨z,(by rw[hz,gcd_step a b hb]),fun ha hb'=>hs hb' (Int.tmod_nonneg b ha),⟨K+1,fun k hk=>?_⟩⟩;obtain⟨k,rfl⟩:∃m,k=m+1:=⟨k-1,by omega⟩
      show g (k+1) a b=_;rw[h1 k a b hb];exact hK k (by omega)
end Frac
namespace Net
open Go.RowKit YtmgkbhhnchnkcaaGreatDoorW.PrintWords Plain Frac
section
variable {ls:L}
def SA(ls:L)(ax:Int):Int:=tot (fun k=>nT ls ax k*nT ls ax k) (usedL ls)
def AM(ls:L)(ax:Int):Int:=tot (fun k=>nT ls ax k*meas ls ax k) (usedL ls)
theorem SA_nonneg(ls:L)(ax:Int):0≤SA ls ax:=tot_nonneg (fun _ _=>sq_nonneg _)
theorem SA_AM(hn:ls.length≤12)(hg:∀x∈ls,Good x)(ax:Int):SA ls ax=treesM ls*AM ls ax:=sq_sum hn hg ax
theorem AM_bound(hn:ls.length≤12)(hg:∀x∈ls,Good x)(ax:Int):0≤AM ls ax∧AM ls ax≤19683000000:=by
  have h1:=SA_AM hn hg ax;have h2:=SA_nonneg ls ax;have h3:SA ls ax≤treesM ls*treesM ls*tot (fun k=>meas ls ax k*meas ls ax k) (usedL ls):=sq_le hn hg ax;have h4:=trees_pos hn hg;have h5:=trees_le hn hg;have h6:=meas_sq hn hg ax;have h7:=tot_nonneg (f:=fun k=>meas ls ax k*meas ls ax k) (l:=usedL ls) (fun k _=>sq_nonneg _);generalize tot (fun k=>meas ls ax k*meas ls ax k) (usedL ls)=m at *;generalize AM ls ax=a at *;generalize treesM ls=t at *;rw[h1]at h2 h3;refine⟨?_,?_⟩
  · exact Int.le_of_mul_le_mul_left (a:=t) (by omega) (by omega)
  · have h8:a≤t*m:=Int.le_of_mul_le_mul_left (a:=t) (by rw[←Int.mul_assoc];exact h3) (by omega)
    have h9:t*m≤6561*3000000:=Int.mul_le_mul h5 h6 h7 (by decide);omega
theorem Red.le{n d N T:Int}(hT:0<T)(hN:0≤N)(h:Red n d N T):d≤T∧0≤n∧n≤N:=by
  obtain⟨p1,p2,p3⟩:=h;have hd:d∣T:=Red.dvd p2 p3;have h1:=Int.le_of_dvd hT hd
  have h0:0≤n:=by
    rcases Int.lt_or_le n 0 with c|c
    · exfalso
      have a:=Int.mul_neg_of_neg_of_pos c hT;have b:=Int.mul_nonneg hN (Int.le_of_lt p1);omega
    · exact c
  refine⟨h1,h0,?_⟩;have h2:N*d≤N*T:=Int.mul_le_mul_of_nonneg_left h1 hN;exact Int.le_of_mul_le_mul_right (a:=T) (by omega) hT
def sN(ls:L):Int:=AM ls 0+AM ls 1+AM ls 2
def sNum(ls:L):Int:=(sN ls).tdiv (Int.gcd (sN ls) (treesM ls))
def sDen(ls:L):Int:=(treesM ls).tdiv (Int.gcd (sN ls) (treesM ls))
theorem sRed(hn:ls.length≤12)(hg:∀x∈ls,Good x):Red (sNum ls) (sDen ls) (sN ls) (treesM ls):=Red.of_div (by have:=trees_pos hn hg;omega)
theorem sN_bound(hn:ls.length≤12)(hg:∀x∈ls,Good x):0≤sN ls∧sN ls≤59049000000:=by
  have h0:=AM_bound hn hg 0;have h1:=AM_bound hn hg 1;have h2:=AM_bound hn hg 2;unfold sN;omega
theorem s_bound(hn:ls.length≤12)(hg:∀x∈ls,Good x):(0<sDen ls∧sDen ls≤6561)∧0≤sNum ls∧sNum ls≤59049000000:=by
  have hr:=sRed hn hg;have ht:=trees_pos hn hg;have hl:=trees_le hn hg;have hb:=sN_bound hn hg;have h:=Red.le (by omega) hb.1 hr;exact⟨⟨hr.1,by omega⟩,h.2.1,by omega⟩
theorem strain_impl(hn:ls.length≤12)(hg:∀x∈ls,Good x){n d:Int}(h:Red n d (SA ls 0+SA ls 1+SA ls 2) (treesM ls*treesM ls)):n=sNum ls∧d=sDen ls:=by
  have ht:=trees_pos hn hg;refine Red.unique (T:=treesM ls) (by omega) (Red.change (Int.mul_pos (by omega) (by omega)) h ?_) (sRed hn hg);rw[SA_AM hn hg,SA_AM hn hg,SA_AM hn hg];unfold sN
  grind
theorem squares_red(hn:ls.length≤12)(hg:∀x∈ls,Good x){ax n d:Int}(h:Red n d (SA ls ax) (treesM ls*treesM ls)):Red n d (AM ls ax) (treesM ls):=by
  have ht:=trees_pos hn hg;refine Red.change (Int.mul_pos (by omega) (by omega)) h ?_;rw[SA_AM hn hg]
  grind
end
end Net
namespace Net
open Go.RowKit YtmgkbhhnchnkcaaGreatDoorW.PrintWords Plain Det
section
variable {ls:L}
theorem unk_nodup(hg:∀x∈ls,Good x):(unkL ls).Nodup:=by
  have ha:=asc_plL (RR ls);rw[plL_head hg]at ha;exact(List.pairwise_cons.mp ha).2.imp (fun h=>by omega)
theorem coTo_at (hg:∀x∈ls,Good x) (ax:Int) (s:Nat) (hs:s<8):∀k,k≤(unkL ls).length→rd (coTo ls ax k) (s:Int)=if fnd (unkL ls) (s:Int)<(k:Int)then vAt (coM ls ax) (fnd (unkL ls) (s:Int)) else 0
  | 0,_=>by
    have h0:rd (coTo ls ax 0) (s:Int)=0:=by
      show rd (List.replicate 8 0) (s:Int)=0;unfold rd;rw[Int.toNat_natCast,List.getD_eq_getElem?_getD,List.getElem?_replicate_of_lt hs];rfl
    rw[h0];by_cases c:fnd (unkL ls) (s:Int)<((0:Nat):Int)
    · rw[if_pos c];unfold vAt;rw[if_neg (by omega)]
    · rw[if_neg c]
  | k + 1,hk=>by
    have ih:=coTo_at hg ax s hs k (by omega);have hlt:k<(unkL ls).length:=by omega
    have hr:=unkL_range hg (rd (unkL ls) (k:Int)) (by rw[rd_get _ k hlt];exact List.getElem_mem hlt);have hm:(unkL ls)[k]∈unkL ls:=List.getElem_mem hlt;have hidx:(unkL ls).idxOf (unkL ls)[k]=k:=(unk_nodup hg).idxOf_getElem k hlt;obtain⟨u,hu⟩:=Int.eq_ofNat_of_zero_le hr.1
    have hst:rd (coTo ls ax (k+1)) (s:Int)=if s=u then coM ls ax k else rd (coTo ls ax k) (s:Int):=by
      show rd ((coTo ls ax k).set (rd (unkL ls) (k:Int)).toNat (coM ls ax k)) (s:Int)=_;rw[hu,Int.toNat_natCast];unfold rd;rw[Int.toNat_natCast,List.getD_eq_getElem?_getD];by_cases c:s=u
      · rw[if_pos c,c,List.getElem?_set_self (by rw[coTo_len];omega)];rfl
      · rw[if_neg c,List.getElem?_set_ne (fun e=>c e.symm),List.getD_eq_getElem?_getD]
    have hf:fnd (unkL ls) (u:Int)=(k:Int):=by
      rw[←hu,rd_get _ k hlt,(fnd_pos hm).1,hidx]
    rw[hst];by_cases c:s=u
    · subst c
      rw[if_pos rfl,hf,if_pos (by omega)];unfold vAt;rw[if_pos (by omega),Int.toNat_natCast]
    · rw [if_neg c,ih]
      have hne:fnd (unkL ls) (s:Int)≠(k:Int):=fun e=>by
        have hsm:(s:Int)∈unkL ls:=by
          by_cases h:(s:Int)∈unkL ls
          · exact h
          · rw[fnd_neg h]at e;omega
        have e2:=(fnd_pos hsm).1;have e3:(unkL ls).idxOf (s:Int)=(unkL ls).idxOf (unkL ls)[k]:=by rw[hidx];omega
        have e4:=idx_inj hsm hm e3;rw[rd_get _ k hlt]at hu;omega
      by_cases d:fnd (unkL ls) (s:Int)<(k:Int)
      · rw[if_pos d,if_pos (by omega)]
      · rw[if_neg d,if_neg (by omega)]
theorem coL_at(hg:∀x∈ls,Good x)(ax s:Int)(h0:0≤s)(h8:s<8):rd (coL ls ax) s=vAt (coM ls ax) (fnd (unkL ls) s):=by
  obtain⟨m,rfl⟩:=Int.eq_ofNat_of_zero_le h0;unfold coL;rw[coTo_at hg ax m (by omega) _ (Nat.le_refl _),if_pos (fnd_range _ _).2]
theorem vAt_bound(hn:ls.length≤12)(hg:∀x∈ls,Good x)(ax a:Int)(ha:a<((unkL ls).length:Int)):ab (vAt (coM ls ax) a)≤TB:=by
  unfold vAt;by_cases c:0≤a
  · rw[if_pos c];exact co_bound hn hg ax _ (by omega)
  · rw[if_neg c];unfold ab TB;decide
def restV(m den c1 c0:Int):Int:=wrap64 (wrap64 (wrap64 (m*den)-c1)+c0)
theorem rest_eq(hn:ls.length≤12)(hg:∀x∈ls,Good x)(ax:Int){k:Int}(hk:k∈usedL ls):restV (meas ls ax k) (treesM ls) (rd (coL ls ax) (leg ls k).f1) (rd (coL ls ax) (leg ls k).f0)=nT ls ax k:=by
  have hr:=usedL_range ls k hk;obtain⟨m,rfl⟩:=Int.eq_ofNat_of_zero_le hr.1;have hx:=leg_good hg m (by omega);rw[coL_at hg ax _ hx.1.1 hx.1.2,coL_at hg ax _ hx.2.1.1 hx.2.1.2];have b1:=vAt_bound hn hg ax _ (fnd_range (unkL ls) (leg ls (m:Int)).f1).2;have b0:=vAt_bound hn hg ax _ (fnd_range (unkL ls) (leg ls (m:Int)).f0).2;have hm:=RT_meas (ax:=ax) hg hk;have ht:=trees_pos hn hg;have hl:=trees_le hn hg
  have hmul:ab (meas ls ax (m:Int)*treesM ls)≤500*6561:=by
    rw[ab_mul];exact Int.mul_le_mul hm (by unfold ab;omega) (ab_nonneg _) (by decide)
  unfold restV nT dT fa fb;generalize vAt (coM ls ax) (fnd (unkL ls) (leg ls (m:Int)).f1)=x1 at *;generalize vAt (coM ls ax) (fnd (unkL ls) (leg ls (m:Int)).f0)=x0 at *;rw[Int.mul_comm (treesM ls)];generalize meas ls ax (m:Int)*treesM ls=p at *;unfold TB at b1 b0;rw[ab_le]at b1 b0 hmul;rw[w64 (x:=p) (by omega) (by omega),w64 (x:=p-x1) (by omega) (by omega),w64 (x:=p-x1+x0) (by omega) (by omega)];omega
end
end Net
namespace Net
open Go.RowKit YtmgkbhhnchnkcaaGreatDoorW.PrintWords Plain Det
section
variable {ls:L}
theorem coL_len(ls:L)(ax:Int):(coL ls ax).length=8:=coTo_len ls ax _
theorem sq_fold(hn:ls.length≤12)(hg:∀x∈ls,Good x)(ax:Int):∀(l:List Int) (z:Int),0≤z→z+tot (fun k=>nT ls ax k*nT ls ax k) l≤9000000000000000000→l.foldl (fun s k=>wrap64 (s+wrap64 (nT ls ax k*nT ls ax k))) z=z+tot (fun k=>nT ls ax k*nT ls ax k) l
  |[],z,_,_=>by rw[tot_nil];simp
  | x::l,z,h0,h=>by
    have hx:=sq_nonneg (nT ls ax x);have hl:=tot_nonneg (f:=fun k=>nT ls ax k*nT ls ax k) (l:=l) (fun k _=>sq_nonneg _);rw[tot_cons]at h ⊢;simp only[List.foldl_cons];rw[w64 (x:=nT ls ax x*nT ls ax x) (by omega) (by omega),w64 (x:=z+nT ls ax x*nT ls ax x) (by omega) (by omega),sq_fold hn hg ax l _ (by omega) (by omega)];omega
theorem sq_all(hn:ls.length≤12)(hg:∀x∈ls,Good x)(ax:Int):(usedL ls).foldl (fun s k=>wrap64 (s+wrap64 (nT ls ax k*nT ls ax k))) 0=SA ls ax:=by
  have h:=sq_bound hn hg ax;rw[sq_fold hn hg ax _ 0 (Int.le_refl _) (by omega)];unfold SA;omega
end
end Net
namespace Net
open Go Go.RowKit YtmgkbhhnchnkcaaGreatDoorW.PrintWords YtmgkbhhnchnkcaaGreatDoorW.PrintLast YtmgkbhhnchnkcaaGreatDoorW.PrintMore A Plain
def resM(x:S82)(axis:Int)(cs:List Int)(den:Int):Int:=wrap64 (wrap64 (wrap64 (onM (shift x) axis*den)-rd cs x.f1)+rd cs x.f0)
theorem residualW(A2:Option Addr)(c2:Nat)(cs:List Int)(x:S82)(axis den:Int)(w:World)(hL:Sine.Laid w)(hr2:Kd.C (Kd.int .i64) w A2 cs.length cs)(h8:cs.length=8)(hx:Good x)(h0:0≤axis)(h2:axis≤2):
    Calls Tryz.prog 89 #[.agg #[.int .i64 x.f0,.int .i64 x.f1,.int .i64 x.f2,.int .i64 x.f3,.int .i64 x.f4],.int .i64 axis,.slice A2 cs.length c2,.int .i64 den] w fun e w'=>e= .returned (.int .i64 (resM x axis cs den))∧Below w.heap.size w w':=by
  have HLS:=ak (fun W (hl:Sine.Laid W)=>legShift x W hl hx);have HON:=ak (fun W=>onW (shift x) axis h0 h2 W);obtain⟨⟨a0,a8⟩,⟨d0,d8⟩,had,_⟩:=hx;obtain⟨ad,e1,p0⟩:=Kd.at_int hr2 x.f0 (by omega) (by omega);obtain⟨ad',e2,p1⟩:=Kd.at_int hr2 x.f1 (by omega) (by omega);subst e1;cases e2;have k0:x.f0<(cs.length:Int):=by omega
  have k1:x.f1<(cs.length:Int):=by omega
  unfold resM;obtain⟨sv,hsv⟩:∃sv,sv=onM (shift x) axis:=⟨_,rfl⟩
  rw[←hsv];simp only[←hsv]at HON;have HL:=ak hL;have HB:=ak (below_alloc (Below.refl w.heap.size w) (Obj.cells #[Value.int IntKind.i64 x.f0,Value.int IntKind.i64 x.f1,Value.int IntKind.i64 x.f2,Value.int IntKind.i64 x.f3,Value.int IntKind.i64 x.f4] 82));clear hr2 hL hsv;go_enter Tryz.func89,Tryz.ntmps89;go_wp2;have h0:(w.alloc (Obj.cells #[Value.int IntKind.i64 x.f0,Value.int IntKind.i64 x.f1,Value.int IntKind.i64 x.f2,Value.int IntKind.i64 x.f3,Value.int IntKind.i64 x.f4] 82)).cell? ⟨w.heap.size,0,none⟩=some (.int .i64 x.f0):=by go_simp
  have h1:(w.alloc (Obj.cells #[Value.int IntKind.i64 x.f0,Value.int IntKind.i64 x.f1,Value.int IntKind.i64 x.f2,Value.int IntKind.i64 x.f3,Value.int IntKind.i64 x.f4] 82)).cell? ⟨w.heap.size,1,none⟩=some (.int .i64 x.f1):=by go_simp
  have h2:(w.alloc (Obj.cells #[Value.int IntKind.i64 x.f0,Value.int IntKind.i64 x.f1,Value.int IntKind.i64 x.f2,Value.int IntKind.i64 x.f3,Value.int IntKind.i64 x.f4] 82)).cell? ⟨w.heap.size,2,none⟩=some (.int .i64 x.f2):=by go_simp
  have h3:(w.alloc (Obj.cells #[Value.int IntKind.i64 x.f0,Value.int IntKind.i64 x.f1,Value.int IntKind.i64 x.f2,Value.int IntKind.i64 x.f3,Value.int IntKind.i64 x.f4] 82)).cell? ⟨w.heap.size,3,none⟩=some (.int .i64 x.f3):=by go_simp
  have h4:(w.alloc (Obj.cells #[Value.int IntKind.i64 x.f0,Value.int IntKind.i64 x.f1,Value.int IntKind.i64 x.f2,Value.int IntKind.i64 x.f3,Value.int IntKind.i64 x.f4] 82)).cell? ⟨w.heap.size,4,none⟩=some (.int .i64 x.f4):=by go_simp
  replace p0:=Sine.keepc p0 HB.out;replace p1:=Sine.keepc p1 HB.out;generalize (w.alloc (Obj.cells #[Value.int IntKind.i64 x.f0,Value.int IntKind.i64 x.f1,Value.int IntKind.i64 x.f2,Value.int IntKind.i64 x.f3,Value.int IntKind.i64 x.f4] 82))=W1 at *
  go_region_held3 (fun w'=>w'.cell? ⟨w.heap.size,0,none⟩=some (.int .i64 x.f0)∧w'.cell? ⟨w.heap.size,1,none⟩=some (.int .i64 x.f1)∧w'.cell? ⟨w.heap.size,2,none⟩=some (.int .i64 x.f2)∧w'.cell? ⟨w.heap.size,3,none⟩=some (.int .i64 x.f3)∧w'.cell? ⟨w.heap.size,4,none⟩=some (.int .i64 x.f4)∧w'.cell? (ad.add x.f0.toNat)=some (.int .i64 (rd cs x.f0))∧w'.cell? (ad.add x.f1.toNat)=some (.int .i64 (rd cs x.f1)))
    ((repeat' refine And.intro ?_ ?_)<;>exact Sine.keepc (w:=W1) qz42 qz13)
    (first
      |(go_at_call 111;(with_reducible refine(HLS.out _ ?s1).mono ?_);(case s1=>exact HL.out.keep qz13);rintro e w' ⟨rfl,hw1⟩)
      | (go_at_call 123;(with_reducible refine(HON.out _).mono ?_);rintro e w' ⟨rfl,hw2⟩
         have HB3:Aside0 (Below w.heap.size w w'):=⟨qz13⟩))
  go_wp2;go_ret;exact⟨(by simp[i64_w]),(by repeat(first|exact HB3.out|apply below_drew1))⟩
def resTo(ls:L)(ax:Int)(k:Nat):List Int:=((usedL ls).take k).map (nT ls ax)
def resL(ls:L)(ax:Int):List Int:=(usedL ls).map (nT ls ax)
theorem resTo_len(ls:L)(ax:Int)(k:Nat):(resTo ls ax k).length≤k:=by
  unfold resTo;rw[List.length_map,List.length_take];omega
theorem resTo_step(ls:L)(ax:Int)(k:Nat)(h:k<(usedL ls).length):resTo ls ax (k+1)=resTo ls ax k++[nT ls ax (rd (usedL ls) (k:Int))]:=by
  unfold resTo;rw[List.take_add_one,List.map_append,rd_get _ k h,List.getElem?_eq_getElem h];rfl
theorem resTo_all(ls:L)(ax:Int):resL ls ax=resTo ls ax (usedL ls).length:=by
  unfold resTo resL;rw[List.take_length]
theorem res_all{ls:L}(hn:ls.length≤12)(hg:∀x∈ls,Good x)(ax:Int){k:Int}(hk:k∈usedL ls):resM (leg ls k) ax (coL ls ax) (treesM ls)=nT ls ax k:=rest_eq hn hg ax hk
theorem SA_bound{ls:L}(hn:ls.length≤12)(hg:∀x∈ls,Good x)(ax:Int):0≤SA ls ax∧SA ls ax≤129140163000000:=
  ⟨tot_nonneg (f:=fun k=>nT ls ax k*nT ls ax k) (l:=usedL ls) (fun k _=>sq_nonneg _),sq_bound hn hg ax⟩
def sqTo(l:List Int)(k:Nat):Int:=(l.take k).foldl (fun s x=>wrap64 (s+wrap64 (x*x))) 0
theorem sqTo_step(l:List Int)(k:Nat)(h:k<l.length):sqTo l (k+1)=wrap64 (sqTo l k+wrap64 (rd l (k:Int)*rd l (k:Int))):=by
  unfold sqTo;rw[List.take_add_one,List.getElem?_eq_getElem h,rd_get _ k h,List.foldl_append];rfl
theorem sqTo_all{ls:L}(hn:ls.length≤12)(hg:∀x∈ls,Good x)(ax:Int):sqTo (resL ls ax) (resL ls ax).length=SA ls ax:=by
  unfold sqTo;rw[List.take_length];unfold resL;rw[List.foldl_map];exact sq_all hn hg ax
theorem residualsW (ba:Nat) (lA uA pA:Option Addr) (lc uc pc:Nat) (ls:L) (ax:Int) (w:World) (hL:Sine.Laid w) (hA:Adj w ba lA uA pA lc uc pc ls (usedL ls) (unkL ls)) (ht:w.cell? ⟨ba,4,none⟩=some (.int .i64 (treesM ls))) (hn:ls.length≤12) (hg:∀x∈ls,Good x) (h0:0≤ax) (h2:ax≤2):
    Calls Tryz.prog 83 #[.pointer (some ⟨ba,0,none⟩),.int .i64 ax] w (Lst (resL ls ax) w):=by
  have HA:=ak hA;have HL:=ak hL;have HG:=ak hg;have HT:=ak ht;have HB:=ak (Below.refl w.heap.size w);have hul:=usedL_len ls;have HRG:=ak (usedL_range ls);have HRE:Aside0 (∀k:Int,k∈usedL ls→resM (leg ls k) ax (coL ls ax) (treesM ls)=nT ls ax k):=⟨fun k hk=>res_all hn hg ax hk⟩;have HLN:Aside0 (∀k,(resTo ls ax k).length≤k):=⟨resTo_len ls ax⟩;have HST:Aside0 (∀k,k<(usedL ls).length→resTo ls ax (k+1)=resTo ls ax k++[nT ls ax (rd (usedL ls) (k:Int))]):=⟨resTo_step ls ax⟩;have HEND:=ak (resTo_all ls ax);have HCL:Aside0 ((coL ls ax).length=8):=⟨coL_len ls ax⟩;have c2:=hA.c2;clear hA hL hg ht;go_enter Tryz.func83,Tryz.ntmps83
  go_wp2_with (first
    |(go_at_call 90;(with_reducible refine(coordinatesW ba lA uA pA lc uc pc ls ax _ ?s1 ?s2 hn HG.out h0 h2).mono ?_);(case s1=>exact HL.out.keep HB.out);(case s2=>exact HA.out.keep HB.out);rintro e w3 ⟨v,rfl,hv3,hw3⟩;replace HB:=ak (below_step HB.out hw3);have HV:=ak hv3;replace c2:=Sine.keepc c2 HB.out;clear hv3 hw3;obtain⟨cA,cC,ec⟩:=Kd.R_slice HV.out;subst ec))
  replace HA:=ak (HA.out.keep HB.out);replace HT:=ak (Sine.keepc HT.out HB.out);replace HL:=ak (HL.out.keep HB.out);have HB0:=HB;clear HB;have HB:=ak (Below.refl w3.heap.size w3)
  go_loopw [6,17] (fun v6 v17 W=>∃(k:Nat),k≤(usedL ls).length∧v17= .int .i64 k∧Aside0 (Kd.R (Kd.int .i64) 3 W w3.heap.size (fun _=>True) v6 (resTo ls ax k))∧Aside0 (Below w3.heap.size w3 W)) (fun _ v17 _=>(usedL ls).length-(intOf v17).toNat)
  case atStart=>exact⟨0,Nat.zero_le _,rfl,⟨Kd.R_nil _ _ _ _ _⟩,⟨qz6⟩⟩
  case round=>
    obtain⟨k,hk,rfl,HO,HB2⟩:=hrel;clear HB c2;have HB:=HB2;clear HB2;obtain⟨vA,vC,ev⟩:=Kd.R_slice HO.out;subst ev;have hlen:=HLN.out k;by_cases hlt:k<(usedL ls).length
    · have k0:(0:Int)≤(k:Int):=by omega
      have k1:(k:Int)<((usedL ls).length:Int):=by omega
      have hmem:rd (usedL ls) (k:Int)∈usedL ls:=by rw[rd_get _ k hlt];exact List.getElem_mem hlt
      obtain⟨ad,e1,h1⟩:=Kd.at_int (Kd.C_below HA.out.u HB.out) (k:Int) k0 k1;rw[Int.toNat_natCast]at h1;have hs:=HRG.out _ hmem;have HX:=ak (HST.out k hlt);have HE:=ak (HRE.out _ hmem);clear hmem;obtain⟨s,hs2⟩:=Int.eq_ofNat_of_zero_le hs.1;rw[hs2]at h1 hs HX HE;clear hs2;have s0:(0:Int)≤(s:Int):=hs.1;have s1:(s:Int)<(ls.length:Int):=hs.2;have HGX:Aside0 (Good (leg ls (s:Int))):=⟨HG.out _ (leg_mem (by omega))⟩;have hc1:=HA.out.c1;have hc4:=HT.out;obtain⟨al,e2,g0,g1,g2,g3,g4⟩:=at_T82 HA.out.l (s:Int) s0 s1;have ek:rd_T82 ls (s:Int)=leg ls s:=rfl;rw[Int.toNat_natCast]at g0 g1 g2 g3 g4;rw[ek]at g0 g1 g2 g3 g4;clear ek hs;generalize leg ls (s:Int)=x at *
      have HQ:Aside0 (∀W,Below w3.heap.size w3 W→Calls Tryz.prog 89 #[.agg #[.int .i64 x.f0,.int .i64 x.f1,.int .i64 x.f2,.int .i64 x.f3,.int .i64 x.f4],.int .i64 ax,.slice cA (coL ls ax).length cC,.int .i64 (treesM ls)] W fun e w'=>e= .returned (.int .i64 (nT ls ax (s:Int)))∧Below W.heap.size W w'):=⟨fun W hb=>by
        have hq:=residualW cA cC (coL ls ax) x ax (treesM ls) W (HL.out.keep hb) (Kd.C_below (Kd.R_reads' HV.out).2.2 hb) HCL.out HGX.out h0 h2
        rw[HE.out]at hq;exact hq⟩
      generalize nT ls ax (s:Int)=nv at *;subst e1;go_wp2_with fail;subst e2
      --@region
      refine start_ (n:=18) (S:=(fun w'=>w'.cell? ⟨ba,1,none⟩=some (.slice (some al) ls.length lc)∧w'.cell? ⟨ba,4,none⟩=some (.int .i64 (treesM ls))∧w'.cell? (al.add (s*5))=some (.int .i64 x.f0)∧w'.cell? {block:=(al.add (s*5)).block,off:=(al.add (s*5)).off+1}=some (.int .i64 x.f1)∧w'.cell? {block:=(al.add (s*5)).block,off:=(al.add (s*5)).off+2}=some (.int .i64 x.f2)∧w'.cell? {block:=(al.add (s*5)).block,off:=(al.add (s*5)).off+3}=some (.int .i64 x.f3)∧w'.cell? {block:=(al.add (s*5)).block,off:=(al.add (s*5)).off+4}=some (.int .i64 x.f4))) (ds:=[]) #[false,false,false,false,false,false,false,false,false,false,false,false,false,false,false,false,false,false] qz33 rfl rfl qz37 (fun hHeld=>?_);refine pY 0 (some 21) (bz 18 1) ?_;refine pY 1 (some 22) (bz 18 3) ?_;refine pY 2 (some 23) (bz 18 7) ?_;refine pY 3 (some 24) (bz 18 15) ?_;refine tZ8 4 (some 25) (bz 18 31) ?_;refine pY 5 (some 26) (bz 18 63) ?_;refine pY 6 (some 27) (bz 18 127) ?_;refine tZ8 7 (some 28) (bz 18 255) ?_;refine pY 8 (some 29) (bz 18 511) ?_;refine pY 9 (some 30) (bz 18 1023) ?_;refine pY 10 (some 31) (bz 18 2047) ?_;refine pY 11 (some 32) (bz 18 4095) ?_;refine pY 12 (some 33) (bz 18 8191) ?_;refine tZ8 13 (some 34) (bz 18 16383) ?_;refine oY 14 (some 35) (bz 18 32767) (fun K hK=>?_);refine goes_ Tryz.func89 qz33 rfl #[.agg #[.int .i64 x.f0,.int .i64 x.f1,.int .i64 x.f2,.int .i64 x.f3,.int .i64 x.f4],.int .i64 ax,.slice cA (coL ls ax).length cC,.int .i64 (treesM ls)] (by rfl) rfl rfl qz61 ?_
      (with_reducible refine(HQ.out _ ?s1).mono ?_);(case s1=>exact(by((repeat(first|exact Below.refl _ _|apply pw_below_drewN|apply below_drew1|exact HB.out|refine below_step ?_ qz42));done)));rintro e w5 ⟨rfl,hw5⟩
      have hb5:=below_step (show Below wr.heap.size wr _ from by(repeat(first|exact Below.refl _ _|apply pw_below_drewN|apply below_drew1|exact HB.out|refine below_step ?_ qz42));done) hw5;have HB5:=ak (below_step HB.out hb5);have HO5:=ak (Kd.R_below HO.out hb5);refine⟨_,rfl,?_⟩;refine hK.out _ _ qz37 (fun hHeld=>?_);clear hK K;refine nZ ?_;refine oY 15 (some 36) (bz 18 65535) (fun K hK=>?_);refine value_ (w1:=?_) (v:=?_) (by rfl) rfl ?_ ?_;rotate_left 2
      · go_simp
        constructor
        · rfl
        · rfl
      refine hK.out _ _ qz37 (fun hHeld=>?_);clear hK K;refine nZ ?_;refine oY 16 (some 37) (bz 18 131071) (fun K hK=>?_);refine Kd.R_append_step (Kd.int .i64) (w0:=w3) w3.heap.size (by rfl) (.tmp 21) (.tmp 36) 46 3 (.int .i64 0) 8 rfl Tryz.underlying46 info3 rfl (by decide) (by omega) (.slice vA (resTo ls ax k).length vC) (resTo ls ax k) nv [.int .i64 nv] (fun _=>True) (fun _=>False) rfl rfl ?aP (fun _ hk=>hk.elim) ?aF ?aO ?aB ?aS ?aL ?_;(case aP=>exact rfl);(case aF=>intro b hb;trivial);(case aO=>exact HO5.out);(case aB=>exact HB5.out);(case aS=>exact below_size HB5.out);(case aL=>omega);intro v7_ w7_ ho hb hg hat;have HP2:=ak ho;have HP3:=ak hb;refine hK.out _ _ qz37 (fun hHeld=>?_);clear hK K;refine nZ ?_;refine pY 17 (some 6) (bz 18 262143) ?_;refine done_ qz33 ?_
      --@end
      go_wp2;exact⟨⟨k+1,hlt,by go_num,(by rw[HX.out];exact HP2),HP3⟩,qz45⟩
    · obtain rfl:k=(usedL ls).length:=by omega
      go_wp2;exact bodyPost_ret (v:= .slice vA (resTo ls ax (usedL ls).length).length vC) (by simp[results,Tryz.results83,go_sem]) rfl ⟨_,rfl,(by rw[HEND.out];exact Kd.R_lower HO.out (below_size HB0.out)),below_step HB0.out HB.out⟩
theorem squaresW(ba:Nat)(lA uA pA:Option Addr)(lc uc pc:Nat)(ls:L)(ax:Int)(w:World)(hL:Sine.Laid w)(hA:Adj w ba lA uA pA lc uc pc ls (usedL ls) (unkL ls))(ht:w.cell? ⟨ba,4,none⟩=some (.int .i64 (treesM ls)))(hn:ls.length≤12)(hg:∀x∈ls,Good x)(h0:0≤ax)(h2:ax≤2):
    Calls Tryz.prog 80 #[.pointer (some ⟨ba,0,none⟩),.int .i64 ax] w (fun e w'=>e= .returned (.int .i64 (SA ls ax))∧Below w.heap.size w w'):=by
  have HB:=ak (Below.refl w.heap.size w);have HRR:=ak (residualsW ba lA uA pA lc uc pc ls ax w hL hA ht hn hg h0 h2);have HST:Aside0 (∀k,k<(resL ls ax).length→sqTo (resL ls ax) (k+1)=wrap64 (sqTo (resL ls ax) k+wrap64 (rd (resL ls ax) (k:Int)*rd (resL ls ax) (k:Int)))):=⟨sqTo_step _⟩;have HEND:=ak (sqTo_all hn hg ax);have HLN:Aside0 ((resL ls ax).length≤12):=⟨(by unfold resL;rw[List.length_map];have:=usedL_len ls;omega)⟩;clear hL hA ht hg;go_enter Tryz.func80,Tryz.ntmps80
  go_wp2_with (first
    |(go_at_call 83;(with_reducible refine HRR.out.mono ?_);rintro e w3 ⟨v,rfl,hv3,hw3⟩;replace HB:=ak (below_step HB.out hw3);have HV:=ak hv3;clear hv3 hw3;obtain⟨cA,cC,ec⟩:=Kd.R_slice HV.out;subst ec))
  generalize resL ls ax=l at *;have hl12:=HLN.out
  go_loopw [5,12] (fun v5 v12 W=>∃(k:Nat),k≤l.length∧v12= .int .i64 k∧v5= .int .i64 (sqTo l k)∧Aside0 (Below w3.heap.size w3 W)) (fun _ v12 _=>l.length-(intOf v12).toNat)
  case atStart=>exact⟨0,Nat.zero_le _,rfl,rfl,⟨qz6⟩⟩
  case round=>
    obtain⟨k,hk,rfl,rfl,HB3⟩:=hrel;by_cases hlt:k<l.length
    · have k0:(0:Int)≤(k:Int):=by omega
      have k1:(k:Int)<(l.length:Int):=by omega
      obtain⟨ad,e1,h1⟩:=Kd.at_int (Kd.C_below (Kd.R_reads' HV.out).2.2 HB3.out) (k:Int) k0 k1;rw[Int.toNat_natCast]at h1;subst e1;have hst:=HST.out k hlt;go_wp2;exact⟨⟨k+1,hlt,by go_num,by rw[hst],HB3⟩,qz45⟩
    · obtain rfl:k=l.length:=by omega
      have hend:=HEND.out;go_wp2;exact bodyPost_ret (v:= .int .i64 (sqTo l l.length)) (by simp[results,Tryz.results80,go_sem]) rfl ⟨by rw[hend],below_step HB.out HB3.out⟩
end Net
namespace Net
open Go.RowKit YtmgkbhhnchnkcaaGreatDoorW.PrintWords Plain A Frac
def redN(n d:Int):Int:=n.tdiv (Int.gcd n d)
def redD(n d:Int):Int:=d.tdiv (Int.gcd n d)
theorem red_red{n d:Int}(hd:0<d):Red (redN n d) (redD n d) n d:=Red.of_div hd
theorem tdiv_small(n:Int)(g:Nat){B:Int}(h1: -B≤n)(h2:n≤B): -B≤n.tdiv (g:Int)∧n.tdiv (g:Int)≤B:=by
  have h:(n.tdiv (g:Int)).natAbs≤n.natAbs:=by rw[Int.natAbs_tdiv];exact Nat.div_le_self _ _
  omega
theorem wtdiv(n:Int)(g:Nat)(h1: -9000000000000000000≤n)(h2:n≤9000000000000000000):wrap64 (n.tdiv (g:Int))=n.tdiv (g:Int):=by
  have:=tdiv_small n g h1 h2;unfold wrap64;omega
theorem gcd_small{n d:Int}(hd:0<d)(hd2:d≤9000000000000000000):0<Int.gcd n d∧(Int.gcd n d:Int)≤9000000000000000000:=by
  have h1:=Int.gcd_pos_of_ne_zero_right n (show d≠0 by omega);have h2:=Nat.le_of_dvd (show 0<d.natAbs by omega) (Nat.gcd_dvd_right n.natAbs d.natAbs);have h3:Int.gcd n d=Nat.gcd n.natAbs d.natAbs:=rfl;omega
theorem gcd_ev(n d:Int)(hd:0<d)(hd2:d≤9000000000000000000):Ev (fun k=>impl_gcd.f k n d) (Int.gcd n d:Int):=by
  have hs:=gcd_small (n:=n) hd hd2
  obtain⟨z,hz,_,K,hK⟩:=gcd_loop (g:=impl_gcd.l0) (fin:=fun a=>if a<wrap64 (-a)then wrap64 (-a) else a) (fun k a=>by
    unfold impl_gcd.l0;rw[if_pos rfl];unfold impl_absolute.f;rfl) (fun k a b hb=>by
    conv=>lhs;unfold impl_gcd.l0
    rw[if_neg hb]) (d.natAbs+1) n d (by omega)
  refine⟨K,fun k hk=>?_⟩;show impl_gcd.l0 k n d=_;have h:=hK k hk;simp only at h;rw[h]
  congr 1
  have hw:wrap64 (-z)= -z:=by unfold wrap64;omega
  rw[hw];split<;>omega
theorem reduced_ev(n d:Int)(hd:0<d)(hd2:d≤9000000000000000000)(h1: -9000000000000000000≤n)(h2:n≤9000000000000000000):Ev (fun k=>impl_reduced.f k n d) (redN n d,redD n d):=by
  have hs:=gcd_small (n:=n) hd hd2;obtain⟨K,hK⟩:=gcd_ev n d hd hd2;refine⟨K,fun k hk=>?_⟩;show impl_reduced.f k n d=_;unfold impl_reduced.f;have h:=hK k hk;simp only at h;rw[h];show(if((Int.gcd n d:Nat):Int)=0 then _ else _)=_;rw[if_neg (by omega),wtdiv n _ h1 h2,wtdiv d _ (by omega) (by omega)];rfl
theorem l9_loop(n d:Int):∀(m:Nat) (a b:Int),b.natAbs<m→0≤a→0≤b→0<Int.gcd a b→Ev (fun k=>spec_l9Reduce.l0 k n d a b) (wrap64 (n.tdiv (Int.gcd a b)),wrap64 (d.tdiv (Int.gcd a b)))
  |0,a,b,h,_,_,_=>by omega
  | m +1,a,b,h,ha,hb,hg=>by
    by_cases h0:b=0
    · subst h0
      rw[Int.gcd_zero_right]at hg ⊢;refine⟨1,fun k hk=>?_⟩;obtain⟨k,rfl⟩:∃m,k=m+1:=⟨k-1,by omega⟩
      show spec_l9Reduce.l0 (k+1) n d a 0=_;unfold spec_l9Reduce.l0;rw[if_pos rfl,if_neg (by omega),show((a.natAbs:Nat):Int)=a by omega]
    · obtain⟨K,hK⟩:=l9_loop n d m b (Int.tmod a b) (by have:=tmod_lt a b h0;omega) hb (Int.tmod_nonneg b ha) (by rw[gcd_step a b h0];exact hg)
      refine⟨K+1,fun k hk=>?_⟩;obtain⟨k,rfl⟩:∃m,k=m+1:=⟨k-1,by omega⟩
      show spec_l9Reduce.l0 (k+1) n d a b=_
      conv=>lhs;unfold spec_l9Reduce.l0
      rw[if_neg h0];have h:=hK k (by omega);simp only at h;rw[h,gcd_step a b h0]
theorem l9Reduce_ev(n d:Int)(hd:0<d)(hd2:d≤9000000000000000000)(h1: -9000000000000000000≤n)(h2:n≤9000000000000000000):Ev (fun k=>spec_l9Reduce.f k n d) (redN n d,redD n d):=by
  have ha:spec_l1Most.f n (wrap64 (-n))=some (n.natAbs:Int):=by
    have hw:wrap64 (-n)= -n:=by unfold wrap64;omega
    rw[hw];unfold spec_l1Most.f;split<;>(congr 1;omega)
  have hg:Int.gcd (n.natAbs:Int) d=Int.gcd n d:=by unfold Int.gcd;rw[Int.natAbs_natCast]
  have hs:=gcd_small (n:=n) hd hd2;obtain⟨K,hK⟩:=l9_loop n d (d.natAbs+1) (n.natAbs:Int) d (by omega) (by omega) (by omega) (by rw[hg];exact hs.1);refine⟨K,fun k hk=>?_⟩;show spec_l9Reduce.f k n d=_;unfold spec_l9Reduce.f;rw[ha];show spec_l9Reduce.l0 k n d (n.natAbs:Int) d=_;have h:=hK k hk;simp only at h;rw[h,hg,wtdiv n _ h1 h2,wtdiv d _ (by omega) (by omega)];rfl
end Net
namespace Net
open Go Go.RowKit YtmgkbhhnchnkcaaGreatDoorW.PrintWords YtmgkbhhnchnkcaaGreatDoorW.PrintLast YtmgkbhhnchnkcaaGreatDoorW.PrintMore A Plain
def stTo(ls:L):Nat→Int
  |0=>0
  |a+1=>wrap64 (stTo ls a+SA ls (a:Int))
theorem stTo_three{ls:L}(hn:ls.length≤12)(hg:∀x∈ls,Good x):stTo ls 3=SA ls 0+SA ls 1+SA ls 2:=by
  have h0:=SA_bound hn hg 0;have h1:=SA_bound hn hg 1;have h2:=SA_bound hn hg 2;show wrap64 (wrap64 (wrap64 (0+SA ls ((0:Nat):Int))+SA ls ((1:Nat):Int))+SA ls ((2:Nat):Int))=_;rw[show(((0:Nat):Int))=0 from rfl,show(((1:Nat):Int))=1 from rfl,show(((2:Nat):Int))=2 from rfl,w64 (x:=0+SA ls 0) (by omega) (by omega),w64 (x:=0+SA ls 0+SA ls 1) (by omega) (by omega),w64 (by omega) (by omega)];omega
def StrainPost(ls:L)(w:World)(e:Ending)(w':World):Prop:=e= .returned (.agg #[.int .i64 (sNum ls),.int .i64 (sDen ls)])∧Below w.heap.size w w'
theorem strainW (A0:Option Addr) (c0:Nat) (ls:L) (w:World) (hL:Sine.Laid w) (hr0:Kd.C k82 w A0 ls.length ls) (hc0:ls.length≤c0) (hn:ls.length≤12) (hg:∀x∈ls,Good x):
    Calls Tryz.prog 55 #[.slice A0 ls.length c0] w (StrainPost ls w):=by
  have HR:=ak hr0;have HL:=ak hL;have HG:=ak hg;have HB:=ak (Below.refl w.heap.size w)
  have HRD:Aside0 (∀W,Calls Tryz.prog 79 #[.int .i64 (stTo ls 3),.int .i64 (IntKind.i64.wrap (treesM ls*treesM ls))] W fun e w'=>e= .returned (.tuple #[.int .i64 (sNum ls),.int .i64 (sDen ls)])∧Below W.heap.size W w'):=⟨fun W=>by
    have ht1:=trees_pos hn HG.out;have ht2:=trees_le hn HG.out;have h0:=SA_bound hn HG.out 0;have h1:=SA_bound hn HG.out 1;have h2:=SA_bound hn HG.out 2;have hsq:treesM ls*treesM ls≤6561*6561:=Int.mul_le_mul ht2 ht2 (by omega) (by omega);have hsp:0<treesM ls*treesM ls:=Int.mul_pos (by omega) (by omega);rw[i64_w,Plain.w64 (by omega) (by omega),stTo_three hn HG.out];obtain⟨K,hK⟩:=reduced_ev (SA ls 0+SA ls 1+SA ls 2) (treesM ls*treesM ls) hsp (by omega) (by omega) (by omega);have hq:=impl_reduced.calls K _ _ _ _ W (hK K (Nat.le_refl _));obtain⟨e1,e2⟩:=strain_impl hn HG.out (red_red (n:=SA ls 0+SA ls 1+SA ls 2) hsp);rw[e1,e2]at hq
    exact hq⟩
  have HST:Aside0 (∀a:Nat,stTo ls (a+1)=wrap64 (stTo ls a+SA ls (a:Int))):=⟨fun _=>rfl⟩;clear hr0 hL hg;go_enter Tryz.func55,Tryz.ntmps55;go_wp2_with (go_at_call 78;(with_reducible refine(adjustW A0 c0 ls _ ?s1 ?s2 hc0 hn HG.out).mono ?_);(case s1=>exact HL.out.keep qz6);(case s2=>exact Kd.C_below HR.out qz6);rintro e w2 ⟨ba,uA,pA,uc,pc,rfl,hadj,ht,hba,hw⟩;have HJ:=ak hadj;have g0:w2.cell? ⟨w.heap.size,0,none⟩=some (.int .i64 0):=Sine.keepc qz46 hw;have g1:w2.cell? ⟨w.heap.size,1,none⟩=some (.int .i64 0):=Sine.keepc qz46 hw;have z0:w2.frozen? ⟨w.heap.size,0,none⟩=false:=keepz (v:= .int .i64 0) qz46 qz46 hw;have z1:w2.frozen? ⟨w.heap.size,1,none⟩=false:=keepz (v:= .int .i64 0) qz46 qz46 hw;replace HB:=ak (below_step (show Below w.heap.size w _ from by(repeat(first|exact HB.out|exact Below.refl _ _|apply below_alloc|apply pw_below_drewN|apply below_drew1));done) hw);clear hadj hw hba);have HZ:Aside0 (∀W,Below w2.heap.size w2 W→W.cell? ⟨w.heap.size,0,none⟩=some (.int .i64 0)∧W.cell? ⟨w.heap.size,1,none⟩=some (.int .i64 0)∧W.frozen? ⟨w.heap.size,0,none⟩=false∧W.frozen? ⟨w.heap.size,1,none⟩=false):=⟨fun W hW=>⟨Sine.keepc g0 hW,Sine.keepc g1 hW,keepz g0 z0 hW,keepz g1 z1 hW⟩⟩;clear g0 g1 z0 z1
  go_loopw [4,5] (fun v4 v5 W=>∃a:Nat,a≤3∧v5= .int .i64 a∧v4= .int .i64 (stTo ls a)∧Aside0 (Below w2.heap.size w2 W)) (fun _ v5 _=>3-(intOf v5).toNat)
  case atStart=>exact⟨0,by omega,rfl,rfl,⟨Below.refl _ _⟩⟩
  case round =>
    obtain⟨a,ha,rfl,rfl,HW⟩:=hrel;by_cases hlt:a<3
    · have a0:(0:Int)≤(a:Int):=by omega
      have a2:(a:Int)≤2:=by omega
      have HE:=ak (HST.out a);go_wp2_with (go_at_call 80;(with_reducible refine(squaresW ba A0 uA pA c0 uc pc ls (a:Int) _ ?s1 ?s2 ?s3 hn HG.out a0 a2).mono ?_);(case s1=>exact HL.out.keep (below_step HB.out HW.out));(case s2=>exact HJ.out.keep HW.out);(case s3=>exact Sine.keepc ht HW.out);rintro e w3 ⟨rfl,hw3⟩;replace HW:=ak (below_step HW.out hw3);clear hw3);exact⟨⟨a+1,hlt,by go_num,(by rw[HE.out]),HW⟩,qz45⟩
    · obtain rfl:a=3:=by omega
      have ht3:=Sine.keepc ht HW.out;go_wp2
      go_region_held3 (fun w'=>w'.cell? ⟨ba,4,none⟩=some (.int .i64 (treesM ls)))
        (first|exact ht3|exact Sine.keepc ht3 qz42|(refine Sine.keepc (w:=wr) ht3 ?_<;>((repeat(first|exact Below.refl _ _|apply pw_below_drewN|apply below_drew1|exact HB.out|refine below_step ?_ qz42));done)))
        (first
          | (go_at_call 79;(with_reducible refine(HRD.out _).mono ?_);rintro e w4 ⟨rfl,hw4⟩
             have hB4:Below wr.heap.size wr w4:=by(repeat(first|exact Below.refl _ _|apply pw_below_drewN|apply below_drew1|exact HB.out|refine below_step ?_ qz42));done
             have HW4:=ak (below_step HW.out hB4)
             clear hw4))
      obtain⟨g0,g1,z0,z1⟩:=HZ.out _ HW4.out;go_wp2;have HB5:=ak (below_step HB.out HW4.out);exact bodyPost_ret (v:= .agg #[.int .i64 (sNum ls),.int .i64 (sDen ls)]) (by simp[results,Tryz.results55,go_sem,g0,g1]) rfl ⟨rfl,(by repeat(first|exact HB5.out|(refine below_set ?_ (by omega))))⟩
end Net
namespace Net
open Go.RowKit YtmgkbhhnchnkcaaGreatDoorW.PrintWords YtmgkbhhnchnkcaaGreatDoorW.PrintLast YtmgkbhhnchnkcaaGreatDoorW.PrintMore A Plain
def Gate(ls:L)(b:Bool)(w:World)(e:Ending)(w':World):Prop:=∃g T cA cC,e= .returned (.tuple #[.pointer (some ⟨g,0,none⟩),.bool b])∧St ls.length T g (Pq (RR ls)) (Xq ls (RR ls)) (Bq (RR ls)) (.slice cA (closeL ls).length cC) w'∧Kd.R (Kd.int .i64) 3 w' w.heap.size (fun k=>k≠g∧k≠T) (.slice cA (closeL ls).length cC) (closeL ls)∧Below w.heap.size w w'
theorem placedLeg(A:Option Addr)(c:Nat)(ls:L)(i:Int)(w:World)(hL:Sine.Laid w)(hr0:Kd.C k82 w A ls.length ls)(hc:ls.length≤c)(hv:legsB ls=true)(h0:0≤i)(h1:i<ls.length):
    Calls Tryz.prog 53 #[.slice A ls.length c,.int .i64 i] w (Gate ls (Pq (RR ls) (leg ls i).f0.toNat) w):=by
  have hv':=legsB_iff.mp hv;have hn:=hv'.2;obtain⟨K,hK⟩:=areLegs_ev ls (by omega);have HA:=ak (hK K (Nat.le_refl _));rw[hv]at HA;have HW:Aside0 (impl_within.f i 0 ((ls.length:Int)-1)=some true):=⟨(by rw[within_eq,decide_eq_true (by omega)])⟩;obtain⟨k,rfl⟩:=Int.eq_ofNat_of_zero_le h0;have hg:=leg_good hv'.1 k (by omega);obtain⟨a,ha⟩:=Int.eq_ofNat_of_zero_le hg.1.1;have ha8:(a:Int)<8:=by have:=hg.1.2;omega
  rw[ha,Int.toNat_natCast];obtain⟨_,e2,h2,_⟩:=at_T82 hr0 (k:Int) h0 h1;cases e2;rw[Int.toNat_natCast,show rd_T82 ls (k:Int)=leg ls k from rfl,ha]at h2;have H2:=ak h2;have HG:=ak hv'.1;have HR:=ak hr0;have HL:=ak hL;have HB:=ak (Below.refl w.heap.size w);clear hK hr0 hL hv hv' hg ha h2;go_enter Tryz.func53,Tryz.ntmps53
  go_wp2_with (first
    |(go_at_call 61;(with_reducible refine(impl_areLegs.calls K _ _ ls true _ ?s1 ?s2 HA.out).mono ?_);(case s1=>exact Kd.C_below HR.out qz6);(case s2=>exact hc);rintro e w' ⟨rfl,hw⟩;replace HB:=ak (below_step (show Below w.heap.size w _ from by(repeat(first|exact HB.out|exact Below.refl _ _|apply below_alloc|apply pw_below_drewN|apply below_drew1));done) hw);clear hw)
    |(go_at_call 101;(with_reducible refine(impl_within.calls _ _ _ _ _ HW.out).mono ?_);rintro e w' ⟨rfl,⟨nd,rfl⟩⟩;replace HB:=ak (pw_below_drewN HB.out nd))
    |((go_at_call 66;(with_reducible refine(place _ c ls _ ?s1 ?s2 hc hn HG.out (RR ls) rfl).mono ?_);(case s1=>exact HL.out.keep qz6);(case s2=>exact Kd.C_below HR.out qz6);rintro e w' ⟨g,T,cl,rfl,hst,ho,hw⟩;have HO:Aside0 (Kd.R (Kd.int .i64) 3 w' w.heap.size (fun k=>k≠g∧k≠T) cl (closeL ls)):=⟨Kd.R_lower ho (below_size (show Below w.heap.size w _ from by(repeat(first|exact HB.out|exact Below.refl _ _|apply below_alloc|apply pw_below_drewN|apply below_drew1));done))⟩;replace HB:=ak (below_step (show Below w.heap.size w _ from by(repeat(first|exact HB.out|exact Below.refl _ _|apply below_alloc|apply pw_below_drewN|apply below_drew1));done) hw);have HS:=ak hst;clear hst ho hw;obtain⟨cA,cC,ecl⟩:=Kd.R_slice HO.out;subst ecl);have h2:=Sine.keepc H2.out HB.out;have pa:=HS.out.pb a (by omega)))
  go_quiet (fail)
  go_wp2
  go_ret2
  exact⟨g,T,cA,cC,rfl,HS.out.keep (pw_below_drewN (Below.refl _ _) _),Kd.R_drewN HO.out _,pw_below_drewN HB.out _⟩
theorem placedLeg_no(A:Option Addr)(c:Nat)(ls:L)(i:Int)(w:World)(hr0:Kd.C k82 w A ls.length ls)(hc:ls.length≤c)(hb:ls.length≤140737488351232)(hv:legsB ls=true→¬(0≤i∧i<ls.length)):
    Calls Tryz.prog 53 #[.slice A ls.length c,.int .i64 i] w fun e w'=>e= .returned (.tuple #[.pointer none,.bool false])∧Below w.heap.size w w':=by
  obtain⟨K,hK⟩:=areLegs_ev ls hb;have HA:=ak (hK K (Nat.le_refl _));have HR:=ak hr0;have HB:=ak (Below.refl w.heap.size w);clear hK hr0;cases hq:legsB ls
  · rw[hq]at HA
    clear hq hv;go_enter Tryz.func53,Tryz.ntmps53;go_wp2_with (go_at_call 61;(with_reducible refine(impl_areLegs.calls K _ _ ls false _ ?s1 ?s2 HA.out).mono ?_);(case s1=>exact Kd.C_below HR.out qz6);(case s2=>exact hc);rintro e w' ⟨rfl,hw⟩;replace HB:=ak (below_step (show Below w.heap.size w _ from by(repeat(first|exact HB.out|exact Below.refl _ _|apply below_alloc|apply pw_below_drewN|apply below_drew1));done) hw);clear hw)
    go_ret2
    exact⟨rfl,HB.out⟩
  · rw[hq]at HA
    have hv2:=hv hq;have HW:Aside0 (impl_within.f i 0 ((ls.length:Int)-1)=some false):=⟨(by rw[within_eq,decide_eq_false (by omega)])⟩;clear hq hv;go_enter Tryz.func53,Tryz.ntmps53
    go_wp2_with (first
      |(go_at_call 61;(with_reducible refine(impl_areLegs.calls K _ _ ls true _ ?s1 ?s2 HA.out).mono ?_);(case s1=>exact Kd.C_below HR.out qz6);(case s2=>exact hc);rintro e w' ⟨rfl,hw⟩;replace HB:=ak (below_step (show Below w.heap.size w _ from by(repeat(first|exact HB.out|exact Below.refl _ _|apply below_alloc|apply pw_below_drewN|apply below_drew1));done) hw);clear hw)
      |(go_at_call 101;(with_reducible refine(impl_within.calls _ _ _ _ _ HW.out).mono ?_);rintro e w' ⟨rfl,⟨nd,rfl⟩⟩;replace HB:=ak (pw_below_drewN HB.out nd)))
    go_ret2
    exact⟨rfl,HB.out⟩
def fixX(x:S82)(fix:Int):S82:=
  if fix=1 then⟨x.f0,x.f1,x.f2,Int.tmod (wrap64 (x.f3+180)) 360,x.f4⟩ else if fix=2 then⟨x.f0,x.f1,x.f2,x.f3,wrap64 (-x.f4)⟩ else if fix=3 then⟨x.f0,x.f1,wrap64 (x.f2+100),x.f3,x.f4⟩ else⟨x.f0,x.f1,wrap64 (x.f2-100),x.f3,x.f4⟩
theorem fix_eq(ls:L)(i:Nat)(fix:Int)(hi:i<ls.length)(hb:ls.length≤2000000):spec_l10Fix.f ls (i:Int) fix=some (ls.set i (fixX (leg ls i) fix)):=by
  unfold spec_l10Fix.f;rw[Option.bind_some,if_pos qz85,Option.bind_some,List.nil_append,if_pos (by omega),if_pos (by omega),Int.toNat_natCast];unfold fixX leg;by_cases h1:fix=1
  · rw[if_pos h1,if_pos h1]
  · rw[if_neg h1,if_neg h1]
    by_cases h2:fix=2
    · rw[if_pos h2,if_pos h2]
    · rw[if_neg h2,if_neg h2]
      by_cases h3:fix=3
      · rw[if_pos h3,if_pos h3]
      · rw[if_neg h3,if_neg h3]
theorem leg_get(ls:L)(i:Nat)(h:i<ls.length):leg ls (i:Int)=ls[i]:=by
  unfold leg rd_T82;rw[Int.toNat_natCast,List.getD_eq_getElem?_getD,List.getElem?_eq_getElem h];rfl
theorem legsB_set{ls:L}(hv:legsB ls=true)(i:Nat)(hi:i<ls.length)(x:S82):legsB (ls.set i x)=decide (Good x):=by
  have hv':=legsB_iff.mp hv;unfold legsB;rw[decide_eq_decide,List.length_set]
  constructor
  · rintro⟨h,_⟩
    exact h x (List.mem_iff_getElem.mpr ⟨i,(by rw[List.length_set];exact hi),(by rw[List.getElem_set_self])⟩)
  · intro h
    refine⟨fun y hy=>?_,hv'.2⟩;rcases List.mem_or_eq_of_mem_set hy with hy|hy
    · exact hv'.1 y hy
    · rw[hy];exact h
def fixM(ls:L)(i fix:Int):L×Bool:=
  if legsB ls=true∧(0≤i∧i<(ls.length:Int))∧(leg ls i).f0∈plL (RR ls)∧(1≤fix∧fix≤4)∧Good (fixX (leg ls i) fix)then(ls.set i.toNat (fixX (leg ls i) fix),true) else([],false)
theorem mem_plcL{ls:L}(hg:∀x∈ls,Good x)(i:Int):i∈plcL ls (RR ls) ls.length↔(0≤i∧i<(ls.length:Int))∧(leg ls i).f0∈plL (RR ls):=by
  unfold plcL;rw[mem_selTo]
  constructor
  · rintro⟨k,rfl,hk,h⟩
    rw[Pq_eq,Int.toNat_of_nonneg (leg_good hg k hk).1.1]at h;exact⟨⟨by omega,by omega⟩,of_decide_eq_true h⟩
  · rintro⟨⟨h0,h1⟩,h2⟩
    obtain⟨k,rfl⟩:=Int.eq_ofNat_of_zero_le h0;have hk:k<ls.length:=by omega
    exact⟨k,rfl,hk,(by rw[Pq_eq,Int.toNat_of_nonneg (leg_good hg k hk).1.1];exact decide_eq_true h2)⟩
theorem can_ev (ls:L) (i fix:Int) (hb:ls.length≤2000000):Ev (fun k=>spec_l10Can.f k ls i fix) (fixM ls i fix).2:=by
  unfold spec_l10Can.f fixM
  have hpl:Ev (fun k=>spec_l10Placed.f k ls i) (legsB ls && decide (i∈plcL ls (RR ls) ls.length)):=by
    unfold spec_l10Placed.f;refine Ev.bind (l4Legs_ev ls (by omega)) ?_;cases h:legsB ls
    · exact Ev.neg (by decide) (Ev.now _)
    · have h':=legsB_iff.mp h
      have hl:=selTo_len (fun k=>Pq (RR ls) (leg ls k).f0.toNat) ls.length;exact Ev.pos rfl (Ev.bind (l9Legs_ev h'.2 h'.1) (Ev.bind (has_ev _ _ (by unfold plcL;omega)) (Ev.now _)))
  refine Ev.bind hpl ?_;by_cases h:legsB ls=true∧i∈plcL ls (RR ls) ls.length
  · have hv:=legsB_iff.mp h.1
    have hm:=(mem_plcL hv.1 i).mp h.2;refine Ev.pos (by rw[h.1,decide_eq_true h.2];rfl) (Ev.bindc (show spec_l1In.f fix 1 4=some (decide (1≤fix∧fix≤4))from within_eq fix 1 4) ?_);by_cases hf:1≤fix∧fix≤4
    · refine Ev.pos (decide_eq_true hf) ?_
      obtain⟨k,rfl⟩:=Int.eq_ofNat_of_zero_le hm.1.1;refine Ev.bindc (fix_eq ls k fix (by omega) hb) (Ev.bind (l4Legs_ev _ (by rw[List.length_set];omega)) ?_);rw[legsB_set h.1 k (by omega)];by_cases hg:Good (fixX (leg ls k) fix)
      · rw[if_pos ⟨h.1,hm.1,hm.2,hf,hg⟩,decide_eq_true hg]
        exact Ev.now _
      · rw[if_neg (fun e=>hg e.2.2.2.2),decide_eq_false hg]
        exact Ev.now _
    · rw[if_neg (fun e=>hf e.2.2.2.1)]
      exact Ev.neg (by rw[decide_eq_false hf];decide) (Ev.now _)
  · rw[if_neg (fun e=>h ⟨e.1,(mem_plcL (legsB_iff.mp e.1).1 i).mpr ⟨e.2.1,e.2.2.1⟩⟩)]
    exact Ev.neg (by rw[Bool.and_eq_true,decide_eq_true_eq];exact h) (Ev.now _)
end Net
namespace Net
open Go Go.RowKit YtmgkbhhnchnkcaaGreatDoorW.PrintWords YtmgkbhhnchnkcaaGreatDoorW.PrintLast YtmgkbhhnchnkcaaGreatDoorW.PrintMore A Plain
def fixedM(x:S82)(fix:Int):S82×Bool:=if 1≤fix∧fix≤4 then(fixX x fix,decide (Good (fixX x fix))) else(⟨0,0,0,0,0⟩,false)
def FixPost(y:S82)(b:Bool)(w:World)(e:Ending)(w':World):Prop:=e= .returned (.tuple #[.agg #[.int .i64 y.f0,.int .i64 y.f1,.int .i64 y.f2,.int .i64 y.f3,.int .i64 y.f4],.bool b])∧Below w.heap.size w w'
theorem fixed1(x:S82)(nv:Int)(hnv:nv=(Int.tmod (wrap64 (x.f3+180)) 360))(w:World):
    Calls Tryz.prog 112 #[.agg #[.int .i64 x.f0,.int .i64 x.f1,.int .i64 x.f2,.int .i64 x.f3,.int .i64 x.f4],.int .i64 1] w (FixPost ⟨x.f0,x.f1,x.f2,nv,x.f4⟩ (decide (Good ⟨x.f0,x.f1,x.f2,nv,x.f4⟩)) w):=by
  have HI:=ak (IsLeg_eq ⟨x.f0,x.f1,x.f2,nv,x.f4⟩);simp only at HI;generalize decide (Good ⟨x.f0,x.f1,x.f2,nv,x.f4⟩)=bb at *;have HBK:Aside0 (impl_back.f x.f3=some nv):=⟨(by rw[hnv];rfl)⟩;clear hnv;go_enter Tryz.func112,Tryz.ntmps112;go_wp2_with (go_at_call 137;(with_reducible refine(impl_back.calls _ _ _ HBK.out).mono ?_);rintro e w' ⟨rfl,⟨nd,rfl⟩⟩);obtain⟨W1,hW1⟩:∃W1,W1=((((w.alloc (Obj.cells #[Value.int IntKind.i64 x.f0,Value.int IntKind.i64 x.f1,Value.int IntKind.i64 x.f2,Value.int IntKind.i64 x.f3,Value.int IntKind.i64 x.f4] 82)).alloc (Obj.cells #[Value.int IntKind.i64 0,Value.int IntKind.i64 0,Value.int IntKind.i64 0,Value.int IntKind.i64 0,Value.int IntKind.i64 0] 82)).drewN nd).setCell ⟨w.heap.size,3,none⟩ (.int .i64 nv)):=⟨_,rfl⟩
  have h0:W1.cell? ⟨w.heap.size,0,none⟩=some (.int .i64 x.f0):=by rw[hW1];go_simp
  have h1:W1.cell? ⟨w.heap.size,1,none⟩=some (.int .i64 x.f1):=by rw[hW1];go_simp
  have h2:W1.cell? ⟨w.heap.size,2,none⟩=some (.int .i64 x.f2):=by rw[hW1];go_simp
  have h3:W1.cell? ⟨w.heap.size,3,none⟩=some (.int .i64 nv):=by rw[hW1];go_simp
  have h4:W1.cell? ⟨w.heap.size,4,none⟩=some (.int .i64 x.f4):=by rw[hW1];go_simp
  have y0:W1.cell? ⟨w.heap.size+1,0,none⟩=some (.int .i64 0):=by rw[hW1];go_simp
  have y1:W1.cell? ⟨w.heap.size+1,1,none⟩=some (.int .i64 0):=by rw[hW1];go_simp
  have y2:W1.cell? ⟨w.heap.size+1,2,none⟩=some (.int .i64 0):=by rw[hW1];go_simp
  have y3:W1.cell? ⟨w.heap.size+1,3,none⟩=some (.int .i64 0):=by rw[hW1];go_simp
  have y4:W1.cell? ⟨w.heap.size+1,4,none⟩=some (.int .i64 0):=by rw[hW1];go_simp
  have u0:W1.frozen? ⟨w.heap.size+1,0,none⟩=false:=by rw[hW1];go_simp
  have u1:W1.frozen? ⟨w.heap.size+1,1,none⟩=false:=by rw[hW1];go_simp
  have u2:W1.frozen? ⟨w.heap.size+1,2,none⟩=false:=by rw[hW1];go_simp
  have u3:W1.frozen? ⟨w.heap.size+1,3,none⟩=false:=by rw[hW1];go_simp
  have u4:W1.frozen? ⟨w.heap.size+1,4,none⟩=false:=by rw[hW1];go_simp
  have HB:Aside0 (Below w.heap.size w W1):=⟨qz58⟩;rw[←hW1];clear hW1;have n1:w.heap.size+1≠w.heap.size:=by omega
  go_region_held3 (fun w'=>w'.cell? ⟨w.heap.size,0,none⟩=some (.int .i64 x.f0)∧w'.cell? ⟨w.heap.size,1,none⟩=some (.int .i64 x.f1)∧w'.cell? ⟨w.heap.size,2,none⟩=some (.int .i64 x.f2)∧w'.cell? ⟨w.heap.size,3,none⟩=some (.int .i64 nv)∧w'.cell? ⟨w.heap.size,4,none⟩=some (.int .i64 x.f4))
    ((repeat' refine And.intro ?_ ?_)<;>first
      |((with_reducible refine far (far (far (far (far ?_ ?_) ?_) ?_) ?_) ?_)<;>first|exact blkne n1|exact Sine.keepc (w:=W1) qz42 qz13)
      |exact Sine.keepc (w:=W1) qz42 qz13)
    (first
      | (go_at_call 108;(with_reducible refine(impl_IsLeg.calls _ _ _ _ _ _ _ HI.out).mono ?_);rintro e w' ⟨rfl,hw1⟩
         have HB3:Aside0 (Below w.heap.size w w'):=⟨qz13⟩;have k0:=Sine.keepc (w:=W1) y0 (show Below W1.heap.size W1 w' from by(repeat(first|exact Below.refl _ _|apply pw_below_drewN|apply below_drew1|exact HB.out|refine below_step ?_ qz42));done);have z0:=keepz (w:=W1) y0 u0 (show Below W1.heap.size W1 w' from by(repeat(first|exact Below.refl _ _|apply pw_below_drewN|apply below_drew1|exact HB.out|refine below_step ?_ qz42));done);have k1:=Sine.keepc (w:=W1) y1 (show Below W1.heap.size W1 w' from by(repeat(first|exact Below.refl _ _|apply pw_below_drewN|apply below_drew1|exact HB.out|refine below_step ?_ qz42));done);have z1:=keepz (w:=W1) y1 u1 (show Below W1.heap.size W1 w' from by(repeat(first|exact Below.refl _ _|apply pw_below_drewN|apply below_drew1|exact HB.out|refine below_step ?_ qz42));done);have k2:=Sine.keepc (w:=W1) y2 (show Below W1.heap.size W1 w' from by(repeat(first|exact Below.refl _ _|apply pw_below_drewN|apply below_drew1|exact HB.out|refine below_step ?_ qz42));done);have z2:=keepz (w:=W1) y2 u2 (show Below W1.heap.size W1 w' from by(repeat(first|exact Below.refl _ _|apply pw_below_drewN|apply below_drew1|exact HB.out|refine below_step ?_ qz42));done);have k3:=Sine.keepc (w:=W1) y3 (show Below W1.heap.size W1 w' from by(repeat(first|exact Below.refl _ _|apply pw_below_drewN|apply below_drew1|exact HB.out|refine below_step ?_ qz42));done);have z3:=keepz (w:=W1) y3 u3 (show Below W1.heap.size W1 w' from by(repeat(first|exact Below.refl _ _|apply pw_below_drewN|apply below_drew1|exact HB.out|refine below_step ?_ qz42));done);have k4:=Sine.keepc (w:=W1) y4 (show Below W1.heap.size W1 w' from by(repeat(first|exact Below.refl _ _|apply pw_below_drewN|apply below_drew1|exact HB.out|refine below_step ?_ qz42));done)
         have z4:=keepz (w:=W1) y4 u4 (show Below W1.heap.size W1 w' from by(repeat(first|exact Below.refl _ _|apply pw_below_drewN|apply below_drew1|exact HB.out|refine below_step ?_ qz42));done)))
  go_wp2;exact bodyPost_ret (v:= .tuple #[.agg #[.int .i64 x.f0,.int .i64 x.f1,.int .i64 x.f2,.int .i64 nv,.int .i64 x.f4],.bool bb]) qz78 rfl ⟨rfl,qz73⟩
theorem fixed2(x:S82)(nv:Int)(hnv:nv=(wrap64 (-x.f4)))(w:World):
    Calls Tryz.prog 112 #[.agg #[.int .i64 x.f0,.int .i64 x.f1,.int .i64 x.f2,.int .i64 x.f3,.int .i64 x.f4],.int .i64 2] w (FixPost ⟨x.f0,x.f1,x.f2,x.f3,nv⟩ (decide (Good ⟨x.f0,x.f1,x.f2,x.f3,nv⟩)) w):=by
  have HI:=ak (IsLeg_eq ⟨x.f0,x.f1,x.f2,x.f3,nv⟩);simp only at HI;generalize decide (Good ⟨x.f0,x.f1,x.f2,x.f3,nv⟩)=bb at *;go_enter Tryz.func112,Tryz.ntmps112;go_wp2;rw[←hnv];clear hnv;obtain⟨W1,hW1⟩:∃W1,W1=((w.alloc (Obj.cells #[Value.int IntKind.i64 x.f0,Value.int IntKind.i64 x.f1,Value.int IntKind.i64 x.f2,Value.int IntKind.i64 x.f3,Value.int IntKind.i64 nv] 82)).alloc (Obj.cells #[Value.int IntKind.i64 0,Value.int IntKind.i64 0,Value.int IntKind.i64 0,Value.int IntKind.i64 0,Value.int IntKind.i64 0] 82)):=⟨_,rfl⟩
  have h0:W1.cell? ⟨w.heap.size,0,none⟩=some (.int .i64 x.f0):=by rw[hW1];go_simp
  have h1:W1.cell? ⟨w.heap.size,1,none⟩=some (.int .i64 x.f1):=by rw[hW1];go_simp
  have h2:W1.cell? ⟨w.heap.size,2,none⟩=some (.int .i64 x.f2):=by rw[hW1];go_simp
  have h3:W1.cell? ⟨w.heap.size,3,none⟩=some (.int .i64 x.f3):=by rw[hW1];go_simp
  have h4:W1.cell? ⟨w.heap.size,4,none⟩=some (.int .i64 nv):=by rw[hW1];go_simp
  have y0:W1.cell? ⟨w.heap.size+1,0,none⟩=some (.int .i64 0):=by rw[hW1];go_simp
  have y1:W1.cell? ⟨w.heap.size+1,1,none⟩=some (.int .i64 0):=by rw[hW1];go_simp
  have y2:W1.cell? ⟨w.heap.size+1,2,none⟩=some (.int .i64 0):=by rw[hW1];go_simp
  have y3:W1.cell? ⟨w.heap.size+1,3,none⟩=some (.int .i64 0):=by rw[hW1];go_simp
  have y4:W1.cell? ⟨w.heap.size+1,4,none⟩=some (.int .i64 0):=by rw[hW1];go_simp
  have u0:W1.frozen? ⟨w.heap.size+1,0,none⟩=false:=by rw[hW1];go_simp
  have u1:W1.frozen? ⟨w.heap.size+1,1,none⟩=false:=by rw[hW1];go_simp
  have u2:W1.frozen? ⟨w.heap.size+1,2,none⟩=false:=by rw[hW1];go_simp
  have u3:W1.frozen? ⟨w.heap.size+1,3,none⟩=false:=by rw[hW1];go_simp
  have u4:W1.frozen? ⟨w.heap.size+1,4,none⟩=false:=by rw[hW1];go_simp
  have HB:Aside0 (Below w.heap.size w W1):=⟨qz58⟩;rw[←hW1];clear hW1;have n1:w.heap.size+1≠w.heap.size:=by omega
  go_region_held3 (fun w'=>w'.cell? ⟨w.heap.size,0,none⟩=some (.int .i64 x.f0)∧w'.cell? ⟨w.heap.size,1,none⟩=some (.int .i64 x.f1)∧w'.cell? ⟨w.heap.size,2,none⟩=some (.int .i64 x.f2)∧w'.cell? ⟨w.heap.size,3,none⟩=some (.int .i64 x.f3)∧w'.cell? ⟨w.heap.size,4,none⟩=some (.int .i64 nv))
    ((repeat' refine And.intro ?_ ?_)<;>first
      |((with_reducible refine far (far (far (far (far ?_ ?_) ?_) ?_) ?_) ?_)<;>first|exact blkne n1|exact Sine.keepc (w:=W1) qz42 qz13)
      |exact Sine.keepc (w:=W1) qz42 qz13)
    (first
      | (go_at_call 108;(with_reducible refine(impl_IsLeg.calls _ _ _ _ _ _ _ HI.out).mono ?_);rintro e w' ⟨rfl,hw1⟩
         have HB3:Aside0 (Below w.heap.size w w'):=⟨qz13⟩;have k0:=Sine.keepc (w:=W1) y0 (show Below W1.heap.size W1 w' from by(repeat(first|exact Below.refl _ _|apply pw_below_drewN|apply below_drew1|exact HB.out|refine below_step ?_ qz42));done);have z0:=keepz (w:=W1) y0 u0 (show Below W1.heap.size W1 w' from by(repeat(first|exact Below.refl _ _|apply pw_below_drewN|apply below_drew1|exact HB.out|refine below_step ?_ qz42));done);have k1:=Sine.keepc (w:=W1) y1 (show Below W1.heap.size W1 w' from by(repeat(first|exact Below.refl _ _|apply pw_below_drewN|apply below_drew1|exact HB.out|refine below_step ?_ qz42));done);have z1:=keepz (w:=W1) y1 u1 (show Below W1.heap.size W1 w' from by(repeat(first|exact Below.refl _ _|apply pw_below_drewN|apply below_drew1|exact HB.out|refine below_step ?_ qz42));done);have k2:=Sine.keepc (w:=W1) y2 (show Below W1.heap.size W1 w' from by(repeat(first|exact Below.refl _ _|apply pw_below_drewN|apply below_drew1|exact HB.out|refine below_step ?_ qz42));done);have z2:=keepz (w:=W1) y2 u2 (show Below W1.heap.size W1 w' from by(repeat(first|exact Below.refl _ _|apply pw_below_drewN|apply below_drew1|exact HB.out|refine below_step ?_ qz42));done);have k3:=Sine.keepc (w:=W1) y3 (show Below W1.heap.size W1 w' from by(repeat(first|exact Below.refl _ _|apply pw_below_drewN|apply below_drew1|exact HB.out|refine below_step ?_ qz42));done);have z3:=keepz (w:=W1) y3 u3 (show Below W1.heap.size W1 w' from by(repeat(first|exact Below.refl _ _|apply pw_below_drewN|apply below_drew1|exact HB.out|refine below_step ?_ qz42));done);have k4:=Sine.keepc (w:=W1) y4 (show Below W1.heap.size W1 w' from by(repeat(first|exact Below.refl _ _|apply pw_below_drewN|apply below_drew1|exact HB.out|refine below_step ?_ qz42));done)
         have z4:=keepz (w:=W1) y4 u4 (show Below W1.heap.size W1 w' from by(repeat(first|exact Below.refl _ _|apply pw_below_drewN|apply below_drew1|exact HB.out|refine below_step ?_ qz42));done)))
  go_wp2;exact bodyPost_ret (v:= .tuple #[.agg #[.int .i64 x.f0,.int .i64 x.f1,.int .i64 x.f2,.int .i64 x.f3,.int .i64 nv],.bool bb]) qz78 rfl ⟨rfl,qz73⟩
theorem fixed3(x:S82)(nv:Int)(hnv:nv=(wrap64 (x.f2+100)))(w:World):
    Calls Tryz.prog 112 #[.agg #[.int .i64 x.f0,.int .i64 x.f1,.int .i64 x.f2,.int .i64 x.f3,.int .i64 x.f4],.int .i64 3] w (FixPost ⟨x.f0,x.f1,nv,x.f3,x.f4⟩ (decide (Good ⟨x.f0,x.f1,nv,x.f3,x.f4⟩)) w):=by
  have HI:=ak (IsLeg_eq ⟨x.f0,x.f1,nv,x.f3,x.f4⟩);simp only at HI;generalize decide (Good ⟨x.f0,x.f1,nv,x.f3,x.f4⟩)=bb at *;go_enter Tryz.func112,Tryz.ntmps112;go_wp2;rw[←hnv];clear hnv;obtain⟨W1,hW1⟩:∃W1,W1=((w.alloc (Obj.cells #[Value.int IntKind.i64 x.f0,Value.int IntKind.i64 x.f1,Value.int IntKind.i64 nv,Value.int IntKind.i64 x.f3,Value.int IntKind.i64 x.f4] 82)).alloc (Obj.cells #[Value.int IntKind.i64 0,Value.int IntKind.i64 0,Value.int IntKind.i64 0,Value.int IntKind.i64 0,Value.int IntKind.i64 0] 82)):=⟨_,rfl⟩
  have h0:W1.cell? ⟨w.heap.size,0,none⟩=some (.int .i64 x.f0):=by rw[hW1];go_simp
  have h1:W1.cell? ⟨w.heap.size,1,none⟩=some (.int .i64 x.f1):=by rw[hW1];go_simp
  have h2:W1.cell? ⟨w.heap.size,2,none⟩=some (.int .i64 nv):=by rw[hW1];go_simp
  have h3:W1.cell? ⟨w.heap.size,3,none⟩=some (.int .i64 x.f3):=by rw[hW1];go_simp
  have h4:W1.cell? ⟨w.heap.size,4,none⟩=some (.int .i64 x.f4):=by rw[hW1];go_simp
  have y0:W1.cell? ⟨w.heap.size+1,0,none⟩=some (.int .i64 0):=by rw[hW1];go_simp
  have y1:W1.cell? ⟨w.heap.size+1,1,none⟩=some (.int .i64 0):=by rw[hW1];go_simp
  have y2:W1.cell? ⟨w.heap.size+1,2,none⟩=some (.int .i64 0):=by rw[hW1];go_simp
  have y3:W1.cell? ⟨w.heap.size+1,3,none⟩=some (.int .i64 0):=by rw[hW1];go_simp
  have y4:W1.cell? ⟨w.heap.size+1,4,none⟩=some (.int .i64 0):=by rw[hW1];go_simp
  have u0:W1.frozen? ⟨w.heap.size+1,0,none⟩=false:=by rw[hW1];go_simp
  have u1:W1.frozen? ⟨w.heap.size+1,1,none⟩=false:=by rw[hW1];go_simp
  have u2:W1.frozen? ⟨w.heap.size+1,2,none⟩=false:=by rw[hW1];go_simp
  have u3:W1.frozen? ⟨w.heap.size+1,3,none⟩=false:=by rw[hW1];go_simp
  have u4:W1.frozen? ⟨w.heap.size+1,4,none⟩=false:=by rw[hW1];go_simp
  have HB:Aside0 (Below w.heap.size w W1):=⟨qz58⟩;rw[←hW1];clear hW1;have n1:w.heap.size+1≠w.heap.size:=by omega
  go_region_held3 (fun w'=>w'.cell? ⟨w.heap.size,0,none⟩=some (.int .i64 x.f0)∧w'.cell? ⟨w.heap.size,1,none⟩=some (.int .i64 x.f1)∧w'.cell? ⟨w.heap.size,2,none⟩=some (.int .i64 nv)∧w'.cell? ⟨w.heap.size,3,none⟩=some (.int .i64 x.f3)∧w'.cell? ⟨w.heap.size,4,none⟩=some (.int .i64 x.f4))
    ((repeat' refine And.intro ?_ ?_)<;>first
      |((with_reducible refine far (far (far (far (far ?_ ?_) ?_) ?_) ?_) ?_)<;>first|exact blkne n1|exact Sine.keepc (w:=W1) qz42 qz13)
      |exact Sine.keepc (w:=W1) qz42 qz13)
    (first
      | (go_at_call 108;(with_reducible refine(impl_IsLeg.calls _ _ _ _ _ _ _ HI.out).mono ?_);rintro e w' ⟨rfl,hw1⟩
         have HB3:Aside0 (Below w.heap.size w w'):=⟨qz13⟩;have k0:=Sine.keepc (w:=W1) y0 (show Below W1.heap.size W1 w' from by(repeat(first|exact Below.refl _ _|apply pw_below_drewN|apply below_drew1|exact HB.out|refine below_step ?_ qz42));done);have z0:=keepz (w:=W1) y0 u0 (show Below W1.heap.size W1 w' from by(repeat(first|exact Below.refl _ _|apply pw_below_drewN|apply below_drew1|exact HB.out|refine below_step ?_ qz42));done);have k1:=Sine.keepc (w:=W1) y1 (show Below W1.heap.size W1 w' from by(repeat(first|exact Below.refl _ _|apply pw_below_drewN|apply below_drew1|exact HB.out|refine below_step ?_ qz42));done);have z1:=keepz (w:=W1) y1 u1 (show Below W1.heap.size W1 w' from by(repeat(first|exact Below.refl _ _|apply pw_below_drewN|apply below_drew1|exact HB.out|refine below_step ?_ qz42));done);have k2:=Sine.keepc (w:=W1) y2 (show Below W1.heap.size W1 w' from by(repeat(first|exact Below.refl _ _|apply pw_below_drewN|apply below_drew1|exact HB.out|refine below_step ?_ qz42));done);have z2:=keepz (w:=W1) y2 u2 (show Below W1.heap.size W1 w' from by(repeat(first|exact Below.refl _ _|apply pw_below_drewN|apply below_drew1|exact HB.out|refine below_step ?_ qz42));done);have k3:=Sine.keepc (w:=W1) y3 (show Below W1.heap.size W1 w' from by(repeat(first|exact Below.refl _ _|apply pw_below_drewN|apply below_drew1|exact HB.out|refine below_step ?_ qz42));done);have z3:=keepz (w:=W1) y3 u3 (show Below W1.heap.size W1 w' from by(repeat(first|exact Below.refl _ _|apply pw_below_drewN|apply below_drew1|exact HB.out|refine below_step ?_ qz42));done);have k4:=Sine.keepc (w:=W1) y4 (show Below W1.heap.size W1 w' from by(repeat(first|exact Below.refl _ _|apply pw_below_drewN|apply below_drew1|exact HB.out|refine below_step ?_ qz42));done)
         have z4:=keepz (w:=W1) y4 u4 (show Below W1.heap.size W1 w' from by(repeat(first|exact Below.refl _ _|apply pw_below_drewN|apply below_drew1|exact HB.out|refine below_step ?_ qz42));done)))
  go_wp2;exact bodyPost_ret (v:= .tuple #[.agg #[.int .i64 x.f0,.int .i64 x.f1,.int .i64 nv,.int .i64 x.f3,.int .i64 x.f4],.bool bb]) qz78 rfl ⟨rfl,qz73⟩
theorem fixed4(x:S82)(nv:Int)(hnv:nv=(wrap64 (x.f2-100)))(w:World):
    Calls Tryz.prog 112 #[.agg #[.int .i64 x.f0,.int .i64 x.f1,.int .i64 x.f2,.int .i64 x.f3,.int .i64 x.f4],.int .i64 4] w (FixPost ⟨x.f0,x.f1,nv,x.f3,x.f4⟩ (decide (Good ⟨x.f0,x.f1,nv,x.f3,x.f4⟩)) w):=by
  have HI:=ak (IsLeg_eq ⟨x.f0,x.f1,nv,x.f3,x.f4⟩);simp only at HI;generalize decide (Good ⟨x.f0,x.f1,nv,x.f3,x.f4⟩)=bb at *;go_enter Tryz.func112,Tryz.ntmps112;go_wp2;rw[←hnv];clear hnv;obtain⟨W1,hW1⟩:∃W1,W1=((w.alloc (Obj.cells #[Value.int IntKind.i64 x.f0,Value.int IntKind.i64 x.f1,Value.int IntKind.i64 nv,Value.int IntKind.i64 x.f3,Value.int IntKind.i64 x.f4] 82)).alloc (Obj.cells #[Value.int IntKind.i64 0,Value.int IntKind.i64 0,Value.int IntKind.i64 0,Value.int IntKind.i64 0,Value.int IntKind.i64 0] 82)):=⟨_,rfl⟩
  have h0:W1.cell? ⟨w.heap.size,0,none⟩=some (.int .i64 x.f0):=by rw[hW1];go_simp
  have h1:W1.cell? ⟨w.heap.size,1,none⟩=some (.int .i64 x.f1):=by rw[hW1];go_simp
  have h2:W1.cell? ⟨w.heap.size,2,none⟩=some (.int .i64 nv):=by rw[hW1];go_simp
  have h3:W1.cell? ⟨w.heap.size,3,none⟩=some (.int .i64 x.f3):=by rw[hW1];go_simp
  have h4:W1.cell? ⟨w.heap.size,4,none⟩=some (.int .i64 x.f4):=by rw[hW1];go_simp
  have y0:W1.cell? ⟨w.heap.size+1,0,none⟩=some (.int .i64 0):=by rw[hW1];go_simp
  have y1:W1.cell? ⟨w.heap.size+1,1,none⟩=some (.int .i64 0):=by rw[hW1];go_simp
  have y2:W1.cell? ⟨w.heap.size+1,2,none⟩=some (.int .i64 0):=by rw[hW1];go_simp
  have y3:W1.cell? ⟨w.heap.size+1,3,none⟩=some (.int .i64 0):=by rw[hW1];go_simp
  have y4:W1.cell? ⟨w.heap.size+1,4,none⟩=some (.int .i64 0):=by rw[hW1];go_simp
  have u0:W1.frozen? ⟨w.heap.size+1,0,none⟩=false:=by rw[hW1];go_simp
  have u1:W1.frozen? ⟨w.heap.size+1,1,none⟩=false:=by rw[hW1];go_simp
  have u2:W1.frozen? ⟨w.heap.size+1,2,none⟩=false:=by rw[hW1];go_simp
  have u3:W1.frozen? ⟨w.heap.size+1,3,none⟩=false:=by rw[hW1];go_simp
  have u4:W1.frozen? ⟨w.heap.size+1,4,none⟩=false:=by rw[hW1];go_simp
  have HB:Aside0 (Below w.heap.size w W1):=⟨qz58⟩;rw[←hW1];clear hW1;have n1:w.heap.size+1≠w.heap.size:=by omega
  go_region_held3 (fun w'=>w'.cell? ⟨w.heap.size,0,none⟩=some (.int .i64 x.f0)∧w'.cell? ⟨w.heap.size,1,none⟩=some (.int .i64 x.f1)∧w'.cell? ⟨w.heap.size,2,none⟩=some (.int .i64 nv)∧w'.cell? ⟨w.heap.size,3,none⟩=some (.int .i64 x.f3)∧w'.cell? ⟨w.heap.size,4,none⟩=some (.int .i64 x.f4))
    ((repeat' refine And.intro ?_ ?_)<;>first
      |((with_reducible refine far (far (far (far (far ?_ ?_) ?_) ?_) ?_) ?_)<;>first|exact blkne n1|exact Sine.keepc (w:=W1) qz42 qz13)
      |exact Sine.keepc (w:=W1) qz42 qz13)
    (first
      | (go_at_call 108;(with_reducible refine(impl_IsLeg.calls _ _ _ _ _ _ _ HI.out).mono ?_);rintro e w' ⟨rfl,hw1⟩
         have HB3:Aside0 (Below w.heap.size w w'):=⟨qz13⟩;have k0:=Sine.keepc (w:=W1) y0 (show Below W1.heap.size W1 w' from by(repeat(first|exact Below.refl _ _|apply pw_below_drewN|apply below_drew1|exact HB.out|refine below_step ?_ qz42));done);have z0:=keepz (w:=W1) y0 u0 (show Below W1.heap.size W1 w' from by(repeat(first|exact Below.refl _ _|apply pw_below_drewN|apply below_drew1|exact HB.out|refine below_step ?_ qz42));done);have k1:=Sine.keepc (w:=W1) y1 (show Below W1.heap.size W1 w' from by(repeat(first|exact Below.refl _ _|apply pw_below_drewN|apply below_drew1|exact HB.out|refine below_step ?_ qz42));done);have z1:=keepz (w:=W1) y1 u1 (show Below W1.heap.size W1 w' from by(repeat(first|exact Below.refl _ _|apply pw_below_drewN|apply below_drew1|exact HB.out|refine below_step ?_ qz42));done);have k2:=Sine.keepc (w:=W1) y2 (show Below W1.heap.size W1 w' from by(repeat(first|exact Below.refl _ _|apply pw_below_drewN|apply below_drew1|exact HB.out|refine below_step ?_ qz42));done);have z2:=keepz (w:=W1) y2 u2 (show Below W1.heap.size W1 w' from by(repeat(first|exact Below.refl _ _|apply pw_below_drewN|apply below_drew1|exact HB.out|refine below_step ?_ qz42));done);have k3:=Sine.keepc (w:=W1) y3 (show Below W1.heap.size W1 w' from by(repeat(first|exact Below.refl _ _|apply pw_below_drewN|apply below_drew1|exact HB.out|refine below_step ?_ qz42));done);have z3:=keepz (w:=W1) y3 u3 (show Below W1.heap.size W1 w' from by(repeat(first|exact Below.refl _ _|apply pw_below_drewN|apply below_drew1|exact HB.out|refine below_step ?_ qz42));done);have k4:=Sine.keepc (w:=W1) y4 (show Below W1.heap.size W1 w' from by(repeat(first|exact Below.refl _ _|apply pw_below_drewN|apply below_drew1|exact HB.out|refine below_step ?_ qz42));done)
         have z4:=keepz (w:=W1) y4 u4 (show Below W1.heap.size W1 w' from by(repeat(first|exact Below.refl _ _|apply pw_below_drewN|apply below_drew1|exact HB.out|refine below_step ?_ qz42));done)))
  go_wp2;exact bodyPost_ret (v:= .tuple #[.agg #[.int .i64 x.f0,.int .i64 x.f1,.int .i64 nv,.int .i64 x.f3,.int .i64 x.f4],.bool bb]) qz78 rfl ⟨rfl,qz73⟩
end Net
end Go.Proofs.YtmgkbhhnchnkcaaGreatDoor
