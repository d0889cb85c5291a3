/- The equations of a network: the matrix is a grounded Laplacian; the number of trees is positive and at most 6561; the coordinates solve the equations. -/
import Derived.Test.YtmgkbhhnchnkcaaGreatDoorKFnFixesU4
set_option linter.unusedSimpArgs false
set_option linter.unusedVariables false
namespace Go.Proofs.YtmgkbhhnchnkcaaGreatDoor
namespace Det
def sumTo:Nat→(Nat→Int)→Int
  |0,_=>0
  |n+1,f=>sumTo n f+f n
theorem sumTo_congr{n:Nat}{f g:Nat→Int}(h:∀j,j<n→f j=g j):sumTo n f=sumTo n g:=by
  induction n with
  |zero=>rfl
  |succ n ih=>rw[sumTo,sumTo,ih (fun j hj=>h j (by omega)),h n (by omega)]
theorem sumTo_zero{n:Nat}{f:Nat→Int}(h:∀j,j<n→f j=0):sumTo n f=0:=by
  induction n with
  |zero=>rfl
  |succ n ih=>rw[sumTo,ih (fun j hj=>h j (by omega)),h n (by omega)];rfl
theorem sumTo_add(n:Nat)(f g:Nat→Int):sumTo n (fun j=>f j+g j)=sumTo n f+sumTo n g:=by
  induction n with
  |zero=>rfl
  |succ n ih=>simp only[sumTo];rw[ih];omega
theorem sumTo_neg(n:Nat)(f:Nat→Int):sumTo n (fun j=> - f j)= - sumTo n f:=by
  induction n with
  |zero=>rfl
  |succ n ih=>simp only[sumTo];rw[ih];omega
theorem sumTo_mul(n:Nat)(c:Int)(f:Nat→Int):sumTo n (fun j=>c*f j)=c*sumTo n f:=by
  induction n with
  |zero=>simp[sumTo]
  |succ n ih=>simp only[sumTo];rw[ih,Int.mul_add]
theorem sumTo_swap(n m:Nat)(f:Nat→Nat→Int):sumTo n (fun i=>sumTo m (fun j=>f i j))=sumTo m (fun j=>sumTo n (fun i=>f i j)):=by
  induction n with
  |zero=>simp only[sumTo];rw[sumTo_zero (fun _ _=>rfl)]
  |succ n ih=>simp only[sumTo];rw[ih,sumTo_add]
def del(S:Nat→Bool)(j:Nat):Nat→Bool:=fun l=>S l && !(l==j)
def sg(S:Nat→Bool)(j:Nat):Nat→Int
  |0=>1
  |n+1=>if j<n∧S n=true then-sg S j n else sg S j n
theorem sg_congr{S T:Nat→Bool}{j n:Nat}(h:∀l,j<l→l<n→S l=T l):sg S j n=sg T j n:=by
  induction n with
  |zero=>rfl
  | succ n ih=>
    simp only[sg];rw[ih (fun l h1 h2=>h l h1 (by omega))];by_cases hj:j<n
    · rw[h n hj (by omega)]
    · rw[if_neg (by omega),if_neg (by omega)]
theorem sg_sq(S:Nat→Bool)(j n:Nat):sg S j n*sg S j n=1:=by
  induction n with
  |zero=>rfl
  | succ n ih=>
    simp only[sg];split
    · rw[Int.neg_mul_neg]
      exact ih
    · exact ih
theorem sg_del_above {S:Nat→Bool} {j l n:Nat} (hl:S l=true) (h:j<l) (hn:l<n):sg (del S l) j n= - sg S j n:=by
  induction n with
  |zero=>omega
  | succ n ih=>
    simp only[sg];by_cases e:l=n
    · subst e
      have e1:del S l l=false:=by simp[del]
      rw[if_neg (by simp[e1]),if_pos ⟨h,hl⟩,Int.neg_neg]
      exact sg_congr fun m h1 h2=>by
        have:(m==l)=false:=beq_eq_false_iff_ne.2 (by omega);simp[del,this]
    · rw[ih (by omega)]
      have e1:del S l n=S n:=by
        have:(n==l)=false:=beq_eq_false_iff_ne.2 (by omega);simp[del,this]
      rw[e1];split<;>rfl
theorem sg_del_below{S:Nat→Bool}{j l n:Nat}(h:l≤j):sg (del S l) j n=sg S j n:=
  sg_congr fun m h1 _=>by
    have:(m==l)=false:=beq_eq_false_iff_ne.2 (by omega);simp[del,this]
theorem del_comm(S:Nat→Bool)(i j:Nat):del (del S i) j=del (del S j) i:=by
  funext l
  unfold del;cases S l<;>cases(l==i)<;>cases(l==j)<;>rfl
def F(n:Nat)(A:Nat→Nat→Int):Nat→(Nat→Bool)→Int
  |0,S=>if∀l,l<n→S l=false then 1 else 0
  |k+1,S=>sumTo n fun j=>if S j=true then sg S j n*A k j*F n A k (del S j) else 0
theorem F_congr{n:Nat}{A B:Nat→Nat→Int}:∀{k:Nat} {S T:Nat→Bool},(∀i j,i<k→j<n→S j=true→A i j=B i j)→(∀l,l<n→S l=T l)→F n A k S=F n B k T
  | 0,S,T,_,hS=>by
    rw[F,F];by_cases h:∀l,l<n→S l=false
    · rw[if_pos h,if_pos (fun l hl=>by rw[←hS l hl];exact h l hl)]
    · rw[if_neg h,if_neg (fun h'=>h (fun l hl=>by rw[hS l hl];exact h' l hl))]
  | k +1,S,T,hA,hS=>by
    rw[F,F];refine sumTo_congr fun j hj=>?_
    rw[←hS j hj];by_cases h:S j=true
    · rw[if_pos h,if_pos h,hA k j (by omega) hj h,sg_congr (fun l _ h2=>hS l h2)]
      rw[F_congr (k:=k) (S:=del S j) (T:=del T j) (fun i l hi hl hd=>hA i l (by omega) hl (by simp[del]at hd;exact hd.1)) (fun l hl=>by simp[del,hS l hl])]
    · rw[if_neg h,if_neg h]
def swp(A:Nat→Nat→Int)(a b:Nat):Nat→Nat→Int:=fun i=>if i=a then A b else if i=b then A a else A i
theorem F_two (n:Nat) (A:Nat→Nat→Int) (k:Nat) (S:Nat→Bool):F n A (k+2) S =
    sumTo n fun j=>sumTo n fun l=>if S j=true∧S l=true∧l≠j then sg S j n*sg (del S j) l n*(A (k+1) j*A k l)*F n A k (del (del S j) l) else 0:=by
  rw[F];refine sumTo_congr fun j _=>?_
  by_cases hj:S j=true
  · rw [if_pos hj,F,←sumTo_mul]
    refine sumTo_congr fun l _=>?_
    by_cases hl:S l=true∧l≠j
    · have e:del S j l=true:=by simp[del,hl.1,hl.2]
      rw[if_pos e,if_pos ⟨hj,hl⟩];simp only[Int.mul_assoc,Int.mul_left_comm,Int.mul_comm]
    · have e:¬del S j l=true:=by
        simp only[del];intro h;rw[Bool.and_eq_true]at h;exact hl ⟨h.1,(by simpa using h.2)⟩
      rw[if_neg e,if_neg (fun h=>hl h.2),Int.mul_zero]
  · rw[if_neg hj]
    exact(sumTo_zero fun l _=>by rw[if_neg (fun h=>hj h.1)]).symm
theorem sg_two{S:Nat→Bool}{i j n:Nat}(hi:S i=true)(hj:S j=true)(hin:i<n)(hjn:j<n)(hne:i≠j):sg S i n*sg (del S i) j n= - (sg S j n*sg (del S j) i n):=by
  rcases Nat.lt_or_gt_of_ne hne with h|h
  · rw[sg_del_above hj h hjn,sg_del_below (S:=S) (show i≤j by omega),Int.mul_neg,Int.neg_neg,Int.mul_comm]
  · rw[sg_del_above hi h hin,sg_del_below (S:=S) (show j≤i by omega),Int.mul_neg,Int.mul_comm]
theorem F_swap_last(n:Nat)(A:Nat→Nat→Int)(k:Nat)(S:Nat→Bool):F n (swp A k (k+1)) (k+2) S= - F n A (k+2) S:=by
  rw[F_two,F_two,sumTo_swap,←sumTo_neg];refine sumTo_congr fun j hj=>?_
  rw[←sumTo_neg];refine sumTo_congr fun l hl=>?_
  have e1:swp A k (k+1) (k+1)=A k:=by simp[swp]
  have e2:swp A k (k+1) k=A (k+1):=by simp[swp]
  by_cases h:S j=true∧S l=true∧l≠j
  · rw[if_pos ⟨h.2.1,h.1,fun e=>h.2.2 e.symm⟩,if_pos h,e1,e2,sg_two h.2.1 h.1 hl hj h.2.2,del_comm S l j]
    rw[F_congr (A:=swp A k (k+1)) (B:=A) (k:=k) (S:=del (del S j) l) (T:=del (del S j) l) (fun i m hi _ _=>by simp[swp,show i≠k by omega,show i≠k+1 by omega]) (fun _ _=>rfl)];rw[Int.mul_comm (A k l) (A (k+1) j)];simp only[Int.neg_mul]
  · rw[if_neg (fun h'=>h ⟨h'.2.1,h'.1,fun e=>h'.2.2 e.symm⟩),if_neg h]
    rfl
theorem F_eq_rows (n:Nat):∀(k i:Nat) (A:Nat→Nat→Int) (S:Nat→Bool),i<k→A i=A k→F n A (k+1) S=0
  |0,i,_,_,h,_=>by omega
  | k + 1,i,A,S,hi,he=>by
    have h0:=F_swap_last n A k S;by_cases e:i=k
    · subst e
      have e1:F n (swp A i (i+1)) (i+2) S=F n A (i+2) S:=F_congr (fun a b _ _ _=>by
        simp only[swp];split
        · rename_i h;rw[h,he]
        · split
          · rename_i h;rw[h,he]
          · rfl) (fun _ _=>rfl)
      rw[e1]at h0;show F n A (i+2) S=0;omega
    · have h1:F n (swp A k (k+1)) (k+2) S=0:=by
        rw[F];refine sumTo_zero fun j _=>?_
        split
        · rw[F_eq_rows n k i (swp A k (k+1)) (del S j) (by omega) (by
            unfold swp;rw[if_neg (show i≠k by omega),if_neg (show i≠k+1 by omega),if_pos rfl]
            exact he),Int.mul_zero]
        · rfl
      rw[h1]at h0;show F n A (k+2) S=0;omega
def low(k:Nat):Nat→Bool:=fun l=>decide (l<k)
def lowj(k j:Nat):Nat→Bool:=fun l=>decide (l<k) || l==j
def row(A:Nat→Nat→Int)(k i:Nat):Nat→Nat→Int:=fun r=>if r=k then A i else A r
def R(n:Nat)(A:Nat→Nat→Int)(k i j:Nat):Int:=F n (row A k i) (k+1) (lowj k j)
def P(n:Nat)(A:Nat→Nat→Int)(k:Nat):Int:=F n A k (low k)
theorem low_succ(k:Nat):low (k+1)=lowj k k:=by
  funext l
  unfold low lowj;rw[Bool.eq_iff_iff];simp;omega
theorem P_succ(n:Nat)(A:Nat→Nat→Int)(k:Nat):P n A (k+1)=R n A k k k:=by
  unfold P R;rw[low_succ];exact F_congr (fun i j _ _ _=>by unfold row;split<;>simp[*]) (fun _ _=>rfl)
theorem R_zero (n:Nat) (A:Nat→Nat→Int) (i j:Nat) (hj:j<n):R n A 0 i j=A i j:=by
  unfold R;rw[F]
  have key:∀m,j<m→sumTo m (fun l=>if lowj 0 j l=true then sg (lowj 0 j) l n*row A 0 i 0 l*F n (row A 0 i) 0 (del (lowj 0 j) l) else 0)=sg (lowj 0 j) j n*A i j:=by
    intro m hm
    induction m with
    |zero=>omega
    | succ m ih=>
      rw[sumTo];by_cases e:j=m
      · subst e
        rw[sumTo_zero (fun l hl=>by rw[if_neg];simp[lowj];omega),if_pos (by simp[lowj])]
        have e:F n (row A 0 i) 0 (del (lowj 0 j) j)=1:=by
          rw[F,if_pos];intro l _;unfold del lowj;cases h:(l==j)<;>simp
        rw[e];simp[row]
      · rw[ih (by omega),if_neg (by simp[lowj];omega),Int.add_zero]
  rw[key n hj]
  have:∀m,sg (lowj 0 j) j m=1:=by
    intro m
    induction m with
    |zero=>rfl
    | succ m ih=>
      rw[sg,ih,if_neg];simp[lowj];omega
  rw[this,Int.one_mul]
theorem R_above(n:Nat)(A:Nat→Nat→Int)(k i j:Nat)(h:i<k):R n A k i j=0:=
  F_eq_rows n k i _ _ h (by unfold row;rw[if_neg (by omega),if_pos rfl])
theorem sumTo_single{n j:Nat}{f g:Nat→Int}(hj:j<n)(h:∀l,l<n→l≠j→f l=g l)(hg:g j=0):sumTo n f=f j+sumTo n g:=by
  induction n with
  |zero=>omega
  | succ n ih=>
    rw[sumTo,sumTo];by_cases e:j=n
    · subst e
      rw[sumTo_congr (g:=g) (fun l hl=>h l (by omega) (by omega)),hg];omega
    · rw[ih (by omega) (fun l hl hne=>h l (by omega) hne),h n (by omega) (by omega)]
      omega
theorem R_comb (n:Nat) (A:Nat→Nat→Int) (k j:Nat) (hk:k≤j) (hj:j<n):∃c:Nat→Int,∀i,R n A k i j=P n A k*A i j+sumTo k (fun s=>c s*A i s):=by
  refine⟨fun s=>sg (lowj k j) s n*F n A k (del (lowj k j) s),fun i=>?_⟩;have e0:∀l,l<n→∀S,F n (row A k i) k S=F n A k S:=fun l _ S=>F_congr (fun a b ha _ _=>by unfold row;rw[if_neg (by omega)]) (fun _ _=>rfl)
  unfold R;rw[F]
  rw [sumTo_single (j:=j) (g:=fun l=>if l<k then sg (lowj k j) l n*A i l*F n A k (del (lowj k j) l) else 0) hj (fun l hl hne=>by
    by_cases h:l<k
    · rw[if_pos (by simp[lowj,h]),if_pos h,e0 l hl]
      simp[row]
    · rw[if_neg (by simp[lowj,h,hne]),if_neg h]) (if_neg (by omega))]
  rw[if_pos (by simp[lowj]),e0 j hj]
  have e1:sg (lowj k j) j n=1:=by
    have:∀m,sg (lowj k j) j m=1:=by
      intro m
      induction m with
      |zero=>rfl
      | succ m ih=>
        rw[sg,ih,if_neg];simp[lowj];omega
    exact this n
  have e2:F n A k (del (lowj k j) j)=P n A k:=F_congr (fun _ _ _ _ _=>rfl) (fun l hl=>by
    unfold del lowj low;rw[Bool.eq_iff_iff];simp
    omega)
  rw[e1,e2]
  have e3:∀m,k≤m→sumTo m (fun l=>if l<k then sg (lowj k j) l n*A i l*F n A k (del (lowj k j) l) else 0)=sumTo k (fun s=>sg (lowj k j) s n*F n A k (del (lowj k j) s)*A i s):=by
    intro m hm
    induction m with
    | zero=>
      obtain rfl:k=0:=by omega
      rfl
    | succ m ih=>
      by_cases e:k=m+1
      · subst e
        exact sumTo_congr fun l hl=>by rw[if_pos hl,Int.mul_right_comm]
      · rw[sumTo,ih (by omega),if_neg (by omega),Int.add_zero]
  rw[e3 n (by omega)];simp[row,Int.mul_comm]
theorem block_inj (n:Nat) (A:Nat→Nat→Int):∀(k:Nat),k≤n→(∀m,m≤k→P n A m≠0)→∀e:Nat→Int,(∀i,i<k→sumTo k (fun s=>e s*A i s)=0)→∀s,s<k→e s=0
  |0,_,_,_,_,s,hs=>by omega
  | k + 1,hn,hp,e,he,s,hs=>by
    obtain⟨c,hc⟩:=R_comb n A k k (Nat.le_refl k) (by omega);have hpk:=hp k (by omega);have hq:=hp (k+1) (by omega)
    have key:∀i,P n A k*sumTo (k+1) (fun s=>e s*A i s)=e k*R n A k i k+sumTo k (fun s=>(P n A k*e s-e k*c s)*A i s):=by
      intro i;rw[hc i,sumTo,Int.mul_add,Int.mul_add,←sumTo_mul,←sumTo_mul]
      have e1:sumTo k (fun j=>P n A k*(e j*A i j))=sumTo k (fun s=>e k*(c s*A i s))+sumTo k (fun s=>(P n A k*e s-e k*c s)*A i s):=by
        rw[←sumTo_add];exact sumTo_congr fun j _=>by simp only[Int.sub_mul,Int.mul_assoc];omega
      rw[e1,Int.mul_left_comm (P n A k)];omega
    have hz:∀t,t<k→P n A k*e t-e k*c t=0:=block_inj n A k (by omega) (fun m hm=>hp m (by omega)) _ (fun i hi=>by
      have:=key i;rw[he i (by omega),R_above n A k i k hi,Int.mul_zero,Int.mul_zero]at this
      omega)
    have hek:e k=0:=by
      have h1:=key k;rw[he k (by omega),sumTo_zero (fun j hj=>by rw[hz j hj,Int.zero_mul]),Int.mul_zero,←P_succ]at h1;rcases Int.mul_eq_zero.1 (show e k*P n A (k+1)=0 by omega)with h|h
      · exact h
      · exact absurd h hq
    by_cases h:s=k
    · rw[h]
      exact hek
    · have h1:=hz s (by omega)
      rw[hek,Int.zero_mul,Int.sub_zero]at h1;rcases Int.mul_eq_zero.1 h1 with h2|h2
      · exact absurd h2 hpk
      · exact h2
theorem R_step(n:Nat)(A:Nat→Nat→Int)(k j:Nat)(hk:k<j)(hj:j<n)(hp:∀m,m≤k+1→P n A m≠0)(i:Nat):
    P n A k*R n A (k+1) i j=R n A k i j*R n A k k k-R n A k i k*R n A k k j:=by
  obtain⟨c,hc⟩:=R_comb n A k j (by omega) hj;obtain⟨d,hd⟩:=R_comb n A k k (by omega) (by omega);obtain⟨b,hb⟩:=R_comb n A (k+1) j (by omega) hj;have hq:=P_succ n A k
  obtain⟨e,he⟩:∃e:Nat→Int,∀i,P n A k*R n A (k+1) i j-(R n A k i j*R n A k k k-R n A k i k*R n A k k j)=sumTo (k+1) (fun s=>e s*A i s):=by
    refine⟨fun s=>if s=k then P n A k*b k+R n A k k j*P n A k else P n A k*b s-R n A k k k*c s+R n A k k j*d s,fun i=>?_⟩;rw[sumTo]
    dsimp only
    rw[if_pos rfl,sumTo_congr (g:=fun s=>P n A k*(b s*A i s)+((- R n A k k k)*(c s*A i s)+R n A k k j*(d s*A i s))) (fun s hs=>by
      rw[if_neg (by omega)];simp only[Int.sub_mul,Int.add_mul,Int.mul_assoc,Int.neg_mul]
      omega),sumTo_add,sumTo_add,sumTo_mul,sumTo_mul,sumTo_mul,hb i,hq,sumTo]
    have h1:=hc i;have h2:=hd i;generalize sumTo k (fun s=>b s*A i s)=X at *;generalize sumTo k (fun s=>c s*A i s)=Y at *;generalize sumTo k (fun s=>d s*A i s)=Z at *;rw[h1,h2];generalize R n A k k k=q at *;generalize R n A k k j=u at *;generalize P n A k=p at *;generalize A i j=x at *;generalize A i k=y at *;generalize b k=v at *
    grind
  have hz:∀s,s<k+1→e s=0:=block_inj n A (k+1) (by omega) hp e (fun r hr=>by
    rw[←he r,R_above n A (k+1) r j hr,Int.mul_zero];by_cases h:r=k
    · subst h
      rw[Int.mul_comm (R n A r r j)];omega
    · rw[R_above n A k r j (by omega),R_above n A k r k (by omega)]
      simp)
  have h1:=he i;rw[sumTo_zero (fun s hs=>by rw[hz s hs,Int.zero_mul])]at h1;omega
theorem P_zero(n:Nat)(A:Nat→Nat→Int):P n A 0=1:=by
  unfold P;rw[F,if_pos];intro l _;simp[low]
theorem F_swap_adj (n:Nat) (A:Nat→Nat→Int):∀(K r:Nat) (S:Nat→Bool),r+1<K→F n (swp A r (r+1)) K S= - F n A K S
  |0,r,S,h=>by omega
  | k + 1,r,S,h=>by
    by_cases e:r+1=k
    · subst e
      exact F_swap_last n A r S
    · rw[F,F,←sumTo_neg]
      refine sumTo_congr fun j _=>?_
      by_cases hj:S j=true
      · rw[if_pos hj,if_pos hj,F_swap_adj n A k r (del S j) (by omega)]
        have e1:swp A r (r+1) k=A k:=by unfold swp;rw[if_neg (by omega),if_neg (by omega)]
        rw[e1,Int.mul_neg]
      · rw[if_neg hj,if_neg hj]
        rfl
theorem swp_comp (A:Nat→Nat→Int) (a m:Nat) (h:a<m):swp A a (m+1)=swp (swp (swp A m (m+1)) a m) m (m+1):=by
  funext i
  unfold swp;by_cases h1:i=a
  · subst h1
    rw[if_pos rfl,if_neg (show¬i=m by omega),if_neg (show¬i=m+1 by omega),if_pos rfl,if_pos rfl]
  · by_cases h2:i=m
    · subst h2
      rw[if_neg h1,if_neg (show¬i=i+1 by omega),if_pos rfl,if_neg (show¬i+1=a by omega),if_neg (show¬i+1=i by omega),if_neg (show¬i+1=i by omega),if_pos rfl]
    · by_cases h3:i=m+1
      · subst h3
        rw[if_neg h1,if_pos rfl,if_neg h2,if_pos rfl,if_neg (show¬m=a by omega),if_pos rfl,if_neg (show¬a=m by omega),if_neg (show¬a=m+1 by omega)]
      · rw[if_neg h1,if_neg h3,if_neg h2,if_neg h3,if_neg h1,if_neg h2,if_neg h2,if_neg h3]
theorem F_swap(n:Nat)(K:Nat)(S:Nat→Bool):∀(d a:Nat) (A:Nat→Nat→Int),a+d+1<K→F n (swp A a (a+d+1)) K S= - F n A K S
  |0,a,A,h=>F_swap_adj n A K a S h
  | d+1,a,A,h=>by
    have e:swp A a (a+(d+1)+1)=swp (swp (swp A (a+d+1) (a+d+1+1)) a (a+d+1)) (a+d+1) (a+d+1+1):=swp_comp A a (a+d+1) (by omega);rw[e,F_swap_adj n _ K (a+d+1) S (by omega),F_swap n K S d a _ (by omega),F_swap_adj n _ K (a+d+1) S (by omega)];omega
theorem sg_flip {S T:Nat→Bool} {c c' j n:Nat} (hc:S c=true) (hc':T c'=true) (hd:del S c=del T c') (hcn:c<n) (hcn':c'<n) (h1:j≠c) (h2:j≠c'):
    sg T j n*sg (del S j) c n*sg (del T j) c' n=sg S c n*sg T c' n*sg S j n∨S j=false:=by
  by_cases hj:S j=true
  · left
    have hTj:T j=true:=by
      have:=congrFun hd j;unfold del at this;rw[hj,beq_eq_false_iff_ne.2 h1,beq_eq_false_iff_ne.2 h2]at this;simpa using this.symm
    by_cases hjn:j<n
    · have e:sg (del S c) j n=sg (del T c') j n:=by rw[hd]
      rcases Nat.lt_or_gt_of_ne h1 with a|a<;>rcases Nat.lt_or_gt_of_ne h2 with b|b
      · rw[sg_del_above hc a hcn,sg_del_above hc' b hcn']at e
        rw[show sg (del S j) c n=sg S c n from sg_del_below (by omega),show sg (del T j) c' n=sg T c' n from sg_del_below (by omega),show sg T j n=sg S j n by omega]
        grind
      · rw[sg_del_above hc a hcn,sg_del_below (S:=T) (show c'≤j by omega)]at e
        rw[sg_del_below (S:=S) (show j≤c by omega),sg_del_above hTj b hjn,←e]
        grind
      · rw[sg_del_below (S:=S) (show c≤j by omega),sg_del_above hc' b hcn']at e
        rw[sg_del_above hj a hjn,sg_del_below (S:=T) (show j≤c' by omega),e]
        grind
      · rw[sg_del_below (S:=S) (show c≤j by omega),sg_del_below (S:=T) (show c'≤j by omega)]at e
        rw[sg_del_above hj a hjn,sg_del_above hTj b hjn,e]
        grind
    · have z:∀(U V:Nat→Bool) (x:Nat),(∀l,l<n→U l=V l)→sg U x n=sg V x n:=fun U V x h=>sg_congr (fun l _ h2=>h l h2)
      have d1:∀l,l<n→del S j l=S l:=fun l hl=>by
        unfold del;rw[beq_eq_false_iff_ne.2 (show l≠j by omega)];simp
      have d2:∀l,l<n→del T j l=T l:=fun l hl=>by
        unfold del;rw[beq_eq_false_iff_ne.2 (show l≠j by omega)];simp
      rw[z _ _ c d1,z _ _ c' d2]
      have o:∀U:Nat→Bool,∀m,m≤j→sg U j m=1:=by
        intro U m hm
        induction m with
        |zero=>rfl
        |succ m ih=>rw[sg,if_neg (by omega),ih (by omega)]
      rw[o T n (by omega),o S n (by omega)]
      grind
  · right
    simpa using hj
theorem F_move (n:Nat):∀(k:Nat) (A B:Nat→Nat→Int) (S T:Nat→Bool) (c c':Nat),c<n→c'<n→S c=true→T c'=true→S c'=false→T c=false→del S c=del T c'→(∀i,B i c'=A i c)→(∀i j,S j=true→j≠c→B i j=A i j)→
    F n B k T=sg S c n*sg T c' n*F n A k S
  | 0,A,B,S,T,c,c',hc,hc',h1,h2,_,_,_,_,_=>by
    rw[F,F,if_neg (fun h=>by rw[h c' hc']at h2;cases h2),if_neg (fun h=>by rw[h c hc]at h1;cases h1),Int.mul_zero]
  | k + 1,A,B,S,T,c,c',hc,hc',h1,h2,h3,h4,hd,hB,hE=>by
    have hne:c≠c':=fun h=>by rw[h,h3]at h1;cases h1
    have hST:∀j,j≠c→j≠c'→T j=S j:=fun j ha hb=>by
      have:=congrFun hd j;unfold del at this;rw[beq_eq_false_iff_ne.2 ha,beq_eq_false_iff_ne.2 hb]at this;simpa using this.symm
    rw[F,F]
    rw [sumTo_single (j:=c') (g:=fun j=>if S j=true∧j≠c then sg S c n*sg T c' n*(sg S j n*A k j*F n A k (del S j)) else 0) hc' (fun j hj hjc=>by
      by_cases e:j=c
      · subst e
        rw[if_neg (by rw[h4];decide),if_neg (fun h=>h.2 rfl)]
      · by_cases hj':S j=true
        · rw[if_pos (by rw[hST j e hjc];exact hj'),if_pos ⟨hj',e⟩]
          have hrec:=F_move n k A B (del S j) (del T j) c c' hc hc' (by unfold del;rw[h1,beq_eq_false_iff_ne.2 (Ne.symm e)];rfl) (by unfold del;rw[h2,beq_eq_false_iff_ne.2 (Ne.symm hjc)];rfl) (by unfold del;rw[h3];rfl) (by unfold del;rw[h4];rfl)
            (by rw[del_comm S,hd,del_comm T]) hB (fun i l hl hlc=>hE i l (by unfold del at hl;rw[Bool.and_eq_true]at hl;exact hl.1) hlc)
          rw[hrec,hE k j hj' e];rcases sg_flip (S:=S) (T:=T) (j:=j) h1 h2 hd hc hc' e hjc with hs|hs
          · generalize sg T j n=a at *
            generalize sg (del S j) c n=b at *;generalize sg (del T j) c' n=d at *;generalize sg S c n=x at *;generalize sg T c' n=y at *;generalize sg S j n=w at *;generalize F n A k (del S j)=f at *;generalize A k j=g at *;have:a*g*(b*d*f)=(a*b*d)*(g*f):=by grind
            rw[this,hs]
            grind
          · rw[hs]at hj'
            cases hj'
        · rw[if_neg (by rw[hST j e hjc];exact hj'),if_neg (fun h=>hj' h.1)]) (if_neg (fun h=>by rw[h3]at h;cases h.1))]
    rw[sumTo_single (n:=n) (j:=c) (f:=fun j=>if S j=true then sg S j n*A k j*F n A k (del S j) else 0) (g:=fun j=>if S j=true∧j≠c then sg S j n*A k j*F n A k (del S j) else 0) hc (fun j _ hjc=>by
      by_cases hj:S j=true
      · rw[if_pos hj,if_pos ⟨hj,hjc⟩]
      · rw[if_neg hj,if_neg (fun h=>hj h.1)]) (if_neg (fun h=>h.2 rfl))]
    rw[if_pos h2,if_pos h1,Int.mul_add,←sumTo_mul,hB]
    have e1:F n B k (del T c')=F n A k (del S c):=F_congr (fun i j _ _ hj=>by
      rw[←hd]at hj;unfold del at hj;rw[Bool.and_eq_true]at hj
      exact hE i j hj.1 (by simpa using hj.2)) (fun l _=>by rw[hd])
    have e2:=sg_sq S c n;rw[e1]
    have e3:sumTo n (fun j=>if S j=true∧j≠c then sg S c n*sg T c' n*(sg S j n*A k j*F n A k (del S j)) else 0)=sumTo n (fun j=>sg S c n*sg T c' n*(if S j=true∧j≠c then sg S j n*A k j*F n A k (del S j) else 0)):=sumTo_congr fun j _=>by
      split
      · rfl
      · rw[Int.mul_zero]
    rw[e3]
    congr 1
    generalize sg S c n=x at *;generalize sg T c' n=y at *;generalize A k c=g at *;generalize F n A k (del S c)=f at *;have:x*y*(x*g*f)=(x*x)*(y*g*f):=by grind
    rw[this,e2,Int.one_mul]
def setc(A:Nat→Nat→Int)(c:Nat)(u:Nat→Int):Nat→Nat→Int:=fun i j=>if j=c then u i else A i j
theorem setc_at(A:Nat→Nat→Int)(c:Nat)(u:Nat→Int)(i:Nat):setc A c u i c=u i:=by unfold setc;rw[if_pos rfl]
theorem setc_ne(A:Nat→Nat→Int)(c:Nat)(u:Nat→Int)(i j:Nat)(h:j≠c):setc A c u i j=A i j:=by unfold setc;rw[if_neg h]
theorem F_eq_cols (n:Nat):∀(k:Nat) (A:Nat→Nat→Int) (S:Nat→Bool) (c c':Nat),c<n→c'<n→c≠c'→S c=true→S c'=true→(∀i,A i c=A i c')→F n A k S=0
  |0,A,S,c,c',hc,_,_,h1,_,_=>by rw[F,if_neg (fun h=>by rw[h c hc]at h1;cases h1)]
  | k + 1,A,S,c,c',hc,hc',hne,h1,h2,he=>by
    rw[F]
    rw [sumTo_single (j:=c) (g:=fun j=>if j=c' then sg S c' n*A k c'*F n A k (del S c') else 0) hc (fun j hj hjc=>by
      by_cases e:j=c'
      · subst e
        rw[if_pos h2,if_pos rfl]
      · rw[if_neg e]
        by_cases hj':S j=true
        · rw[if_pos hj',F_eq_cols n k A (del S j) c c' hc hc' hne (by unfold del;rw[h1,beq_eq_false_iff_ne.2 (Ne.symm hjc)];rfl) (by unfold del;rw[h2,beq_eq_false_iff_ne.2 (Ne.symm e)];rfl) he,Int.mul_zero]
        · rw[if_neg hj']) (if_neg hne)]
    rw[sumTo_single (n:=n) (j:=c') (g:=fun _=>0) hc' (fun j _ hj=>by rw[if_neg hj]) rfl,sumTo_zero (fun _ _=>rfl),if_pos h1,if_pos rfl];have hm:=F_move n k A A (del S c') (del S c) c c' hc hc' (by unfold del;rw[h1,beq_eq_false_iff_ne.2 hne];rfl) (by unfold del;rw[h2,beq_eq_false_iff_ne.2 (Ne.symm hne)];rfl) (by unfold del;simp) (by unfold del;simp) (del_comm S c' c) (fun i=>(he i).symm) (fun _ _ _ _=>rfl);have h3:=sg_two h1 h2 hc hc' hne;have h4:=sg_sq (del S c') c n;rw[hm,he k];generalize sg S c n=a at *;generalize sg (del S c) c' n=b at *;generalize sg S c' n=d at *;generalize sg (del S c') c n=e at *;generalize F n A k (del S c')=f at *;generalize A k c'=g at *;have:a*g*(e*b*f)=(a*b)*(e*g*f):=by grind
    rw[this,h3];have: -(d*e)*(e*g*f)= -((e*e)*(d*g*f)):=by grind
    rw[this,h4];omega
theorem F_lin (n:Nat) (m:Nat) (w:Nat→Int) (u:Nat→Nat→Int):∀(k:Nat) (A:Nat→Nat→Int) (S:Nat→Bool) (c:Nat),c<n→S c=true→F n (setc A c (fun i=>sumTo m fun s=>w s*u s i)) k S=sumTo m (fun s=>w s*F n (setc A c (u s)) k S)
  | 0,A,S,c,hc,h1=>by
    have e:∀B,F n B 0 S=0:=fun B=>by rw[F,if_neg (fun h=>by rw[h c hc]at h1;cases h1)]
    rw[e,sumTo_zero (fun s _=>by rw[e,Int.mul_zero])]
  | k + 1,A,S,c,hc,h1=>by
    rw[F];have e1:∀s,w s*F n (setc A c (u s)) (k+1) S=sumTo n (fun j=>w s*(if S j=true then sg S j n*setc A c (u s) k j*F n (setc A c (u s)) k (del S j) else 0)):=fun s=>by rw[F,sumTo_mul]
    rw[sumTo_congr (g:=fun s=>sumTo n (fun j=>w s*(if S j=true then sg S j n*setc A c (u s) k j*F n (setc A c (u s)) k (del S j) else 0))) (fun s _=>e1 s),sumTo_swap];refine sumTo_congr fun j hj=>?_
    by_cases hj':S j=true
    · rw [if_pos hj']
      by_cases e:j=c
      · subst e
        have e2:∀v,F n (setc A j v) k (del S j)=F n A k (del S j):=fun v=>F_congr (fun i l _ _ hl=>setc_ne A j v i l (by unfold del at hl;rw[Bool.and_eq_true]at hl;simpa using hl.2)) (fun _ _=>rfl)
        have e3:sumTo m (fun i=>w i*if S j=true then sg S j n*setc A j (u i) k j*F n (setc A j (u i)) k (del S j) else 0)=sg S j n*F n A k (del S j)*sumTo m (fun s=>w s*u s k):=by
          rw[←sumTo_mul]
          exact sumTo_congr fun s _=>by
            rw[if_pos hj',setc_at,e2];generalize sg S j n=x;generalize F n A k (del S j)=y
            grind
        rw[setc_at,e2,e3];generalize sumTo m (fun s=>w s*u s k)=v;generalize sg S j n=x;generalize F n A k (del S j)=y
        grind
      · rw[setc_ne _ _ _ _ _ e,F_lin n m w u k A (del S j) c hc (by unfold del;rw[h1,beq_eq_false_iff_ne.2 (Ne.symm e)];rfl),←sumTo_mul]
        exact sumTo_congr fun s _=>by rw[if_pos hj',setc_ne _ _ _ _ _ e];grind
    · rw[if_neg hj']
      exact(sumTo_zero fun s _=>by rw[if_neg hj',Int.mul_zero]).symm
theorem F_no_pivot (n:Nat) (A:Nat→Nat→Int) (k:Nat) (hk:k<n) (hp:P n A k≠0) (h:∀i,i<n→R n A k i k=0):F n A n (low n)=0:=by
  obtain⟨c,hc⟩:=R_comb n A k k (Nat.le_refl k) hk
  have e1:∀i,i<n→P n A k*A i k=sumTo k (fun s=>(- c s)*A i s):=fun i hi=>by
    have h1:=hc i;rw[h i hi]at h1;rw[sumTo_congr (g:=fun s=> - (c s*A i s)) (fun s _=>by rw[Int.neg_mul]),sumTo_neg];omega
  have hk':low n k=true:=by unfold low;simpa using hk
  have e2:P n A k*F n A n (low n)=F n (setc A k (fun i=>sumTo 1 fun _=>P n A k*A i k)) n (low n):=by
    rw[F_lin n 1 (fun _=>P n A k) (fun _ i=>A i k) n A (low n) k hk hk'];simp only[sumTo,Int.zero_add]
    congr 1
    exact F_congr (fun i j _ _ _=>by
      by_cases e:j=k
      · rw[e,setc_at]
      · rw[setc_ne _ _ _ _ _ e]) (fun _ _=>rfl)
  have e3:F n (setc A k (fun i=>sumTo 1 fun _=>P n A k*A i k)) n (low n)=F n (setc A k (fun i=>sumTo k fun s=>(- c s)*A i s)) n (low n):=F_congr (fun i j hi _ _=>by
      by_cases e:j=k
      · rw[e,setc_at,setc_at,sumTo,sumTo,Int.zero_add]
        exact e1 i hi
      · rw[setc_ne _ _ _ _ _ e,setc_ne _ _ _ _ _ e]) (fun _ _=>rfl)
  rw[e3,F_lin n k (fun s=> - c s) (fun s i=>A i s) n A (low n) k hk hk',sumTo_zero (fun s hs=>by
    rw[F_eq_cols n n (setc A k (fun i=>A i s)) (low n) k s hk (by omega) (by omega) hk' (by unfold low;simp;omega) (fun i=>by rw[setc_at,setc_ne _ _ _ _ _ (by omega)]),Int.mul_zero])]at e2
  rcases Int.mul_eq_zero.1 e2 with h1|h1
  · exact absurd h1 hp
  · exact h1
theorem cramer (N:Nat) (A:Nat→Nat→Int) (b:Nat→Int) (r:Nat) (hr:r<N):sumTo N (fun j=>A r j*F N (setc A j b) N (low N))=F N A N (low N)*b r:=by
  have hz:F (N+1) (row (setc A N b) N r) (N+1) (low (N+1))=0:=F_eq_rows (N+1) N r _ _ hr (by unfold row;rw[if_neg (by omega),if_pos rfl]);rw[F,sumTo]at hz
  have few:∀(B:Nat→Nat→Int) (k:Nat) (S:Nat→Bool),S N=false→F (N+1) B k S=F N B k S:=by
    intro B k
    induction k with
    | zero=>
      intro S hS;rw[F,F];by_cases h:∀l,l<N→S l=false
      · rw[if_pos h,if_pos (fun l hl=>by
          by_cases e:l=N
          · rw[e];exact hS
          · exact h l (by omega))]
      · rw[if_neg h,if_neg (fun h'=>h (fun l hl=>h' l (by omega)))]
    | succ k ih=>
      intro S hS;rw[F,F,sumTo,if_neg (by rw[hS];decide),Int.add_zero];refine sumTo_congr fun j hj=>?_
      by_cases h:S j=true
      · rw[if_pos h,if_pos h,ih (del S j) (by unfold del;rw[hS];rfl),sg,if_neg (fun h'=>by rw[hS]at h';cases h'.2)]
      · rw[if_neg h,if_neg h]
  have hl1:∀j,j≤N→low (N+1) j=true:=fun j hj=>by unfold low;simp;omega
  have hrow:∀(i j:Nat),i<N→row (setc A N b) N r i j=setc A N b i j:=fun i j hi=>by unfold row;rw[if_neg (by omega)]
  have eN:sg (low (N+1)) N (N+1)*row (setc A N b) N r N N*F (N+1) (row (setc A N b) N r) N (del (low (N+1)) N)=F N A N (low N)*b r:=by
    have e1:sg (low (N+1)) N (N+1)=1:=by
      have:∀m,m≤N+1→sg (low (N+1)) N m=1:=by
        intro m hm
        induction m with
        |zero=>rfl
        |succ m ih=>rw[sg,if_neg (by omega),ih (by omega)]
      exact this _ (Nat.le_refl _)
    have e2:row (setc A N b) N r N N=b r:=by unfold row;rw[if_pos rfl,setc_at]
    rw[e1,e2,few _ _ _ (by unfold del low;simp),F_congr (A:=row (setc A N b) N r) (B:=A) (T:=low N) (fun i j hi hj _=>by rw[hrow i j hi,setc_ne _ _ _ _ _ (by omega)]) (fun l hl=>by unfold del low;rw[beq_eq_false_iff_ne.2 (show l≠N by omega)];simp;omega)]
    grind
  have ej :∀j,j<N→sg (low (N+1)) j (N+1)*row (setc A N b) N r N j*F (N+1) (row (setc A N b) N r) N (del (low (N+1)) j)= - (A r j*F N (setc A j b) N (low N)):=by
    intro j hj;have e2:row (setc A N b) N r N j=A r j:=by unfold row;rw[if_pos rfl,setc_ne _ _ _ _ _ (by omega)]
    have hm:=F_move (N+1) N (setc A N b) (setc A j b) (del (low (N+1)) j) (low N) N j (by omega) (by omega) (by unfold del low;simp;omega) (by unfold low;simp;omega) (by unfold del;simp) (by unfold low;simp)
      (by
        funext l
        unfold del low;rw[Bool.eq_iff_iff];simp
        omega) (fun i=>by rw[setc_at,setc_at]) (fun i l hl hlN=>by
        have hlj:l≠j:=by
          unfold del at hl;rw[Bool.and_eq_true]at hl;simpa using hl.2
        rw[setc_ne _ _ _ _ _ hlj,setc_ne _ _ _ _ _ hlN])
    have e3:F (N+1) (row (setc A N b) N r) N (del (low (N+1)) j)=F (N+1) (setc A N b) N (del (low (N+1)) j):=F_congr (fun i l hi _ _=>hrow i l hi) (fun _ _=>rfl)
    have e4:sg (del (low (N+1)) j) N (N+1)=1:=by
      have:∀m,m≤N+1→sg (del (low (N+1)) j) N m=1:=by
        intro m hm
        induction m with
        |zero=>rfl
        |succ m ih=>rw[sg,if_neg (by omega),ih (by omega)]
      exact this _ (Nat.le_refl _)
    have e5:sg (low N) j (N+1)= - sg (low (N+1)) j (N+1):=by
      have h1:sg (del (low (N+1)) N) j (N+1)= - sg (low (N+1)) j (N+1):=sg_del_above (hl1 N (Nat.le_refl N)) hj (by omega);rw[←h1]
      exact sg_congr fun l _ hl=>by
        unfold del low;rw[Bool.eq_iff_iff];simp;omega
    rw[few _ _ _ (by unfold low;simp),e4,e5]at hm;rw[e2,e3,hm];have e6:=sg_sq (low (N+1)) j (N+1);generalize sg (low (N+1)) j (N+1)=x at *;generalize F (N+1) (setc A N b) N (del (low (N+1)) j)=y at *
    grind
  rw[if_pos (hl1 N (Nat.le_refl N)),eN,sumTo_congr (g:=fun j=> - (A r j*F N (setc A j b) N (low N))) (fun j hj=>by rw[if_pos (hl1 j (by omega)),ej j hj]),sumTo_neg]at hz;omega
def pivot(m:Nat→Nat→Int)(c:Nat):Nat→Nat→Option Nat
  |_,0=>none
  |k,d+1=>if m k c≠0 then some k else pivot m c (k+1) d
theorem pivot_some{m:Nat→Nat→Int}{c:Nat}:∀{d k p:Nat},pivot m c k d=some p→k≤p∧p<k+d∧m p c≠0
  |0,k,p,h=>by cases h
  | d +1,k,p,h=>by
    rw[pivot]at h;by_cases hm:m k c≠0
    · rw[if_pos hm]at h
      cases h;exact⟨Nat.le_refl _,by omega,hm⟩
    · rw[if_neg hm]at h
      obtain⟨h1,h2,h3⟩:=pivot_some h;exact⟨by omega,by omega,h3⟩
theorem pivot_none {m:Nat→Nat→Int} {c:Nat}:∀{d k:Nat},pivot m c k d=none→∀p,k≤p→p<k+d→m p c=0
  |0,k,_,p,h1,h2=>by omega
  | d + 1,k,h,p,h1,h2=>by
    rw[pivot]at h;by_cases hm:m k c≠0
    · rw[if_pos hm]at h
      cases h
    · rw[if_neg hm]at h
      by_cases e:p=k
      · rw[e]
        exact Decidable.not_not.1 hm
      · exact pivot_none h p (by omega) (by omega)
def stepM(k:Nat)(m:Nat→Nat→Int)(last:Int):Nat→Nat→Int:=fun i j=>if k<i∧k<j then(m i j*m k k-m i k*m k j).tdiv last else m i j
def elim (n:Nat):Nat→Nat→(Nat→Nat→Int)→Int→Int→Int
  |0,_,_,sign,last=>sign*last
  | d+1,k,m,sign,last=>match pivot m k k (n-k)with
    |none=>0
    |some p=>elim n d (k+1) (stepM k (if p=k then m else swp m k p) last) (if p=k then sign else -sign) ((if p=k then m else swp m k p) k k)
structure Stage(n:Nat)(D:Int)(k:Nat)(m:Nat→Nat→Int)(sign last:Int)(A:Nat→Nat→Int):Prop where
  ent:∀i j,k≤i→i<n→k≤j→j<n→m i j=R n A k i j
  last:last=P n A k
  lead:∀q,q≤k→P n A q≠0
  det:sign*F n A n (low n)=D
theorem R_swp(n:Nat)(A:Nat→Nat→Int)(k p i j:Nat)(hp:k<p)(hi:k≤i):R n (swp A k p) k i j=R n A k (if i=k then p else if i=p then k else i) j:=by
  unfold R;refine F_congr (fun r c hr _ _=>?_) (fun _ _=>rfl);unfold row;by_cases e:r=k
  · rw[if_pos e,if_pos e]
    unfold swp;by_cases h1:i=k
    · rw[if_pos h1,if_pos h1]
    · by_cases h2:i=p
      · rw[if_neg h1,if_pos h2,if_neg h1,if_pos h2]
      · rw[if_neg h1,if_neg h2,if_neg h1,if_neg h2]
  · rw[if_neg e,if_neg e]
    unfold swp;rw[if_neg e,if_neg (by omega)]
theorem P_swp(n:Nat)(A:Nat→Nat→Int)(k p q:Nat)(hp:k<p)(hq:q≤k):P n (swp A k p) q=P n A q:=by
  unfold P;refine F_congr (fun r c hr _ _=>?_) (fun _ _=>rfl);unfold swp;rw[if_neg (by omega),if_neg (by omega)]
theorem Stage.pivot {n k p:Nat} {D sign last:Int} {m A:Nat→Nat→Int} (h:Stage n D k m sign last A) (hk:k≤p) (hp:p<n):
    Stage n D k (if p=k then m else swp m k p) (if p=k then sign else -sign) last (if p=k then A else swp A k p):=by
  by_cases e:p=k
  · rw[if_pos e,if_pos e,if_pos e]
    exact h
  · rw [if_neg e,if_neg e,if_neg e]
    have hlt:k<p:=by omega
    refine⟨fun i j hi hin hj hjn=>?_,?_,fun q hq=>?_,?_⟩
    · rw [R_swp n A k p i j hlt hi]
      unfold swp;by_cases h1:i=k
      · rw[if_pos h1,if_pos h1]
        exact h.ent p j hk hp hj hjn
      · by_cases h2:i=p
        · rw[if_neg h1,if_pos h2,if_neg h1,if_pos h2]
          exact h.ent k j (Nat.le_refl k) (by omega) hj hjn
        · rw[if_neg h1,if_neg h2,if_neg h1,if_neg h2]
          exact h.ent i j hi hin hj hjn
    · rw[P_swp n A k p k hlt (Nat.le_refl k)]
      exact h.last
    · rw[P_swp n A k p q hlt hq]
      exact h.lead q hq
    · obtain⟨d,rfl⟩:∃d,p=k+d+1:=⟨p-k-1,by omega⟩
      rw[F_swap n n (low n) d k A hp,←h.det]
      grind
theorem Stage.next{n k:Nat}{D sign last:Int}{m A:Nat→Nat→Int}(h:Stage n D k m sign last A)(hk:k<n)(hp:m k k≠0):Stage n D (k+1) (stepM k m last) sign (m k k) A:=by
  have hkk:=h.ent k k (Nat.le_refl k) hk (Nat.le_refl k) hk
  have hlead:∀q,q≤k+1→P n A q≠0:=fun q hq=>by
    by_cases e:q=k+1
    · rw[e,P_succ,←hkk]
      exact hp
    · exact h.lead q (by omega)
  refine⟨fun i j hi hin hj hjn=>?_,(by rw[P_succ];exact hkk),hlead,h.det⟩;unfold stepM;rw[if_pos ⟨by omega,by omega⟩,h.ent i j (by omega) hin (by omega) hjn,hkk,h.ent i k (by omega) hin (Nat.le_refl k) hk,h.ent k j (Nat.le_refl k) hk (by omega) hjn,←R_step n A k j (by omega) hjn hlead i,h.last];exact Int.mul_tdiv_cancel_left _ (h.lead k (Nat.le_refl k))
theorem stage_zero (n : Nat) (A : Nat → Nat → Int) : Stage n (F n A n (low n)) 0 A 1 1 A:=
  ⟨fun i j _ _ _ hj => (R_zero n A i j hj).symm, (P_zero n A).symm, fun q hq => by obtain rfl:q=0:=by omega
                                                                                   rw[P_zero];decide,by omega⟩
def ab(x:Int):Int:=(x.natAbs:Int)
theorem ab_nonneg(x:Int):0≤ab x:=by unfold ab;omega
theorem ab_mul(x y:Int):ab (x*y)=ab x*ab y:=by unfold ab;rw[Int.natAbs_mul];simp
theorem ab_le{x B:Int}:ab x≤B↔ -B≤x∧x≤B:=by unfold ab;omega
theorem ab_sg(S:Nat→Bool)(j n:Nat):ab (sg S j n)=1:=by
  have h:sg S j n=1∨sg S j n= -1:=by
    induction n with
    |zero=>exact .inl rfl
    | succ n ih=>
      simp only[sg];split
      · rcases ih with h|h<;>rw[h]<;>omega
      · exact ih
  rcases h with h|h<;>rw[h]<;>rfl
theorem ab_sum(n:Nat)(f:Nat→Int):ab (sumTo n f)≤sumTo n (fun j=>ab (f j)):=by
  induction n with
  |zero=>exact Int.le_refl _
  | succ n ih=>
    simp only[sumTo];unfold ab at *;omega
theorem sumTo_le'{n:Nat}{f g:Nat→Int}(h:∀j,j<n→f j≤g j):sumTo n f≤sumTo n g:=by
  induction n with
  |zero=>exact Int.le_refl _
  | succ n ih=>
    have h1:=ih (fun j hj=>h j (by omega));have h2:=h n (by omega);simp only[sumTo];omega
def prodTo(x:Nat→Int):Nat→Int
  |0=>1
  |k+1=>prodTo x k*x k
theorem prodTo_pos{x:Nat→Int}:∀{k:Nat},(∀r,r<k→1≤x r)→1≤prodTo x k
  |0,_=>Int.le_refl _
  | k+1,h=>by
    have h1:=prodTo_pos (x:=x) (k:=k) (fun r hr=>h r (by omega));have h2:=h k (by omega);rw[prodTo];have:=Int.mul_le_mul h1 h2 (by omega) (by omega);omega
theorem prodTo_congr{x y:Nat→Int}:∀{k:Nat},(∀r,r<k→x r=y r)→prodTo x k=prodTo y k
  |0,_=>rfl
  |k+1,h=>by rw[prodTo,prodTo,prodTo_congr (k:=k) (fun r hr=>h r (by omega)),h k (by omega)]
theorem prodTo_mono{x:Nat→Int}{k n:Nat}(hk:k≤n)(h:∀r,r<n→1≤x r):prodTo x k≤prodTo x n:=by
  induction n with
  | zero=>
    obtain rfl:k=0:=by omega
    exact Int.le_refl _
  | succ n ih=>
    by_cases e:k=n+1
    · rw[e]
      exact Int.le_refl _
    · have h1:=ih (by omega) (fun r hr=>h r (by omega))
      have h2:=prodTo_pos (x:=x) (k:=n) (fun r hr=>h r (by omega));have h3:=h n (by omega);rw[prodTo];have:=Int.mul_le_mul_of_nonneg_left h3 (by omega:0≤prodTo x n);omega
theorem prodTo_one{x:Nat→Int}{k i n:Nat}(hk:k≤i)(hi:i<n)(h:∀r,r<n→1≤x r):prodTo x k*x i≤prodTo x n:=by
  induction n with
  |zero=>omega
  | succ n ih=>
    have hp:=prodTo_pos (x:=x) (k:=n) (fun r hr=>h r (by omega));by_cases e:i=n
    · subst e
      rw[prodTo];exact Int.mul_le_mul_of_nonneg_right (prodTo_mono hk (fun r hr=>h r (by omega))) (by have:=h i (by omega);omega)
    · have h1:=ih (by omega) (fun r hr=>h r (by omega))
      have h3:=h n (by omega);rw[prodTo];have:=Int.mul_le_mul_of_nonneg_left h3 (by omega:0≤prodTo x n);omega
def RowsLe(n s:Nat)(c:Int)(x:Nat→Int)(K:Nat)(A:Nat→Nat→Int):Prop:=
  ∀r,r<K→1≤x r∧sumTo n (fun j=>if j=s then 0 else ab (A r j))≤x r∧ab (A r s)≤c*x r
theorem F_bound {n s:Nat} {c:Int} (hc:0≤c) {x:Nat→Int} {A:Nat→Nat→Int}:∀(k:Nat) (S:Nat→Bool),RowsLe n s c x k A→ab (F n A k S)≤(k*c+1)*prodTo x k
  | 0,S,_=>by
    rw[F,prodTo];split<;>simp[ab]
  | k + 1,S,h=>by
    obtain⟨h1,h2,h3⟩:=h k (by omega);have hr:RowsLe n s c x k A:=fun r hr=>h r (by omega)
    have hp:=prodTo_pos (x:=x) (k:=k) (fun r hr'=>(h r (by omega)).1);have ih:=fun S=>F_bound hc k S hr
    have hkc:0≤(k:Int)*c:=Int.mul_nonneg (by omega) hc;have hB:0≤((k:Int)*c+1)*prodTo x k:=Int.mul_nonneg (by omega) (by omega)
    have free:∀(q:Nat) (T:Nat→Bool),RowsLe n s c x q A→T s=false→ab (F n A q T)≤prodTo x q:=by
      intro q
      induction q with
      | zero=>
        intro T _ _;rw[F,prodTo];split<;>simp[ab]
      | succ q ihq=>
        intro T hq hT;obtain⟨g1,g2,g3⟩:=hq q (by omega);have hrq:RowsLe n s c x q A:=fun r hr=>hq r (by omega)
        have hpq:=prodTo_pos (x:=x) (k:=q) (fun r hr'=>(hq r (by omega)).1);rw[F,prodTo];refine Int.le_trans (ab_sum _ _) ?_
        have e:sumTo n (fun j=>ab (if T j=true then sg T j n*A q j*F n A q (del T j) else 0))≤sumTo n (fun j=>prodTo x q*(if j=s then 0 else ab (A q j))):=sumTo_le' fun j _=>by
          by_cases hj:T j=true
          · rw[if_pos hj,if_neg (fun e=>by rw[e,hT]at hj;cases hj),ab_mul,ab_mul,ab_sg,Int.one_mul,Int.mul_comm]
            exact Int.mul_le_mul_of_nonneg_right (ihq (del T j) hrq (by unfold del;rw[hT];rfl)) (ab_nonneg _)
          · rw[if_neg hj]
            have:0≤(if j=s then 0 else ab (A q j)):=by split;omega;exact ab_nonneg _
            exact Int.mul_nonneg (by omega) this
        rw[sumTo_mul]at e;exact Int.le_trans e (Int.mul_le_mul_of_nonneg_left g2 (by omega))
    rw[F,prodTo];refine Int.le_trans (ab_sum _ _) ?_
    have e:sumTo n (fun j=>ab (if S j=true then sg S j n*A k j*F n A k (del S j) else 0))≤sumTo n (fun j=>((k:Int)*c+1)*prodTo x k*(if j=s then 0 else ab (A k j))+(if j=s then c*x k*prodTo x k else 0)):=sumTo_le' fun j _=>by
      have n1:0≤c*x k*prodTo x k:=Int.mul_nonneg (Int.mul_nonneg hc (by omega)) (by omega);by_cases hj:S j=true
      · rw[if_pos hj,ab_mul,ab_mul,ab_sg,Int.one_mul]
        by_cases es:j=s
        · subst es
          rw[if_pos rfl,if_pos rfl,Int.mul_zero,Int.zero_add];exact Int.mul_le_mul h3 (free k (del S j) hr (by unfold del;simp)) (ab_nonneg _) (Int.mul_nonneg hc (by omega))
        · rw[if_neg es,if_neg es,Int.add_zero,Int.mul_comm]
          exact Int.mul_le_mul_of_nonneg_right (ih (del S j)) (ab_nonneg _)
      · rw[if_neg hj]
        have n2:0≤(if j=s then 0 else ab (A k j)):=by split;omega;exact ab_nonneg _
        have n3:0≤(if j=s then c*x k*prodTo x k else 0):=by split;exact n1;omega
        have n4:=Int.mul_nonneg hB n2;show(0:Int)≤_;omega
    rw[sumTo_add,sumTo_mul]at e
    have e2:sumTo n (fun j=>if j=s then c*x k*prodTo x k else 0)≤c*x k*prodTo x k:=by
      have n1:0≤c*x k*prodTo x k:=Int.mul_nonneg (Int.mul_nonneg hc (by omega)) (by omega);by_cases hs:s<n
      · rw[sumTo_single (j:=s) (g:=fun _=>0) hs (fun l _ hl=>if_neg hl) rfl,if_pos rfl,sumTo_zero (fun _ _=>rfl)]
        omega
      · rw[sumTo_zero (fun j hj=>if_neg (by omega))]
        exact n1
    have e3:=Int.mul_le_mul_of_nonneg_left h2 hB
    have e4:((k:Int)*c+1)*prodTo x k*x k+c*x k*prodTo x k=(((k+1:Nat):Int)*c+1)*(prodTo x k*x k):=by
      rw[Int.natCast_add]
      grind
    omega
def Bnd(n s:Nat)(c X:Int)(A:Nat→Nat→Int):Prop:=∃x:Nat→Int,RowsLe n s c x n A∧prodTo x n≤X
theorem R_bound{n s:Nat}{c X:Int}(hc:0≤c){A:Nat→Nat→Int}(h:Bnd n s c X A){k i j:Nat}(hk:k≤i)(hi:i<n):ab (R n A k i j)≤(n*c+1)*X:=by
  obtain⟨x,hx,hX⟩:=h;unfold R
  have h1:RowsLe n s c (fun r=>if r=k then x i else x r) (k+1) (row A k i):=by
    intro r hr;unfold row
    dsimp only
    by_cases e:r=k
    · rw[if_pos e,if_pos e]
      exact hx i hi
    · rw[if_neg e,if_neg e]
      exact hx r (by omega)
  have h2:=F_bound hc (k+1) (lowj k j) h1
  have h3:prodTo (fun r=>if r=k then x i else x r) (k+1)=prodTo x k*x i:=by
    rw[prodTo,if_pos rfl,prodTo_congr (y:=x) (fun r hr=>if_neg (by omega))]
  have h4:=prodTo_one hk hi (fun r hr=>(hx r hr).1);have h5:=prodTo_pos (x:=x) (k:=k) (fun r hr=>(hx r (by omega)).1);rw[h3]at h2;refine Int.le_trans h2 (Int.mul_le_mul ?_ (Int.le_trans h4 hX) ?_ ?_)
  · have:((k+1:Nat):Int)*c≤(n:Int)*c:=Int.mul_le_mul_of_nonneg_right (by omega) hc
    omega
  · exact Int.mul_nonneg (by omega) (by have:=(hx i hi).1;omega)
  · have:=Int.mul_nonneg (show(0:Int)≤n by omega) hc
    omega
theorem prodTo_swap (x:Nat→Int) (a b:Nat) (hab:a<b):∀n,b<n→prodTo (fun r=>if r=a then x b else if r=b then x a else x r) n=prodTo x n:=by
  have key:∀(y:Nat→Int) (m:Nat),a<b→prodTo y m=(if a<m then y a else 1)*(if b<m then y b else 1)*prodTo (fun r=>if r=a∨r=b then 1 else y r) m:=by
    intro y m hab
    induction m with
    |zero=>simp[prodTo]
    | succ m ih=>
      rw[prodTo,ih,prodTo];by_cases h1:m=a
      · subst h1
        rw[if_neg (by omega),if_neg (by omega),if_pos (by omega),if_neg (by omega),if_pos (.inl rfl)]
        grind
      · by_cases h2:m=b
        · subst h2
          rw[if_pos hab,if_neg (by omega),if_pos (by omega),if_pos (by omega),if_pos (.inr rfl)]
          grind
        · rw[if_neg (by omega:¬(m=a∨m=b))]
          have c1:(a<m)=(a<m+1):=by rw[eq_iff_iff];omega
          have c2:(b<m)=(b<m+1):=by rw[eq_iff_iff];omega
          simp only[c1,c2]
          grind
  intro n hn;rw[key _ n hab,key x n hab,if_pos (by omega),if_pos hn,if_pos rfl,if_neg (by omega),if_pos rfl,if_pos (by omega),if_pos hn]
  rw[prodTo_congr (x:=fun r=>if r=a∨r=b then 1 else if r=a then x b else if r=b then x a else x r) (y:=fun r=>if r=a∨r=b then 1 else x r) (fun r _=>by
    by_cases h:r=a∨r=b
    · rw[if_pos h,if_pos h]
    · rw[if_neg h,if_neg h,if_neg (fun e=>h (.inl e)),if_neg (fun e=>h (.inr e))])]
  grind
theorem Bnd.swp{n s:Nat}{c X:Int}{A:Nat→Nat→Int}(h:Bnd n s c X A){a b:Nat}(hab:a<b)(hb:b<n):Bnd n s c X (swp A a b):=by
  obtain⟨x,hx,hX⟩:=h;refine⟨fun r=>if r=a then x b else if r=b then x a else x r,fun r hr=>?_,(by rw[prodTo_swap x a b hab n hb];exact hX)⟩;unfold Det.swp
  dsimp only
  by_cases h1:r=a
  · rw[if_pos h1,if_pos h1]
    exact hx b hb
  · by_cases h2:r=b
    · rw[if_neg h1,if_pos h2,if_neg h1,if_pos h2]
      exact hx a (by omega)
    · rw[if_neg h1,if_neg h2,if_neg h1,if_neg h2]
      exact hx r hr
theorem cube_le:∀d:Nat,d*d*d≤3 ^ d
  |0=>by decide
  |1=>by decide
  |2=>by decide
  |3=>by decide
  | d +4=>by
    have ih:=cube_le (d+3);rw[show d+4=(d+3)+1 by omega,Nat.pow_succ]
    have:(d+3+1)*(d+3+1)*(d+3+1)≤(d+3)*(d+3)*(d+3)*3:=by
      have e:(d+3)*(d+3)*(d+3)*3=(d+3+1)*(d+3+1)*(d+3+1)+(2*d*d*d+15*d*d+33*d+17):=by grind
      omega
    omega
end Det
namespace Elim
open Go Go.RowKit YtmgkbhhnchnkcaaGreatDoorW.PrintWords Det
theorem piv_eq(M:Mx)(k:Nat):∀d p,piv M k d p=Det.pivot M k p d
  |0,p=>rfl
  | d +1,p=>by
    unfold piv Det.pivot;by_cases h:M p k=0
    · rw[if_pos h,if_neg (fun e=>e h)]
      exact piv_eq M k d (p+1)
    · rw[if_neg h,if_pos h]
theorem swp_if(M:Mx)(k p:Nat):Elim.swp M k p=if p=k then M else Det.swp M k p:=by
  by_cases h:p=k
  · rw[if_pos h,h]
    funext i
    unfold Elim.swp;by_cases c:i=k
    · rw[if_pos c,c]
    · rw[if_neg c,if_neg c]
  · rw[if_neg h];rfl
theorem w_id{x:Int}(h:ab x≤9223372036854775807):wrap64 x=x:=by
  rw[ab_le]at h;unfold wrap64;omega
theorem ab_sub(x y:Int):ab (x-y)≤ab x+ab y:=by unfold ab;omega
theorem mul_le_sq{B x y:Int}(hB:0≤B)(hx:ab x≤B)(hy:ab y≤B):ab (x*y)≤B*B:=by
  rw[ab_mul];exact Int.mul_le_mul hx hy (ab_nonneg y) hB
theorem val_eq{M:Mx}{k:Nat}{l B:Int}{i j:Nat}(hB:0≤B)(hBB:2*(B*B)≤9223372036854775807)(h1:ab (M i j)≤B)(h2:ab (M k k)≤B)(h3:ab (M i k)≤B)(h4:ab (M k j)≤B)(h5:ab ((M i j*M k k-M i k*M k j).tdiv l)≤9223372036854775807):
    val M k l i j=(M i j*M k k-M i k*M k j).tdiv l:=by
  have a:=mul_le_sq hB h1 h2;have b:=mul_le_sq hB h3 h4;have c:=ab_sub (M i j*M k k) (M i k*M k j);have hp:0≤B*B:=Int.mul_nonneg hB hB;unfold val;rw[w_id (x:=M i j*M k k) (by omega),w_id (x:=M i k*M k j) (by omega),w_id (x:=M i j*M k k-M i k*M k j) (by omega),w_id h5]
theorem det_exact {n s:Nat} {c X B D:Int} (hc:0≤c) (hB:(n*c+1)*X≤B) (hBB:2*(B*B)≤9223372036854775807) (h1:1≤B):
    ∀(d k:Nat) (sg l:Int) (M:Mx) (A:Nat→Nat→Int),k+d=n→Stage n D k M sg l A→(sg=1∨sg= -1)→Bnd n s c X A→det d k sg l M=D
  | 0,k,sg,l,M,A,hk,h,hs,hb=>by
    obtain rfl:k=n:=by omega
    have hl:ab l≤B:=by
      rw[h.last]
      cases k with
      |zero=>rw[P_zero];unfold ab;simp;omega
      |succ k=>rw[P_succ];exact Int.le_trans (R_bound hc hb (Nat.le_refl k) (by omega)) hB
    have hBsq:B≤B*B:=by
      have:=Int.mul_le_mul_of_nonneg_left h1 (show 0≤B by omega);omega
    have e:sg*l=D:=by rw[←h.det,h.last];rfl
    show wrap64 (sg*l)=D;rw[w_id,e];rcases hs with rfl|rfl
    · rw[Int.one_mul];omega
    · rw[Int.neg_mul,Int.one_mul];unfold ab at *;rw[Int.natAbs_neg];omega
  | d + 1,k,sg,l,M,A,hk,h,hs,hb=>by
    rw[det_succ,piv_eq]
    cases hp:Det.pivot M k k (d+1)with
    | none=>
      have h0:=Det.pivot_none hp
      have hz:F n A n (low n)=0:=F_no_pivot n A k (by omega) (h.lead k (Nat.le_refl k)) (fun i hi=>by
        by_cases c:i<k
        · exact R_above n A k i k c
        · rw[←h.ent i k (by omega) hi (Nat.le_refl k) (by omega)]
          exact h0 i (by omega) (by omega))
      show(0:Int)=D;rw[←h.det,hz,Int.mul_zero]
    | some p=>
      obtain⟨h2,h3,h4⟩:=Det.pivot_some hp;have hpn:p<n:=by omega
      have hst:=h.pivot h2 hpn;show det d (k+1) (if p=k then sg else wrap64 (-sg)) ((Elim.swp M k p) k k) (stp (Elim.swp M k p) k l)=D;rw[swp_if M k p]
      have hbA:Bnd n s c X (if p=k then A else Det.swp A k p):=by
        by_cases e:p=k
        · rw[if_pos e];exact hb
        · rw[if_neg e];exact hb.swp (by omega) hpn
      have hsg:(if p=k then sg else wrap64 (-sg))=if p=k then sg else -sg:=by
        by_cases e:p=k
        · rw[if_pos e,if_pos e]
        · rw[if_neg e,if_neg e]
          rcases hs with rfl|rfl
          · unfold wrap64;omega
          · unfold wrap64;omega
      have hs':(if p=k then sg else -sg)=1∨(if p=k then sg else -sg)= -1:=by
        by_cases e:p=k
        · rw[if_pos e];exact hs
        · rw[if_neg e];omega
      rw[hsg]
      have hkk:(if p=k then M else Det.swp M k p) k k≠0:=by
        by_cases e:p=k
        · rw[if_pos e,←e];rw[e]at h4;rw[e];exact h4
        · rw[if_neg e]
          unfold Det.swp;rw[if_pos rfl];exact h4
      generalize (if p=k then M else Det.swp M k p)=M' at *;generalize (if p=k then A else Det.swp A k p)=A' at *;generalize (if p=k then sg else -sg)=sg' at *;have hnx:=hst.next (by omega:k<n) hkk
      have hbd:∀i j,k≤i→i<n→k≤j→j<n→ab (M' i j)≤B:=fun i j hi hin hj hjn=>by
        rw[hst.ent i j hi hin hj hjn];exact Int.le_trans (R_bound hc hbA hi hin) hB
      have hsame:Same (k+1) n (stp M' k l) (stepM k M' l):=fun i j hi hin hj hjn=>by
        unfold stp stepM;rw[if_pos ⟨by omega,by omega⟩,if_pos ⟨by omega,by omega⟩];refine val_eq (B:=B) (by omega) hBB (hbd i j (by omega) hin (by omega) hjn) (hbd k k (Nat.le_refl k) (by omega) (Nat.le_refl k) (by omega)) (hbd i k (by omega) hin (Nat.le_refl k) (by omega)) (hbd k j (Nat.le_refl k) (by omega) (by omega) hjn) ?_;have e:=hnx.ent i j hi hin hj hjn;unfold stepM at e;rw[if_pos ⟨by omega,by omega⟩]at e;rw[e]
        have hBsq:B≤B*B:=by
          have:=Int.mul_le_mul_of_nonneg_left h1 (show 0≤B by omega);omega
        have:=Int.le_trans (R_bound hc hbA (k:=k+1) (i:=i) (j:=j) hi hin) hB;omega
      rw[det_same (n:=n) d (k+1) sg' (M' k k) _ _ (by omega) hsame];exact det_exact hc hB hBB h1 d (k+1) sg' (M' k k) _ A' (by omega) hnx hs' hbA
theorem det_F{n s:Nat}{c X B:Int}(hc:0≤c)(hB:(n*c+1)*X≤B)(hBB:2*(B*B)≤9223372036854775807)(h1:1≤B)(A:Nat→Nat→Int)(hb:Bnd n s c X A):det n 0 1 1 A=F n A n (low n):=
  det_exact hc hB hBB h1 n 0 1 1 A A (by omega) (stage_zero n A) (Or.inl rfl) hb
end Elim
namespace Det
def rs(N k:Nat)(B:Nat→Nat→Int)(i:Nat):Int:=sumTo N (fun j=>if k≤j then B i j else 0)
inductive Reach (N k:Nat) (B:Nat→Nat→Int):Nat→Prop
  |ground (i:Nat):0<rs N k B i→Reach N k B i
  |step (i j:Nat):k≤j→j<N→j≠i→B i j<0→Reach N k B j→Reach N k B i
structure Good(N k:Nat)(B:Nat→Nat→Int):Prop where
  sym:∀i j,k≤i→i<N→k≤j→j<N→B i j=B j i
  off:∀i j,k≤i→i<N→k≤j→j<N→i≠j→B i j≤0
  sum:∀i,k≤i→i<N→0≤rs N k B i
  reach:∀i,k≤i→i<N→Reach N k B i
theorem sumTo_le{n:Nat}{f g:Nat→Int}(h:∀j,j<n→f j≤g j):sumTo n f≤sumTo n g:=by
  induction n with
  |zero=>exact Int.le_refl _
  | succ n ih=>
    have h1:=ih (fun j hj=>h j (by omega));have h2:=h n (by omega);simp only[sumTo];omega
theorem rs_single{N k i j:Nat}{B:Nat→Nat→Int}(hj:k≤j)(hjN:j<N):rs N k B i=B i j+sumTo N (fun l=>if k≤l∧l≠j then B i l else 0):=by
  unfold rs
  rw[sumTo_single (j:=j) (g:=fun l=>if k≤l∧l≠j then B i l else 0) hjN (fun l _ hl=>by
    by_cases h:k≤l
    · rw[if_pos h,if_pos ⟨h,hl⟩]
    · rw[if_neg h,if_neg (fun h'=>h h'.1)]) (if_neg (fun h=>h.2 rfl)),if_pos hj]
theorem Good.diag {N k:Nat} {B:Nat→Nat→Int} (h:Good N k B) {i:Nat} (hi:k≤i) (hN:i<N):0≤B i i∧rs N k B i≤B i i∧∀j,k≤j→j<N→j≠i→ - B i j≤B i i:=by
  have h1:=rs_single (i:=i) (B:=B) hi hN;have h2:=h.sum i hi hN
  have h3:sumTo N (fun l=>if k≤l∧l≠i then B i l else 0)≤sumTo N (fun _=>0):=sumTo_le fun l hl=>by
    by_cases c:k≤l∧l≠i
    · rw[if_pos c]
      exact h.off i l hi hN c.1 hl (Ne.symm c.2)
    · rw[if_neg c]
      exact Int.le_refl _
  rw[sumTo_zero (fun _ _=>rfl)]at h3;refine⟨by omega,by omega,fun j hj hjN hne=>?_⟩
  have h4:sumTo N (fun l=>if k≤l∧l≠i then B i l else 0)≤sumTo N (fun l=>if l=j then B i j else 0):=sumTo_le fun l hl=>by
    by_cases c:l=j
    · subst c
      rw[if_pos rfl,if_pos ⟨hj,hne⟩];exact Int.le_refl _
    · rw[if_neg c]
      by_cases c':k≤l∧l≠i
      · rw[if_pos c']
        exact h.off i l hi hN c'.1 hl (Ne.symm c'.2)
      · rw[if_neg c']
        exact Int.le_refl _
  rw[sumTo_single (j:=j) (g:=fun _=>0) hjN (fun l _ hl=>if_neg hl) rfl,if_pos rfl,sumTo_zero (fun _ _=>rfl)]at h4;omega
theorem Good.pos{N k:Nat}{B:Nat→Nat→Int}(h:Good N k B)(hN:k<N):0<B k k:=by
  obtain⟨_,h2,h3⟩:=h.diag (Nat.le_refl k) hN
  cases h.reach k (Nat.le_refl k) hN with
  |ground _ hg=>omega
  | step _ j hj hjN hne hneg _=>
    have:=h3 j hj hjN hne;omega
theorem pos_of_mul{p x:Int}(hp:0<p)(h:0<p*x):0<x:=by
  rcases Int.lt_or_le 0 x with h'|h'
  · exact h'
  · have:=Int.mul_nonpos_of_nonneg_of_nonpos (Int.le_of_lt hp) h'
    omega
theorem neg_of_mul{p x:Int}(hp:0<p)(h:p*x<0):x<0:=by
  rcases Int.lt_or_le x 0 with h'|h'
  · exact h'
  · have:=Int.mul_nonneg (Int.le_of_lt hp) h'
    omega
theorem nonpos_of_mul{p x:Int}(hp:0<p)(h:p*x≤0):x≤0:=by
  rcases Int.lt_or_le 0 x with h'|h'
  · have:=Int.mul_pos hp h'
    omega
  · exact h'
theorem nonneg_of_mul{p x:Int}(hp:0<p)(h:0≤p*x):0≤x:=by
  rcases Int.lt_or_le x 0 with h'|h'
  · have:=Int.mul_neg_of_pos_of_neg hp h'
    omega
  · exact h'
theorem Good.next {N k:Nat} {B B':Nat→Nat→Int} (h:Good N k B) (hN:k<N) {p:Int} (hp:0<p)
    (hs:∀i j,k<i→i<N→k<j→j<N→p*B' i j=B i j*B k k-B i k*B k j):Good N (k+1) B':=by
  have hq:=h.pos hN;have off:=fun i (hi:k<i) (hiN:i<N)=>h.off i k (by omega) hiN (Nat.le_refl k) hN (by omega)
  have off':=fun j (hj:k<j) (hjN:j<N)=>h.off k j (Nat.le_refl k) hN (by omega) hjN (by omega)
  have hrs:∀i,k<i→i<N→p*rs N (k+1) B' i=rs N k B i*B k k-B i k*rs N k B k:=by
    intro i hi hiN
    have e1:p*rs N (k+1) B' i=sumTo N (fun j=>if k≤j∧j≠k then B i j*B k k-B i k*B k j else 0):=by
      unfold rs;rw[←sumTo_mul];refine sumTo_congr fun j hj=>?_
      by_cases c:k+1≤j
      · rw[if_pos c,if_pos ⟨by omega,by omega⟩]
        exact hs i j hi hiN (by omega) hj
      · rw[if_neg c,if_neg (by omega),Int.mul_zero]
    have e2:sumTo N (fun j=>if k≤j∧j≠k then B i j*B k k-B i k*B k j else 0)=B k k*sumTo N (fun l=>if k≤l∧l≠k then B i l else 0)+(- B i k)*sumTo N (fun l=>if k≤l∧l≠k then B k l else 0):=by
      rw[←sumTo_mul,←sumTo_mul,←sumTo_add];refine sumTo_congr fun j hj=>?_
      by_cases c:k≤j∧j≠k
      · rw[if_pos c,if_pos c,if_pos c]
        grind
      · rw[if_neg c,if_neg c,if_neg c]
        omega
    have r1:=rs_single (i:=i) (B:=B) (Nat.le_refl k) hN;have r2:=rs_single (i:=k) (B:=B) (Nat.le_refl k) hN;rw[e1,e2,r1,r2];generalize sumTo N (fun l=>if k≤l∧l≠k then B i l else 0)=x;generalize sumTo N (fun l=>if k≤l∧l≠k then B k l else 0)=y
    grind
  have hneg:∀i j,k<i→i<N→k<j→j<N→B i j<0→i≠j→B' i j<0:=by
    intro i j hi hiN hj hjN hb hne;refine neg_of_mul hp ?_;rw[hs i j hi hiN hj hjN];have m1:=Int.mul_neg_of_neg_of_pos hb hq;have m2:=Int.mul_nonneg_of_nonpos_of_nonpos (off i hi hiN) (off' j hj hjN);omega
  have hneg2:∀i j,k<i→i<N→k<j→j<N→B i k<0→B k j<0→i≠j→B' i j<0:=by
    intro i j hi hiN hj hjN hb hb' hne;refine neg_of_mul hp ?_;rw[hs i j hi hiN hj hjN];have m1:=Int.mul_nonpos_of_nonpos_of_nonneg (h.off i j (by omega) hiN (by omega) hjN hne) (Int.le_of_lt hq);have m2:=Int.mul_pos_of_neg_of_neg hb hb';omega
  have hgr:∀i,k<i→i<N→0<rs N k B i→0<rs N (k+1) B' i:=by
    intro i hi hiN hb;refine pos_of_mul hp ?_;rw[hrs i hi hiN];have m1:=Int.mul_pos hb hq;have m2:=Int.mul_nonpos_of_nonpos_of_nonneg (off i hi hiN) (h.sum k (Nat.le_refl k) hN);omega
  have hgr2:∀i,k<i→i<N→B i k<0→0<rs N k B k→0<rs N (k+1) B' i:=by
    intro i hi hiN hb hb';refine pos_of_mul hp ?_;rw[hrs i hi hiN];have m1:=Int.mul_nonneg (h.sum i (by omega) hiN) (Int.le_of_lt hq);have m2:=Int.mul_neg_of_neg_of_pos hb hb';omega
  refine⟨fun i j hi hiN hj hjN=>?_,fun i j hi hiN hj hjN hne=>?_,fun i hi hiN=>?_,fun i hi hiN=>?_⟩
  · have e1:=hs i j (by omega) hiN (by omega) hjN
    have e2:=hs j i (by omega) hjN (by omega) hiN;rw[h.sym j i (by omega) hjN (by omega) hiN,h.sym j k (by omega) hjN (Nat.le_refl k) hN,h.sym k i (Nat.le_refl k) hN (by omega) hiN]at e2;exact Int.eq_of_mul_eq_mul_left (by omega) (e1.trans (by rw[e2,Int.mul_comm (B k j)]))
  · refine nonpos_of_mul hp ?_
    rw[hs i j (by omega) hiN (by omega) hjN];have m1:=Int.mul_nonpos_of_nonpos_of_nonneg (h.off i j (by omega) hiN (by omega) hjN hne) (Int.le_of_lt hq);have m2:=Int.mul_nonneg_of_nonpos_of_nonpos (off i (by omega) hiN) (off' j (by omega) hjN);omega
  · refine nonneg_of_mul hp ?_
    rw[hrs i (by omega) hiN];have m1:=Int.mul_nonneg (h.sum i (by omega) hiN) (Int.le_of_lt hq);have m2:=Int.mul_nonpos_of_nonpos_of_nonneg (off i (by omega) hiN) (h.sum k (Nat.le_refl k) hN);omega
  ·
    have key:∀i,Reach N k B i→(i<N→k<i→Reach N (k+1) B' i)∧(i=k→0<rs N k B k∨∃j,k<j∧j<N∧B k j<0∧Reach N (k+1) B' j):=by
      intro i hr
      induction hr with
      | ground i hg=>
        refine⟨fun hiN hi=> .ground i (hgr i hi hiN hg),fun e=>?_⟩;subst e;exact .inl hg
      | step i j hj hjN hne hneg' hr ih=>
        refine⟨fun hiN hi=>?_,fun e=>?_⟩
        · by_cases ej:j=k
          · subst ej
            rcases ih.2 rfl with hg|⟨m,hm,hmN,hb,hrm⟩
            · exact .ground i (hgr2 i hi hiN hneg' hg)
            · by_cases em:m=i
              · subst em
                exact hrm
              · exact .step i m (by omega) hmN em (hneg2 i m hi hiN hm hmN hneg' hb (Ne.symm em)) hrm
          · exact .step i j (by omega) hjN hne (hneg i j hi hiN (by omega) hjN hneg' (Ne.symm hne)) (ih.1 hjN (by omega))
        · subst e
          exact .inr ⟨j,by omega,hjN,hneg',ih.1 hjN (by omega)⟩
    exact(key i (h.reach i (by omega) hiN)).1 hiN (by omega)
theorem lap_stages {N:Nat} {A:Nat→Nat→Int} (h:Good N 0 A):∀k,k≤N→(∀m,m≤k→0<P N A m)∧Good N k (R N A k)
  | 0,_=>by
    refine⟨fun m hm=>?_,?_⟩
    · obtain rfl:m=0:=by omega
      rw[P_zero];omega
    · have e:∀i j,j<N→R N A 0 i j=A i j:=fun i j hj=>R_zero N A i j hj
      have er:∀i,rs N 0 (R N A 0) i=rs N 0 A i:=fun i=>sumTo_congr fun j hj=>by rw[if_pos (Nat.zero_le j),if_pos (Nat.zero_le j),e i j hj]
      refine⟨fun i j hi hiN hj hjN=>?_,fun i j hi hiN hj hjN hne=>?_,fun i hi hiN=>?_,fun i hi hiN=>?_⟩
      · rw[e i j hjN,e j i hiN]
        exact h.sym i j hi hiN hj hjN
      · rw[e i j hjN]
        exact h.off i j hi hiN hj hjN hne
      · rw[er]
        exact h.sum i hi hiN
      · have key:∀i,Reach N 0 A i→Reach N 0 (R N A 0) i:=by
          intro i hr
          induction hr with
          |ground i hg=>exact .ground i (by rw[er];exact hg)
          |step i j hj hjN hne hb _ ih=>exact .step i j hj hjN hne (by rw[e i j hjN];exact hb) ih
        exact key i (h.reach i hi hiN)
  | k + 1,hk=>by
    obtain⟨hp,hg⟩:=lap_stages h k (by omega)
    have hq:0<P N A (k+1):=by
      rw[P_succ];exact hg.pos (by omega)
    have hp':∀m,m≤k+1→0<P N A m:=fun m hm=>by
      by_cases e:m=k+1
      · rw[e]
        exact hq
      · exact hp m (by omega)
    exact⟨hp',hg.next (by omega) (hp k (Nat.le_refl k)) (fun i j hi hiN hj hjN=>R_step N A k j hj hjN (fun m hm=>Int.ne_of_gt (hp' m hm)) i)⟩
theorem lap_diag{N:Nat}{A:Nat→Nat→Int}(h:Good N 0 A):∀k,k≤N→∀i,k≤i→i<N→R N A k i i≤P N A k*A i i
  |0,_,i,_,hiN=>by rw[R_zero N A i i hiN,P_zero,Int.one_mul];exact Int.le_refl _
  | k +1,hk,i,hi,hiN=>by
    obtain⟨hp,hg⟩:=lap_stages h k (by omega);obtain⟨hp',_⟩:=lap_stages h (k+1) hk;have hs:=R_step N A k i (by omega) hiN (fun m hm=>Int.ne_of_gt (hp' m hm)) i;have ih:=lap_diag h k (by omega) i (by omega) hiN;have hq:0<R N A k k k:=hg.pos (by omega);rw[hg.sym k i (Nat.le_refl k) (by omega) (by omega) hiN]at hs
    have sq:0≤R N A k i k*R N A k i k:=by
      rcases Int.le_total 0 (R N A k i k)with c|c
      · exact Int.mul_nonneg c c
      · exact Int.mul_nonneg_of_nonpos_of_nonpos c c
    have m1:R N A k i i*R N A k k k≤P N A k*A i i*R N A k k k:=Int.mul_le_mul_of_nonneg_right ih (Int.le_of_lt hq);have hpk:=hp k (Nat.le_refl k);rw[P_succ];refine Int.le_of_mul_le_mul_left (a:=P N A k) ?_ hpk
    have e1:P N A k*(R N A k k k*A i i)=P N A k*A i i*R N A k k k:=by
      rw[Int.mul_assoc,Int.mul_comm (A i i)]
    omega
def diagProd(A:Nat→Nat→Int):Nat→Int
  |0=>1
  |k+1=>diagProd A k*A k k
theorem lap_det_le{N:Nat}{A:Nat→Nat→Int}(h:Good N 0 A):∀k,k≤N→P N A k≤diagProd A k
  |0,_=>by rw[P_zero];exact Int.le_refl _
  | k+1,hk=>by
    have h1:=lap_diag h k (by omega) k (Nat.le_refl k) (by omega);have h2:=lap_det_le h k (by omega);have h3:=(h.diag (Nat.zero_le k) (by omega)).1;rw[P_succ,diagProd];exact Int.le_trans h1 (Int.mul_le_mul_of_nonneg_right h2 h3)
end Det
namespace Net
open Det
theorem tot_nil(f:Int→Int):tot f []=0:=rfl
theorem tot_cons(f:Int→Int)(x:Int)(l:List Int):tot f (x::l)=f x+tot f l:=by unfold tot;simp
theorem tot_le{f g:Int→Int}{l:List Int}(h:∀k∈l,f k≤g k):tot f l≤tot g l:=by
  induction l with
  |nil=>exact Int.le_refl _
  | cons x l ih=>
    rw[tot_cons,tot_cons];have h1:=h x (List.mem_cons_self ..);have h2:=ih (fun k hk=>h k (List.mem_cons_of_mem _ hk));omega
theorem tot_congr{f g:Int→Int}{l:List Int}(h:∀k∈l,f k=g k):tot f l=tot g l:=by
  induction l with
  |nil=>rfl
  |cons x l ih=>rw[tot_cons,tot_cons,h x (List.mem_cons_self ..),ih (fun k hk=>h k (List.mem_cons_of_mem _ hk))]
theorem tot_add(f g:Int→Int)(l:List Int):tot (fun k=>f k+g k) l=tot f l+tot g l:=by
  induction l with
  |nil=>rfl
  |cons x l ih=>rw[tot_cons,tot_cons,tot_cons,ih];omega
theorem tot_mul(c:Int)(f:Int→Int)(l:List Int):tot (fun k=>c*f k) l=c*tot f l:=by
  induction l with
  |nil=>rw[tot_nil,tot_nil,Int.mul_zero]
  |cons x l ih=>rw[tot_cons,tot_cons,ih,Int.mul_add]
theorem tot_const(c:Int)(l:List Int):tot (fun _=>c) l=c*l.length:=by
  induction l with
  |nil=>rw[tot_nil];simp
  |cons x l ih=>rw[tot_cons,ih,List.length_cons,Int.natCast_add,Int.mul_add];omega
theorem tot_nonneg{f:Int→Int}{l:List Int}(h:∀k∈l,0≤f k):0≤tot f l:=by
  have:=tot_le (f:=fun _=>0) h;rw[tot_const]at this;omega
theorem ab_tot(f:Int→Int)(l:List Int):ab (tot f l)≤tot (fun k=>ab (f k)) l:=by
  induction l with
  |nil=>rw[tot_nil,tot_nil];unfold ab;omega
  |cons x l ih=>rw[tot_cons,tot_cons];unfold ab at *;omega
theorem tot_pos{f:Int→Int}{l:List Int}(h:∀k∈l,0≤f k){k:Int}(hk:k∈l)(hp:0<f k):0<tot f l:=by
  induction l with
  |nil=>cases hk
  | cons x l ih=>
    rw[tot_cons];have h1:=h x (List.mem_cons_self ..);have h2:=tot_nonneg (fun k hk=>h k (List.mem_cons_of_mem _ hk));rcases List.mem_cons.mp hk with rfl|hk
    · omega
    · have:=ih (fun k hk=>h k (List.mem_cons_of_mem _ hk)) hk
      omega
theorem sumTo_tot(n:Nat)(F:Int→Nat→Int)(l:List Int):sumTo n (fun j=>tot (fun k=>F k j) l)=tot (fun k=>sumTo n (F k)) l:=by
  induction l with
  |nil=>exact sumTo_zero (fun _ _=>rfl)
  | cons x l ih=>
    rw[tot_cons,←ih,←sumTo_add];exact sumTo_congr (fun j _=>tot_cons _ _ _)
theorem sumTo_ind(n:Nat)(c:Int)(hc:c<(n:Int))(p:Prop)[Decidable p](v:Int):sumTo n (fun j=>if p∧(j:Int)=c then v else 0)=if p∧0≤c then v else 0:=by
  by_cases hp:p∧0≤c
  · obtain⟨m,rfl⟩:=Int.eq_ofNat_of_zero_le hp.2
    rw[if_pos hp,sumTo_single (j:=m) (g:=fun _=>0) (by omega) (fun l _ hl=>if_neg (fun e=>hl (by omega))) rfl,if_pos ⟨hp.1,rfl⟩,sumTo_zero (fun _ _=>rfl),Int.add_zero]
  · rw[if_neg hp]
    exact sumTo_zero (fun j _=>if_neg (fun e=>hp ⟨e.1,by omega⟩))
def dg(a b:Int)(i:Nat):Int:=(if(i:Int)=a then 1 else 0)+(if(i:Int)=b then 1 else 0)
theorem dg_nonneg(a b:Int)(i:Nat):0≤dg a b i:=by unfold dg;split<;>split<;>omega
theorem lapD_eq(a b:Int)(i j:Nat):lapD a b i j=(if(i:Int)=a∧(j:Int)=a then 1 else 0)+(if(i:Int)=b∧(j:Int)=b then 1 else 0)-(if(i:Int)=a∧(j:Int)=b then 1 else 0)-(if(i:Int)=b∧(j:Int)=a then 1 else 0):=rfl
theorem lapD_sym(a b:Int)(i j:Nat):lapD a b i j=lapD a b j i:=by
  rw[lapD_eq,lapD_eq];by_cases c1:(i:Int)=a<;>by_cases c2:(i:Int)=b<;>by_cases c3:(j:Int)=a<;>by_cases c4:(j:Int)=b<;>simp only[c1,c2,c3,c4,and_self,and_true,true_and,and_false,false_and,if_true,if_false]<;>omega
theorem lapD_off(a b:Int){i j:Nat}(h:i≠j):lapD a b i j≤0:=by
  rw[lapD_eq,if_neg (fun e=>h (by omega)),if_neg (fun e=>h (by omega))];split<;>split<;>omega
theorem sum_add3(n:Nat)(f g h k:Nat→Int):sumTo n (fun j=>f j+g j-h j-k j)=sumTo n f+sumTo n g-sumTo n h-sumTo n k:=by
  have e:(fun j=>f j+g j-h j-k j)=fun j=>(f j+g j)+(-(h j)+ -(k j)):=by funext j;omega
  rw[e,sumTo_add,sumTo_add,sumTo_add,sumTo_neg,sumTo_neg];omega
theorem lapD_sum(n:Nat)(a b:Int)(ha:a<(n:Int))(hb:b<(n:Int))(i:Nat):sumTo n (fun j=>lapD a b i j)=(if(i:Int)=a∧b<0 then 1 else 0)+(if(i:Int)=b∧a<0 then 1 else 0):=by
  have e:sumTo n (fun j=>lapD a b i j)=_:=sum_add3 n (fun j=>if(i:Int)=a∧(j:Int)=a then 1 else 0) (fun j=>if(i:Int)=b∧(j:Int)=b then 1 else 0) (fun j=>if(i:Int)=a∧(j:Int)=b then 1 else 0) (fun j=>if(i:Int)=b∧(j:Int)=a then 1 else 0);rw[e,sumTo_ind n a ha,sumTo_ind n b hb,sumTo_ind n b hb,sumTo_ind n a ha];by_cases c1:(i:Int)=a<;>by_cases c2:(i:Int)=b<;>by_cases c3:0≤a<;>by_cases c4:0≤b<;>simp[c1,c2,c3,c4]<;>omega
theorem lapD_ab(n:Nat)(a b:Int)(ha:a<(n:Int))(hb:b<(n:Int))(i:Nat):sumTo n (fun j=>ab (lapD a b i j))≤2*dg a b i:=by
  have h:∀j,j<n→ab (lapD a b i j)≤((if(i:Int)=a∧(j:Int)=a then 1 else 0)+(if(i:Int)=b∧(j:Int)=b then 1 else 0))+((if(i:Int)=a∧(j:Int)=b then 1 else 0)+(if(i:Int)=b∧(j:Int)=a then 1 else 0)):=fun j _=>by
    rw[lapD_eq];unfold ab;split<;>split<;>split<;>split<;>omega
  refine Int.le_trans (Det.sumTo_le h) ?_;rw[sumTo_add,sumTo_add,sumTo_add,sumTo_ind n a ha,sumTo_ind n b hb,sumTo_ind n b hb,sumTo_ind n a ha];unfold dg;split<;>split<;>split<;>split<;>(try split)<;>(try split)<;>omega
theorem rgtD_ab(a b v:Int)(i:Nat):ab (rgtD a b v i)≤ab v*dg a b i:=by
  unfold rgtD dg;by_cases c1:(i:Int)=a<;>by_cases c2:(i:Int)=b
  · rw[if_pos c1,if_pos c2,if_pos c1,if_pos c2,Int.sub_self]
    have:=ab_nonneg v;unfold ab at *;omega
  · rw[if_pos c1,if_neg c2,if_pos c1,if_neg c2];unfold ab;omega
  · rw[if_neg c1,if_pos c2,if_neg c1,if_pos c2];unfold ab;omega
  · rw[if_neg c1,if_neg c2,if_neg c1,if_neg c2];unfold ab;omega
end Net
namespace Net
open Go.RowKit YtmgkbhhnchnkcaaGreatDoorW.PrintWords Plain Det
def prodN(d:Nat→Nat):Nat→Nat
  |0=>1
  |k+1=>prodN d k*max (d k) 1
def sumN(d:Nat→Nat):Nat→Nat
  |0=>0
  |k+1=>sumN d k+d k
theorem prodN_cube(d:Nat→Nat):∀n,prodN d n*prodN d n*prodN d n≤3 ^ sumN d n
  |0=>by simp[prodN,sumN]
  | n +1=>by
    have ih:=prodN_cube d n
    have h:max (d n) 1*max (d n) 1*max (d n) 1≤3 ^ d n:=by
      by_cases c:d n=0
      · rw[c];decide
      · rw[Nat.max_eq_left (by omega)];exact cube_le (d n)
    have e:prodN d (n+1)*prodN d (n+1)*prodN d (n+1)=(prodN d n*prodN d n*prodN d n)*(max (d n) 1*max (d n) 1*max (d n) 1):=by
      show prodN d n*max (d n) 1*(prodN d n*max (d n) 1)*(prodN d n*max (d n) 1)=_;generalize max (d n) 1=m;generalize prodN d n=p
      grind
    rw[e];show _≤3 ^ (sumN d n+d n);rw[Nat.pow_add];exact Nat.mul_le_mul ih h
theorem prodN_le(d:Nat→Nat)(n:Nat)(h:sumN d n≤24):prodN d n≤6561:=by
  have h1:=prodN_cube d n;have h2:3 ^ sumN d n≤3 ^ 24:=Nat.pow_le_pow_right (by decide) h;rcases Nat.lt_or_ge 6561 (prodN d n)with c|c
  · exfalso
    have h3:6562*6562*6562≤prodN d n*prodN d n*prodN d n:=Nat.mul_le_mul (Nat.mul_le_mul c c) c;have h4:3 ^ 24<6562*6562*6562:=by decide
    omega
  · exact c
theorem prodTo_two(d:Nat→Int):∀n,prodTo (fun r=>2*max (d r) 1) n=((2 ^ n*prodN (fun r=>(d r).toNat) n:Nat):Int)
  |0=>rfl
  | n+1=>by
    show prodTo (fun r=>2*max (d r) 1) n*(2*max (d n) 1)=_;rw[prodTo_two d n];have e:(2*max (d n) 1:Int)=((2*max (d n).toNat 1:Nat):Int):=by omega
    rw[e,←Int.natCast_mul]
    congr 1
    show 2 ^ n*prodN _ n*(2*max (d n).toNat 1)=2 ^ (n+1)*(prodN _ n*max (d n).toNat 1);rw[Nat.pow_succ];generalize max (d n).toNat 1=m;generalize prodN (fun r=>(d r).toNat) n=p
    grind
theorem sumN_int(d:Nat→Int):∀n,(∀r,r<n→0≤d r)→((sumN (fun r=>(d r).toNat) n:Nat):Int)=sumTo n d
  |0,_=>rfl
  | n+1,h=>by
    have ih:=sumN_int d n (fun r hr=>h r (by omega));have hn:=h n (by omega);show((sumN _ n+(d n).toNat:Nat):Int)=sumTo n d+d n;omega
theorem prodT_bound{d:Nat→Int}{n:Nat}(h0:∀r,r<n→0≤d r)(hs:sumTo n d≤24)(hn:n≤7):prodTo (fun r=>2*max (d r) 1) n≤839808:=by
  rw[prodTo_two];have h1:=sumN_int d n h0;have h2:=prodN_le (fun r=>(d r).toNat) n (by omega);have h3:2 ^ n≤2 ^ 7:=Nat.pow_le_pow_right (by decide) hn;have h4:=Nat.mul_le_mul h3 h2;have h5:2 ^ 7*6561=839808:=by decide
  omega
theorem prodN_int(d:Nat→Int):∀n,(∀r,r<n→0≤d r)→prodTo (fun r=>max (d r) 1) n=((prodN (fun r=>(d r).toNat) n:Nat):Int)
  |0,_=>rfl
  | n+1,h=>by
    have ih:=prodN_int d n (fun r hr=>h r (by omega));have hn:=h n (by omega);show prodTo (fun r=>max (d r) 1) n*max (d n) 1=_;rw[ih,show(max (d n) 1:Int)=((max (d n).toNat 1:Nat):Int) by omega,←Int.natCast_mul];rfl
section
variable {ls:L}
def LT(ls:L):Nat→Nat→Int:=lapT ls (unkL ls) (usedL ls)
def RT(ls:L)(ax:Int):Nat→Int:=rgtT ls (unkL ls) (usedL ls) ax
def fa(ls:L)(k:Int):Int:=fnd (unkL ls) (leg ls k).f0
def fb(ls:L)(k:Int):Int:=fnd (unkL ls) (leg ls k).f1
def dgT(ls:L)(r:Nat):Int:=tot (fun k=>dg (fa ls k) (fb ls k) r) (usedL ls)
theorem LT_eq(ls:L)(i j:Nat):LT ls i j=tot (fun k=>lapD (fa ls k) (fb ls k) i j) (usedL ls):=rfl
theorem RT_eq(ls:L)(ax:Int)(i:Nat):RT ls ax i=tot (fun k=>rgtD (fa ls k) (fb ls k) (meas ls ax k) i) (usedL ls):=rfl
theorem fa_lt(ls:L)(k:Int):fa ls k<((unkL ls).length:Int):=(fnd_range _ _).2
theorem fb_lt(ls:L)(k:Int):fb ls k<((unkL ls).length:Int):=(fnd_range _ _).2
theorem dgT_nonneg(ls:L)(r:Nat):0≤dgT ls r:=tot_nonneg (fun _ _=>dg_nonneg _ _ _)
theorem LT_ab(ls:L)(i:Nat):sumTo (unkL ls).length (fun j=>ab (LT ls i j))≤2*dgT ls i:=by
  refine Int.le_trans (Det.sumTo_le (g:=fun j=>tot (fun k=>ab (lapD (fa ls k) (fb ls k) i j)) (usedL ls)) (fun j _=>ab_tot _ _)) ?_;rw[sumTo_tot,dgT,←tot_mul];exact tot_le (fun k _=>lapD_ab _ _ _ (fa_lt ls k) (fb_lt ls k) i)
theorem lapD_ab1(a b:Int)(i j:Nat):ab (lapD a b i j)≤2*dg a b i:=by
  rw[lapD_eq];unfold dg ab;by_cases c1:(i:Int)=a<;>by_cases c2:(i:Int)=b<;>by_cases c3:(j:Int)=a<;>by_cases c4:(j:Int)=b<;>simp only[c1,c2,c3,c4,and_self,and_true,true_and,and_false,false_and,if_true,if_false]<;>omega
theorem LT_ab1(ls:L)(i j:Nat):ab (LT ls i j)≤2*dgT ls i:=by
  refine Int.le_trans (ab_tot _ _) ?_;rw[dgT,←tot_mul];exact tot_le (fun k _=>lapD_ab1 _ _ _ _)
theorem RT_ab{ax:Int}(hm:∀k∈usedL ls,ab (meas ls ax k)≤500)(i:Nat):ab (RT ls ax i)≤500*dgT ls i:=by
  refine Int.le_trans (ab_tot _ _) ?_;rw[dgT,←tot_mul];refine tot_le (fun k hk=>Int.le_trans (rgtD_ab _ _ _ _) ?_);exact Int.mul_le_mul_of_nonneg_right (hm k hk) (dg_nonneg _ _ _)
theorem dg_sum(n:Nat)(a b:Int)(ha:a<(n:Int))(hb:b<(n:Int)):sumTo n (fun r=>dg a b r)≤2:=by
  have e1:=sumTo_ind n a ha True 1;have e2:=sumTo_ind n b hb True 1;simp only[true_and]at e1 e2;unfold dg;rw[sumTo_add,e1,e2];split<;>split<;>omega
theorem dgT_sum(hn:ls.length≤12):sumTo (unkL ls).length (dgT ls)≤24:=by
  have e:sumTo (unkL ls).length (dgT ls)=tot (fun k=>sumTo (unkL ls).length (fun r=>dg (fa ls k) (fb ls k) r)) (usedL ls):=sumTo_tot _ (fun k r=>dg (fa ls k) (fb ls k) r) _;rw[e];refine Int.le_trans (tot_le (g:=fun _=>2) (fun k _=>dg_sum _ _ _ (fa_lt ls k) (fb_lt ls k))) ?_;rw[tot_const];have:=usedL_len ls;omega
theorem RT_meas{ax:Int}(hg:∀x∈ls,Good x){k:Int}(hk:k∈usedL ls):ab (meas ls ax k)≤500:=by
  have hr:=usedL_range ls k hk;obtain⟨m,rfl⟩:=Int.eq_ofNat_of_zero_le hr.1;have hx:=leg_good hg m (by omega);have h:=shift_bound _ hx;unfold meas onM;rw[ab_le];split
  · exact h.1
  · split
    · exact h.2.1
    · exact h.2.2
theorem LT_bnd(hn:ls.length≤12)(hg:∀x∈ls,Good x){A:Nat→Nat→Int}{s:Nat}(h1:∀r,r<(unkL ls).length→∀j,j<(unkL ls).length→j≠s→A r j=LT ls r j)(h2:∀r,r<(unkL ls).length→ab (A r s)≤500*dgT ls r):Bnd (unkL ls).length s 250 839808 A:=by
  refine⟨fun r=>2*max (dgT ls r) 1,fun r hr=>⟨(by show 1≤2*max (dgT ls r) 1;omega),?_,?_⟩,prodT_bound (fun r _=>dgT_nonneg ls r) (dgT_sum hn) (unkL_len hg)⟩
  · have e:sumTo (unkL ls).length (fun j=>if j=s then 0 else ab (A r j))≤sumTo (unkL ls).length (fun j=>ab (LT ls r j)):=Det.sumTo_le (fun j hj=>by
      by_cases c:j=s
      · rw[if_pos c];exact ab_nonneg _
      · rw[if_neg c,h1 r hr j hj c];exact Int.le_refl _)
    have:=LT_ab ls r;show _≤2*max (dgT ls r) 1;omega
  · have:=h2 r hr
    show _≤250*(2*max (dgT ls r) 1);omega
end
end Net
namespace Net
open Go.RowKit YtmgkbhhnchnkcaaGreatDoorW.PrintWords Plain Det
section
variable {ls:L}
theorem LT_rs(ls:L)(i:Nat):rs (unkL ls).length 0 (LT ls) i=tot (fun k=>(if(i:Int)=fa ls k∧fb ls k<0 then 1 else 0)+(if(i:Int)=fb ls k∧fa ls k<0 then 1 else 0)) (usedL ls):=by
  unfold rs;rw[sumTo_congr (g:=fun j=>tot (fun k=>lapD (fa ls k) (fb ls k) i j) (usedL ls)) (fun j _=>by rw[if_pos (Nat.zero_le j)];rfl),sumTo_tot];exact tot_congr (fun k _=>lapD_sum _ _ _ (fa_lt ls k) (fb_lt ls k) i)
theorem rs_term(a b:Int)(i:Nat):0≤(if(i:Int)=a∧b<0 then(1:Int) else 0)+(if(i:Int)=b∧a<0 then 1 else 0):=by split<;>split<;>omega
theorem plL_head (hg:∀x∈ls,Good x):plL (RR ls)=0::unkL ls:=by
  have hp:=plL_pos ls;have ha:=asc_plL (RR ls);have h0:(0:Int)∈plL (RR ls):=(mem_plL _ _).mpr (by unfold Tree.verts;simp);unfold unkL
  cases hq:plL (RR ls)with
  |nil=>rw[hq]at hp;simp at hp
  | cons h t=>
    rw[hq]at ha h0
    have hh:h=0:=by
      have hr:=Grow.in_range (ends ls) (RR_ok hg).1 (Good.range hg) h ((mem_plL _ _).mp (by rw[hq];exact List.mem_cons_self ..));rcases List.mem_cons.mp h0 with e|e
      · exact e.symm
      · have:=(List.pairwise_cons.mp ha).1 0 e
        omega
    rw[hh];rfl
theorem unk_iff(hg:∀x∈ls,Good x)(s:Int):s∈unkL ls↔s∈Tree.verts 0 (RR ls)∧s≠0:=by
  have ha:=asc_plL (RR ls);have hm:=mem_plL (RR ls) s;rw[plL_head hg]at ha hm;have h0:∀x∈unkL ls,0<x:=fun x hx=>(List.pairwise_cons.mp ha).1 x hx
  rw[←hm,List.mem_cons]
  constructor
  · intro h
    exact⟨Or.inr h,(by have:=h0 s h;omega)⟩
  · rintro⟨h|h,hn⟩
    · exact absurd h hn
    · exact h
theorem fnd_pos{un:List Int}{s:Int}(h:s∈un):fnd un s=(un.idxOf s:Int)∧un.idxOf s<un.length:=⟨(by unfold fnd;rw[if_pos h]),List.idxOf_lt_length_iff.mpr h⟩
theorem fnd_neg{un:List Int}{s:Int}(h:s∉un):fnd un s= -1:=by unfold fnd;rw[if_neg h]
theorem idx_inj{un:List Int}{s t:Int}(hs:s∈un)(ht:t∈un)(e:un.idxOf s=un.idxOf t):s=t:=by
  have h1:un[un.idxOf s]'(List.idxOf_lt_length_iff.mpr hs)=s:=List.getElem_idxOf _;have h2:un[un.idxOf t]'(List.idxOf_lt_length_iff.mpr ht)=t:=List.getElem_idxOf _;rw[←h1,←h2]
  congr 1
theorem used_of(hg:∀x∈ls,Good x){x:Int×Int×Int}(hx:x∈RR ls):x.1∈usedL ls∧((ends ls x.1=(x.2.1,x.2.2))∨ends ls x.1=(x.2.2,x.2.1)):=by
  have ho:=(RR_ok hg).1;obtain⟨he,h0,hn⟩:=ho.ends x hx;obtain⟨k,hk⟩:=Int.eq_ofNat_of_zero_le h0;refine⟨?_,he⟩;have hl:=ho.legs_ends (ends ls) (i:=x.1) (List.mem_map.mpr ⟨x,hx,rfl⟩);refine(mem_selTo _ _ _).mpr ⟨k,hk,by omega,?_⟩;have hf:(leg ls (k:Int)).f0∈Tree.verts 0 (RR ls):=by have:=hl.1;rw[hk]at this;exact this
  have hgood:=leg_good hg k (by omega);rw[Pq_eq,Int.toNat_of_nonneg hgood.1.1];exact decide_eq_true ((mem_plL _ _).mpr hf)
theorem LT_neg(hg:∀x∈ls,Good x){k:Int}(hk:k∈usedL ls){i j:Nat}(hij:i≠j)(h:(fa ls k=(i:Int)∧fb ls k=(j:Int))∨(fa ls k=(j:Int)∧fb ls k=(i:Int))):LT ls i j<0:=by
  have hp:=tot_pos (f:=fun k=> -(lapD (fa ls k) (fb ls k) i j)) (l:=usedL ls) (fun k _=>by have:=lapD_off (fa ls k) (fb ls k) hij;omega) hk (by
    show 0< -(lapD (fa ls k) (fb ls k) i j);rw[lapD_eq];rcases h with⟨h1,h2⟩|⟨h1,h2⟩<;>rw[h1,h2]
    · rw[if_neg (by omega),if_neg (by omega),if_pos ⟨rfl,rfl⟩,if_neg (by omega)];omega
    · rw[if_neg (by omega),if_neg (by omega),if_neg (by omega),if_pos ⟨rfl,rfl⟩];omega)
  have e:tot (fun k=> -(lapD (fa ls k) (fb ls k) i j)) (usedL ls)= - LT ls i j:=by
    rw[LT_eq];have:=tot_mul (-1) (fun k=>lapD (fa ls k) (fb ls k) i j) (usedL ls);rw[show(fun k=> -(lapD (fa ls k) (fb ls k) i j))=fun k=> -1*lapD (fa ls k) (fb ls k) i j from by funext k;omega,this];omega
  omega
theorem LT_reach (hg:∀x∈ls,Good x):∀(q:Grow.Q),(∀x∈q,x∈RR ls)→Tree.Tr (0:Int) q→∀s,s∈Tree.verts 0 q→s≠0→s∈Tree.verts 0 (RR ls)→Det.Reach (unkL ls).length 0 (LT ls) ((unkL ls).idxOf s)
  |[],_,_,s,hs,hn,_=>by simp[Tree.verts]at hs;exact absurd hs hn
  | (k, u,t)::q,hsub,htr,s,hs,hn,hR=>by
    have hq:∀x∈q,x∈RR ls:=fun x hx=>hsub x (List.mem_cons_of_mem _ hx)
    cases htr with
    | cons h1 h2 h3 h4=>
      by_cases c:s=t
      · subst c
        obtain⟨hk,he⟩:=used_of hg (hsub _ (List.mem_cons_self ..));simp only at hk he;have hsu:s∈unkL ls:=(unk_iff hg s).mpr ⟨hR,hn⟩;obtain⟨f1,f2⟩:=fnd_pos hsu;by_cases hu:u=0
        · subst hu
          have h0:fnd (unkL ls) 0= -1:=fnd_neg (fun e=>((unk_iff hg 0).mp e).2 rfl);refine .ground _ ?_;rw[LT_rs];refine tot_pos (fun k _=>rs_term _ _ _) hk ?_;unfold fa fb;rcases he with he|he
          · have e1:(leg ls k).f0=0:=congrArg Prod.fst he
            have e2:(leg ls k).f1=s:=congrArg Prod.snd he;rw[e1,e2,h0,f1];rw[if_neg (by omega),if_pos (by omega)];omega
          · have e1:(leg ls k).f0=s:=congrArg Prod.fst he
            have e2:(leg ls k).f1=0:=congrArg Prod.snd he;rw[e1,e2,h0,f1];rw[if_pos (by omega),if_neg (by omega)];omega
        · have huR:u∈Tree.verts 0 (RR ls):=by
            have hl:=(RR_ok hg).1.legs_ends (ends ls) (i:=k) (List.mem_map.mpr ⟨_,hsub _ (List.mem_cons_self ..),rfl⟩);rcases he with he|he
            · have:=hl.1;rw[he]at this;exact this
            · have:=hl.2.1;rw[he]at this;exact this
          have ih:=LT_reach hg q hq h1 u h2 hu huR;have huu:u∈unkL ls:=(unk_iff hg u).mpr ⟨huR,hu⟩;obtain⟨g1,g2⟩:=fnd_pos huu;have hne:(unkL ls).idxOf u≠(unkL ls).idxOf s:=fun e=>h3 (by rw[←idx_inj huu hsu e];exact h2)
          refine .step _ _ (Nat.zero_le _) g2 hne (LT_neg hg hk (fun e=>hne e.symm) ?_) ih;unfold fa fb;rcases he with he|he
          · have e1:(leg ls k).f0=u:=congrArg Prod.fst he
            have e2:(leg ls k).f1=s:=congrArg Prod.snd he;rw[e1,e2];exact Or.inr ⟨g1,f1⟩
          · have e1:(leg ls k).f0=s:=congrArg Prod.fst he
            have e2:(leg ls k).f1=u:=congrArg Prod.snd he;rw[e1,e2];exact Or.inl ⟨f1,g1⟩
      · have hs':s∈Tree.verts 0 q:=by
          simp only[Tree.verts,List.map_cons,List.mem_cons]at hs ⊢;rcases hs with h|h|h
          · exact Or.inl h
          · exact absurd h c
          · exact Or.inr h
        exact LT_reach hg q hq h1 s hs' hn hR
theorem LT_good(hg:∀x∈ls,Good x):Det.Good (unkL ls).length 0 (LT ls):=by
  refine⟨fun i j _ _ _ _=>tot_congr (fun k _=>lapD_sym _ _ _ _),fun i j _ _ _ _ hij=>?_,fun i _ _=>?_,fun i _ hi=>?_⟩
  · have:=tot_le (f:=fun k=>lapD (fa ls k) (fb ls k) i j) (g:=fun _=>0) (l:=usedL ls) (fun k _=>lapD_off _ _ hij)
    rw[tot_const]at this;rw[LT_eq];omega
  · rw[LT_rs]
    exact tot_nonneg (fun k _=>rs_term _ _ _)
  · have hm:(unkL ls)[i]∈unkL ls:=List.getElem_mem hi
    have hu:=(unk_iff hg _).mp hm;have h:=LT_reach hg (RR ls) (fun _ h=>h) (RR_ok hg).1.tr _ hu.1 hu.2 hu.1
    have hx:(unkL ls).idxOf (unkL ls)[i]=i:=by
      have ha:=asc_plL (RR ls);rw[plL_head hg]at ha;have hnd:(unkL ls).Nodup:=(List.pairwise_cons.mp ha).2.imp (fun h=>by omega);exact hnd.idxOf_getElem i hi
    rw[hx]at h;exact h
def TB:Int:=1470503808
theorem tb_ok:2*(TB*TB)≤9223372036854775807:=by unfold TB;decide
theorem bnd_le{n:Nat}(hn:n≤7):((n:Int)*250+1)*839808≤TB:=by unfold TB;omega
theorem dgT_small(hn:ls.length≤12)(r:Nat):dgT ls r≤24:=by
  refine Int.le_trans (tot_le (g:=fun _=>2) (fun k _=>by unfold dg;split<;>split<;>omega)) ?_;rw[tot_const];have:=usedL_len ls;omega
theorem LT_wrap(hn:ls.length≤12)(i j:Nat):wrap64 (LT ls i j)=LT ls i j:=by
  refine Elim.w_id ?_;have h1:=LT_ab1 ls i j;have h2:=dgT_small hn i;omega
theorem RT_wrap(hn:ls.length≤12)(hg:∀x∈ls,Good x)(ax:Int)(i:Nat):wrap64 (RT ls ax i)=RT ls ax i:=by
  refine Elim.w_id ?_;have h1:=RT_ab (ax:=ax) (fun k hk=>RT_meas (ax:=ax) hg hk) i;have h2:=dgT_small hn i;omega
theorem trees_F(hn:ls.length≤12)(hg:∀x∈ls,Good x):treesM ls=P (unkL ls).length (LT ls) (unkL ls).length:=by
  have hb:Bnd (unkL ls).length (unkL ls).length 250 839808 (LT ls):=LT_bnd hn hg (fun _ _ _ _ _=>rfl) (fun r hr=>by have:=LT_ab1 ls r (unkL ls).length;have:=dgT_nonneg ls r;omega);have h:=Elim.det_F (by decide) (bnd_le (unkL_len hg)) tb_ok (by unfold TB;decide) (LT ls) hb;rw[←show F (unkL ls).length (LT ls) (unkL ls).length (low (unkL ls).length)=P (unkL ls).length (LT ls) (unkL ls).length from rfl,←h]
  exact Elim.det_same (n:=(unkL ls).length) _ 0 1 1 _ _ (by omega) (fun p q _ hp _ hq=>by
    unfold matM;rw[if_neg (by omega)]
    exact LT_wrap hn p q)
theorem trees_pos(hn:ls.length≤12)(hg:∀x∈ls,Good x):1≤treesM ls:=by
  rw[trees_F hn hg];exact(lap_stages (LT_good hg) _ (Nat.le_refl _)).1 _ (Nat.le_refl _)
theorem diag_prod(ls:L):∀n,diagProd (LT ls) n≤prodTo (fun r=>max (dgT ls r) 1) n∧0≤diagProd (LT ls) n
  |0=>⟨Int.le_refl _,(by unfold diagProd;decide)⟩
  | n +1=>by
    obtain⟨h1,h2⟩:=diag_prod ls n
    have h3:LT ls n n≤dgT ls n:=by
      rw[LT_eq];refine tot_le (fun k _=>?_);rw[lapD_eq];unfold dg;by_cases c1:(n:Int)=fa ls k<;>by_cases c2:(n:Int)=fb ls k<;>simp only[c1,c2,and_self,and_true,true_and,and_false,false_and,if_true,if_false]<;>omega
    have h4:0≤LT ls n n:=by
      rw[LT_eq];refine tot_nonneg (fun k _=>?_);rw[lapD_eq];by_cases c1:(n:Int)=fa ls k<;>by_cases c2:(n:Int)=fb ls k<;>simp only[c1,c2,and_self,and_true,true_and,and_false,false_and,if_true,if_false]<;>omega
    have h0:=dgT_nonneg ls n;refine⟨?_,Int.mul_nonneg h2 h4⟩;exact Int.mul_le_mul h1 (by show LT ls n n≤max (dgT ls n) 1;omega) h4 (Int.le_trans h2 h1)
theorem trees_le(hn:ls.length≤12)(hg:∀x∈ls,Good x):treesM ls≤6561:=by
  rw[trees_F hn hg];refine Int.le_trans (lap_det_le (LT_good hg) _ (Nat.le_refl _)) (Int.le_trans (diag_prod ls _).1 ?_);rw[prodN_int _ _ (fun r _=>dgT_nonneg ls r)];have h1:=sumN_int (dgT ls) (unkL ls).length (fun r _=>dgT_nonneg ls r);have h2:=dgT_sum hn;have h3:=prodN_le (fun r=>(dgT ls r).toNat) (unkL ls).length (by omega);omega
theorem co_F(hn:ls.length≤12)(hg:∀x∈ls,Good x)(ax:Int)(i:Nat)(hi:i<(unkL ls).length):coM ls ax i=F (unkL ls).length (setc (LT ls) i (RT ls ax)) (unkL ls).length (low (unkL ls).length):=by
  have hb:Bnd (unkL ls).length i 250 839808 (setc (LT ls) i (RT ls ax)):=LT_bnd hn hg (fun r _ j _ hj=>setc_ne _ _ _ _ _ hj) (fun r hr=>by rw[setc_at];exact RT_ab (fun k hk=>RT_meas hg hk) r);have h:=Elim.det_F (by decide) (bnd_le (unkL_len hg)) tb_ok (by unfold TB;decide) _ hb;rw[←h]
  exact Elim.det_same (n:=(unkL ls).length) _ 0 1 1 _ _ (by omega) (fun p q _ hp _ hq=>by
    unfold matM setc;by_cases c:q=i
    · rw[if_pos c,if_pos (by omega)];exact RT_wrap hn hg ax p
    · rw[if_neg c,if_neg (by omega)];exact LT_wrap hn p q)
theorem co_bound(hn:ls.length≤12)(hg:∀x∈ls,Good x)(ax:Int)(i:Nat)(hi:i<(unkL ls).length):ab (coM ls ax i)≤TB:=by
  have hb:Bnd (unkL ls).length i 250 839808 (setc (LT ls) i (RT ls ax)):=LT_bnd hn hg (fun r _ j _ hj=>setc_ne _ _ _ _ _ hj) (fun r hr=>by rw[setc_at];exact RT_ab (fun k hk=>RT_meas hg hk) r);rw[co_F hn hg ax i hi];obtain⟨m,hm⟩:∃m,(unkL ls).length=m+1:=⟨(unkL ls).length-1,by omega⟩
  have e:F (unkL ls).length (setc (LT ls) i (RT ls ax)) (unkL ls).length (low (unkL ls).length)=R (unkL ls).length (setc (LT ls) i (RT ls ax)) m m m:=by
    rw[←P_succ,←hm];rfl
  rw[e];exact Int.le_trans (R_bound (by decide) hb (Nat.le_refl m) (by omega)) (bnd_le (unkL_len hg))
theorem co_solve(hn:ls.length≤12)(hg:∀x∈ls,Good x)(ax:Int)(r:Nat)(hr:r<(unkL ls).length):sumTo (unkL ls).length (fun j=>LT ls r j*coM ls ax j)=treesM ls*RT ls ax r:=by
  rw[trees_F hn hg];rw[sumTo_congr (fun j hj=>by rw[co_F hn hg ax j hj])];exact cramer (unkL ls).length (LT ls) (RT ls ax) r hr
end
end Net
end Go.Proofs.YtmgkbhhnchnkcaaGreatDoor
