/- The marks that a law writes into what was answered, and the look whether they still stand. -/
import Derived.Test.YtmcbmojdeikcdaaGreatP1
import Derived.Test.YtmcbmojdeikcdaaGreatE0
import Derived.Laws.Strings
set_option linter.unusedVariables false
set_option linter.unusedSimpArgs false
open Bool renaming not_true->AJ,not_false->Ae,and_eq_true->Ai,true_and->Ap,eq_iff_iff->Aw,and_self->Ax,false_and->A4,false_or->BN,and_true->BO,true_or->BR,or_true->Bd,not_eq_true'->Bg,not_eq_true->Bl,and_false->Bo,or_false->Bq
open ByteArray renaming size_extract->BD
open Classical renaming not_not->Ao
open Eq renaming trans->Bc
open Go.ByteArray renaming toList_eq->BY
open Go.IntKind renaming wrap_i64->Bj
open Int renaming toNat->AC,eq_ofNat_of_zero_le->AE,toNat_natCast->AH,fdiv->Aa,tdiv_eq_ediv_of_nonneg->Ab,le_refl->Ad,toNat_zero->A3,tmod->A6,tdiv->BA,le_trans->BC,le_of_lt->BH,tmod_lt_of_pos->BJ,tmod_eq_emod_of_nonneg->BK,tmod_nonneg->BV,tdiv_le_self->Bk,tdiv_nonneg->Bn
open List renaming length->AB,getElem_mem->AD,mem_filter->AF,length_cons->AI,getElem_of_mem->AK,drop_eq_getElem_cons->AL,getElem?_eq_getElem->AM,length_append->AN,length_nil->AO,append_nil->AP,nil_append->AQ,mem_map->AR,mem_singleton->AS,pairwise_cons->AT,filter_eq_self->AU,filter_eq_nil_iff->AV,drop_zero->AW,length_map->AX,filter_cons->AY,length_take->Ac,mem_append->Af,length_drop->Ag,take_of_length_le->Aj,pairwise_map->Ak,filter_append->Am,reverse_reverse->An,mem_of_find?_eq_some->Aq,pairwise_append->Ar,take_length->At,length_filter_le->Ay,getElem?_eq_none->Az,length_singleton->A0,append_assoc->A1,reverse_cons->A2,pairwise_iff_getElem->A7,length_take_le->A8,mem_cons->A9,take_succ_eq_append_getElem->BB,take_append_drop->BE,drop_length->BF,length_pos_iff->BG,find?_eq_none->BI,mem_take_iff_getElem->BL,getElem_take->BM,pairwise_singleton->BP,ext_getElem->BQ,find?_cons->BS,find?_some->BT,map_append->BU,mem_of_mem_take->BW,length_reverse->BX,map_cons->BZ,ne_nil_of_mem->Ba,getElem_drop->Bb,take_add_one->Bf,perm_middle->Bh,length_set->Bm,mem_range->Bp
open List.Pairwise renaming filter->A5
open Nat renaming le_refl->AZ,zero_le->Ah,le_trans->Al,mul_le_mul->Au,lt_or_eq_of_le->Av,lt_trichotomy->Be
open Option renaming bind_some->AA,bind->AG,getD_some->Bi
namespace Go.Proofs.YtmcbmojdeikcdaaGreatEv
open Go
theorem nneg {a:Int}(h:0<=a):decide (a<0)=false:=decide_eq_false (by omega)
theorem ka {α β R:Type}(t:List α)(p:α->Bool)(g:α->β)(n:Nat)(fin:List β->Option R){step:(List β×Int->Option R)->List β×Int->Option R}
  (h:∀ (rec:List β×Int->Option R) (acc:List β) (i:Nat) (hi:i<t.length),acc.length<=i->acc.length<n->step rec (acc,(i:Int))=rec (bif p t[i] then acc++[g t[i]] else acc,((i+1:Nat):Int)))
  (hn:∀ (rec:List β×Int->Option R) (acc:List β) (i:Nat),i<t.length->acc.length<=i->n<=acc.length->step rec (acc,(i:Int))=fin acc)
  (hend:∀ (rec:List β×Int->Option R) (acc:List β),acc.length<=t.length->step rec (acc,(t.length:Int))=fin acc) :
  ∀ (d i k:Nat) (acc:List β),i+d=t.length->d<k->acc.length<=i->acc.length<=n->ae step k (acc,(i:Int))=fin (acc++(((t.drop i).filter p).map g).take (n-acc.length)):=by
 intro d;induction d with
 |zero =>
  intro i k acc hi hk ha _;obtain⟨k,rfl⟩:∃ k',k=k'+1:=⟨k-1,by omega⟩;have:i=t.length:=by omega
  subst this;show step (ae step k) _=_;rw[hend _ _ ha];simp
 |succ d ih =>
  intro i k acc hi hk ha hle;obtain⟨k,rfl⟩:∃ k',k=k'+1:=⟨k-1,by omega⟩;have hlt:i<t.length:=by omega
  show step (ae step k) _=_;by_cases hc:acc.length<n
  ·rw[h _ _ _ hlt ha hc,AL hlt,AY];cases hp:p t[i] with
   |true =>
    simp only[cond_true,if_true,BZ];rw[ih (i+1) k _ (by omega) (by omega) (by simp;omega) (by simp;omega)];congr 1;obtain⟨m,hm⟩:∃ m,n-acc.length=m+1:=⟨n-acc.length-1,by omega⟩;rw[hm,List.take_succ_cons,A1];simp only[AN,AI,AO];rw[show n-(acc.length+(0+1))=m by omega];rfl
   |false =>
    simp only[cond_false];rw[ih (i+1) k _ (by omega) (by omega) (by omega) (by omega)];rfl
  ·rw[hn _ _ _ hlt ha (by omega)];rw[show n-acc.length=0 by omega];simp
theorem od {α β R:Type}(t:List α)(p:α->Bool)(g:α->β)(fin:List β->Option R){step:(List β×Int->Option R)->List β×Int->Option R}
  (h:∀ (rec:List β×Int->Option R) (acc:List β) (i:Nat) (hi:i<t.length),acc.length<=i->step rec (acc,(i:Int))=rec (bif p t[i] then acc++[g t[i]] else acc,((i+1:Nat):Int)))
  (hend:∀ (rec:List β×Int->Option R) (acc:List β),acc.length<=t.length->step rec (acc,(t.length:Int))=fin acc) {k:Nat} (hk:t.length<k) :
  ae step k ([],0)=fin ((t.filter p).map g):=by
 have:=ka t p g (t.length+1) fin (λrec acc i hi ha _=>h rec acc i hi ha) (λrec acc i hi ha hn=>by omega) hend t.length 0 k [] (by omega) hk (AZ _) (by simp);refine this.trans ?_;congr 1;simp only[AQ,AO,AW];exact Aj (by have:=Ay p t;simp;omega)
theorem ru {e:Ty}{b:Nat}{xs:List e.den}(h:xs.length*b<=140737488355328):gU e b xs=some ((xs,()),()):=by
 unfold gU;rw[decide_eq_true (by simpa[ah]using h)];rfl
theorem vh {α β:Type}{xs ys:List α}{b:Nat}{x y:β}(h:(xs.length+ys.length)*b<=140737488355328):(bif decide ((AB xs+AB ys)*b<=ah) then x else y)=x:=by
 rw[decide_eq_true (by simpa[ah]using h)];rfl
theorem xV (K:Nat)(xs:List Int)(n:Int)(hx:xs.length<=1048576):Q168.f K (xs,n,())=some ((xs.take n.toNat,()),()):=by
 simp only[Q168.f,Q161.f,AA,Q2.f];obtain⟨c,hc,h0,h1,h2⟩:∃ c:Int,(bif decide (0<(bif decide ((xs.length:Int)<n) then (xs.length:Int) else n)) then bif decide ((xs.length:Int)<n) then (xs.length:Int) else n else 0)=c/\0<=c/\c<=xs.length/\xs.take c.toNat=xs.take n.toNat:=by
  by_cases h:(xs.length:Int)<n
  ·rw[decide_eq_true h];simp only[cond_true];by_cases h2:0<(xs.length:Int)
   ·rw[decide_eq_true h2];refine⟨_,rfl,by simp,by simp,?_⟩;simp only[cond_true];rw[Aj (by omega),Aj (by omega)]
   ·rw[decide_eq_false h2];refine⟨_,rfl,by simp,by simp,?_⟩;have:xs=[]:=List.eq_nil_of_length_eq_zero (by omega);subst this;simp
  ·rw[decide_eq_false h];simp only[cond_false];by_cases h2:0<n
   ·rw[decide_eq_true h2];exact⟨_,rfl,by simp;omega,by simp;omega,rfl⟩
   ·rw[decide_eq_false h2];refine⟨_,rfl,by simp,by simp,?_⟩;simp only[cond_false];rw[show n.toNat=0 by omega];rfl
 rw[hc,decide_eq_true h0,decide_eq_true h1];simp only[A3,AW,decide_true,Ax,cond_true];rw[ru (by
  have:=A8 c.toNat xs;have h3:(List.take c.toNat xs).length<=1048576:=by omega
  omega)]
 simp only[AA];rw[h2];rfl
def lM (f:ag):Bool:=f.2.2.2&&f.2.2.1==1
def e9 (t:List ag):List Int:=((t.filter lM).map (·.1)).take 2
theorem tj (K:Nat)(t:List ag)(ht:t.length<=1048576)(hK:1048577<K):Q90.f K (t,2,())=some ((e9 t,()),()):=by
 have:=ka (step:=λrec a=>Q90.l0.step K (t,2,()) rec a) t lM (λf=>f.1) 2 (λxs=>some ((xs,()),())) ?_ ?_ ?_ t.length 0 K [] (by omega) (by omega) (AZ _) (by simp)
 ·exact this
 ·intro rec acc i hi ha hn;simp only[Q90.l0.step];rw[bM (by omega:(i:Int)<(AB t:Int)),ai hi,av i (by omega),decide_eq_true (by omega:(AB acc:Int)<2)];simp only[cond_true,AA,lM];cases t[i].2.2.2 with
  |true =>
   simp only[cond_true,Ap];cases t[i].2.2.1==1 with
   |true=>simp only[cond_true];rw[vh (by simp;omega)]
   |false=>rfl
  |false=>rfl
 ·intro rec acc i hi ha hn;simp only[Q90.l0.step];rw[bM (by omega:(i:Int)<(AB t:Int)),decide_eq_false (by omega:¬ (AB acc:Int)<2)];rfl
 ·intro rec acc _;simp only[Q90.l0.step,bq];rfl
theorem vi (t:List ag):(e9 t).length<=2:=by
 unfold e9;exact A8 _ _
def eF (l:List cD)(s:Int):List ag:=((l.find? λx=>x.1==s).map (·.2)).getD []
theorem ua {R:Type}(l:List cD)(s:Int)(fin:List ag->Option R){step:(Int->Option R)->Int->Option R}
  (h:∀ (rec:Int->Option R) (i:Nat) (hi:i<l.length),step rec (i:Int)=bif l[i].1==s then fin l[i].2 else rec ((i+1:Nat):Int))
  (hend:∀ rec:Int->Option R,step rec (l.length:Int)=fin []) :
  ∀ (d i k:Nat),i+d=l.length->d<k->ae step k (i:Int)=fin (eF (l.drop i) s):=by
 intro d;induction d with
 |zero =>
  intro i k hi hk;obtain⟨k,rfl⟩:∃ k',k=k'+1:=⟨k-1,by omega⟩;have:i=l.length:=by omega
  subst this;show step (ae step k) _=_;rw[hend];simp[eF]
 |succ d ih =>
  intro i k hi hk;obtain⟨k,rfl⟩:∃ k',k=k'+1:=⟨k-1,by omega⟩;have hlt:i<l.length:=by omega
  show step (ae step k) _=_;rw[h _ _ hlt,AL hlt];simp only[eF,BS];cases l[i].1==s with
  |true=>rfl
  |false=>exact ih (i+1) k (by omega) (by omega)
theorem pN {l:List cD}{s:Int}:eF l s=[]\/∃ x∈l,x.1=s/\eF l s=x.2:=by
 unfold eF;cases h:l.find? λx=>x.1==s with
 |none=>exact .inl rfl
 |some x=>exact .inr ⟨x,Aq h,by simpa using BT h,rfl⟩
def bP {α:Type}(k:α->Int)(x:α)(xs:List α):List α:=xs.filter (λy=>decide (k y<k x))++x::xs.filter (λy=>decide (k x<k y))
theorem pO {α:Type}{k:α->Int}{xs:List α}{v:Int}{m:Nat}(hm:m<=xs.length)(lo:∀ i,(hi:i<xs.length)->i<m->k xs[i]<v)(hi:∀ i,(h:i<xs.length)->m<=i->v<=k xs[i]):xs.filter (λy=>decide (k y<v))=xs.take m:=by
 conv=>lhs;rw[<- BE m xs]
 rw[Am];have h1:(xs.take m).filter (λy=>decide (k y<v))=xs.take m:=by
  rw[AU];intro y hy;obtain⟨i,h1,rfl⟩:=AK hy;rw[Ac]at h1;rw[BM];exact decide_eq_true (lo i (by omega) (by omega))
 have h2:(xs.drop m).filter (λy=>decide (k y<v))=[]:=by
  rw[AV];intro y hy;obtain⟨i,h1,rfl⟩:=AK hy;rw[Ag]at h1;rw[Bb];have:=hi (m+i) (by omega) (by omega);simp only[decide_eq_true_eq];omega
 rw[h1,h2,AP]
theorem pP {α:Type}{k:α->Int}{xs:List α}{v:Int}{m:Nat}(hm:m<=xs.length)(lo:∀ i,(hi:i<xs.length)->i<m->k xs[i]<=v)(hi:∀ i,(h:i<xs.length)->m<=i->v<k xs[i]):xs.filter (λy=>decide (v<k y))=xs.drop m:=by
 conv=>lhs;rw[<- BE m xs]
 rw[Am];have h1:(xs.take m).filter (λy=>decide (v<k y))=[]:=by
  rw[AV];intro y hy;obtain⟨i,h1,rfl⟩:=AK hy;rw[Ac]at h1;rw[BM];have:=lo i (by omega) (by omega);simp only[decide_eq_true_eq];omega
 have h2:(xs.drop m).filter (λy=>decide (v<k y))=xs.drop m:=by
  rw[AU];intro y hy;obtain⟨i,h1,rfl⟩:=AK hy;rw[Ag]at h1;rw[Bb];exact decide_eq_true (hi (m+i) (by omega) (by omega))
 rw[h1,h2,AQ]
theorem nB {α:Type}{k:α->Int}{xs:List α}{x:α}{m:Nat}(h:Asc k xs)(hm:m<xs.length)(e:k xs[m]=k x):xs.set m x=bP k x xs:=by
 have hg:=ek.1 h;have lt:∀ i,(hi:i<xs.length)->i<m->k xs[i]<k x:=λi hi hlt=>by rw[<- e];exact hg i m hi hm hlt
 have gt:∀ i,(hi:i<xs.length)->m<i->k x<k xs[i]:=λi hi hlt=>by rw[<- e];exact hg m i hm hi hlt
 rw[bP,pO (m:=m) (by omega) lt (λi hi hmi=>by
   rcases Av hmi with h1|h1
   ·exact BH (gt i hi h1)
   ·subst h1;omega),
  pP (m:=m+1) (by omega) (λi hi hmi=>by
   rcases Av (Nat.le_of_lt_succ hmi) with h1|h1
   ·exact BH (lt i hi h1)
   ·subst h1;omega) (λi hi hmi=>gt i hi hmi),
  List.set_eq_take_append_cons_drop,if_pos hm]
theorem nC {α:Type}{k:α->Int}{xs:List α}{x:α}{m:Nat}(hm:m<=xs.length)(lo:∀ i,(hi:i<xs.length)->i<m->k xs[i]<k x)(hi:∀ i,(h:i<xs.length)->m<=i->k x<k xs[i]):xs.take m++[x]++xs.drop m=bP k x xs:=by
 rw[bP,pO hm lo (λi h1 h2=>BH (hi i h1 h2)),pP hm (λi h1 h2=>BH (lo i h1 h2)) hi,A1];rfl
theorem aY {α:Type}{k:α->Int}{xs:List α}{x y:α}:y∈bP k x xs<->y=x\/(y∈xs/\k y≠k x):=by
 simp only[bP,Af,A9,AF,decide_eq_true_eq];constructor
 ·rintro (⟨h1,h2⟩|rfl|⟨h1,h2⟩)
  ·exact .inr ⟨h1,by omega⟩
  ·exact .inl rfl
  ·exact .inr ⟨h1,by omega⟩
 ·rintro (rfl|⟨h1,h2⟩)
  ·exact .inr (.inl rfl)
  ·rcases Int.lt_or_gt_of_ne h2 with h3|h3
   ·exact .inl ⟨h1,h3⟩
   ·exact .inr (.inr ⟨h1,h3⟩)
theorem eD {α:Type}{k:α->Int}{xs:List α}{x:α}(h:Asc k xs):Asc k (bP k x xs):=by
 unfold Asc bP;rw[Ar,AT];refine⟨h.filter _,⟨λy hy=>?_,h.filter _⟩,λy hy z hz=>?_⟩
 ·simpa using (AF.1 hy).2
 ·have h1:k y<k x:=by simpa using (AF.1 hy).2
  rcases A9.1 hz with rfl|hz
  ·exact h1
  ·have h2:k x<k z:=by simpa using (AF.1 hz).2
   omega
theorem wK {α:Type}{k:α->Int}{xs:List α}{x:α}:(bP k x xs).length<=xs.length+1:=by
 have:∀ l:List α,(l.filter (λy=>decide (k y<k x))).length+(l.filter (λy=>decide (k x<k y))).length<=l.length:=by
  intro l;induction l with
  |nil=>simp
  |cons y l ih =>
   simp only[AY,AI];by_cases h1:k y<k x
   ·rw[if_pos (decide_eq_true h1),if_neg (by simp;omega)];simp only[AI];omega
   ·rw[if_neg (by simpa using h1)];split <;> (try simp only[AI]) <;> omega
 have:=this xs;simp only[bP,AN,AI];omega
theorem nD {α:Type}{k:α->Int}{xs:List α}(h:Asc k xs){i:Nat}(hi:i<xs.length){v:Int}(e:k xs[i]=v):xs.find? (λy=>k y==v)=some xs[i]:=by
 cases h1:xs.find? (λy=>k y==v) with
 |none =>
  have:=BI.1 h1 xs[i] (AD hi);simp[e]at this
 |some y =>
  have h2:k y=v:=by simpa using BT h1
  obtain⟨j,hj,rfl⟩:=AK (Aq h1);have:=nn h hj hi (by rw[h2,e]);subst this;rfl
theorem mB {α:Type}{k:α->Int}{xs:List α}{v:Int}(h:∀ y∈xs,k y≠v):xs.find? (λy=>k y==v)=none:=by
 rw[BI];intro y hy;simpa using h y hy
def i9 {α:Type}(k:α->Int)(x:α):Bool->List α->List α
 |d,[]=>bif d then [] else [x]
 |d,y::ys=>(bif !d&&decide (k x<=k y) then [x] else [])++((bif k y != k x then [y] else [])++i9 k x (d||decide (k x<=k y)) ys)
theorem oe {α:Type}{k:α->Int}{x:α}:∀ {ys:List α},(∀ y∈ys,k x<k y)->i9 k x true ys=ys
 |[],_=>rfl
 |y::ys,h=>by
  have h1:=h y (by simp);simp only[i9,AJ,A4,cond_false,BR,AQ];rw[oe (λz hz=>h z (by simp[hz])),show (k y != k x)=true by simp;omega];rfl
theorem kb {α:Type}{k:α->Int}{x:α}:∀ {xs:List α},Asc k xs->i9 k x false xs=bP k x xs
 |[],_=>rfl
 |y::ys,h=>by
  have h':Asc k ys:=(AT.1 h).2;have hy:∀ z∈ys,k y<k z:=(AT.1 h).1;simp only[i9,Ae,Ap,BN];by_cases hk:k x<=k y
  ·rw[decide_eq_true hk,oe (λz hz=>by have:=hy z hz;omega)];simp only[cond_true,bP,AY];have e1:ys.filter (λz=>decide (k z<k x))=[]:=by
    rw[AV];intro z hz;have:=hy z hz;simp;omega
   have e2:ys.filter (λz=>decide (k x<k z))=ys:=by
    rw[AU];intro z hz;have:=hy z hz;simp;omega
   rw[e1,e2,if_neg (by simp;omega)];by_cases he:k y=k x
   ·rw[if_neg (by simp;omega),show (k y != k x)=false by simpa using he];rfl
   ·rw[if_pos (by simp;omega),show (k y != k x)=true by simpa using he];rfl
  ·rw[decide_eq_false hk,kb h',show (k y != k x)=true by simp;omega];simp only[cond_false,cond_true,bP,AY,AQ];rw[if_pos (by simp;omega),if_neg (by simp;omega)];rfl
theorem rv {α A R:Type}(k:α->Int)(x:α)(t:List α)(q:α->Bool)(r0:Option R)(fin:List α->Option R)(S:List α->Bool->Nat->A){step:(A->Option R)->A->Option R}
  (h:∀ (rec:A->Option R) (acc:List α) (d:Bool) (i:Nat) (hi:i<t.length),acc.length<=i+1->(d=false->acc.length<=i)->step rec (S acc d i)=bif q t[i] then r0 else rec (S ((acc++(bif !d&&decide (k x<=k t[i]) then [x] else []))++(bif k t[i] != k x then [t[i]] else [])) (d||decide (k x<=k t[i])) (i+1)))
  (hend:∀ (rec:A->Option R) (acc:List α) (d:Bool),acc.length<=t.length+1->(d=false->acc.length<=t.length)->step rec (S acc d t.length)=fin (acc++(bif d then [] else [x]))) :
  ∀ (n i K:Nat) (acc:List α) (d:Bool),i+n=t.length->n<K->acc.length<=i+1->(d=false->acc.length<=i)->ae step K (S acc d i)=bif (t.drop i).any q then r0 else fin (acc++i9 k x d (t.drop i)):=by
 intro n;induction n with
 |zero =>
  intro i K acc d hi hK ha hd;obtain⟨K,rfl⟩:∃ k',K=k'+1:=⟨K-1,by omega⟩;have:i=t.length:=by omega
  subst this;show step (ae step K) _=_;rw[hend _ _ _ ha hd,BF];rfl
 |succ n ih =>
  intro i K acc d hi hK ha hd;obtain⟨K,rfl⟩:∃ k',K=k'+1:=⟨K-1,by omega⟩;have hlt:i<t.length:=by omega
  show step (ae step K) _=_;rw[h _ _ _ _ hlt ha hd,AL hlt,List.any_cons];cases hq:q t[i] with
  |true=>rfl
  |false =>
   simp only[cond_false,BN,i9];rw[ih (i+1) K _ _ (by omega) (by omega) ?_ ?_]
   ·simp only[A1]
   ·cases d with
    |true =>
     simp only[AJ,A4,cond_false,AP];cases k t[i] != k x <;> simp <;> omega
    |false =>
     have:=hd rfl;cases hc:decide (k x<=k t[i]) <;> cases k t[i] != k x <;> simp <;> omega
   ·intro hdd;rw[Bool.or_eq_false_iff]at hdd;obtain⟨rfl,hc⟩:=hdd;have:=hd rfl;rw[hc];cases k t[i] != k x <;> simp <;> omega
theorem mO (K:Nat)(n:aa)(hn:NB n)(hK:1048577<K):∃ b,Q178.f K (n,())=rb b/\Q157.f K (n,())=rb b/\(b=true<->e8 n):=by
 obtain⟨b,h1,h2⟩:=wJ K n hn hK;obtain⟨b',h3,h4⟩:=rr K n hn hK;have:b=b':=by rw[Aw,h2,h4]
 subst this;exact⟨b,h1,h3,h2⟩
theorem e8.up {n:aa}(h:e8 n)(hu:n.2.1=true):UpP n:=by
 have:=h.2.2.2.2.2
 rwa [if_pos hu]at this
abbrev au:=Int×Int×Int×Int×Int×Int×cF×List ag
abbrev au.table (w:au):List ag:=w.2.2.2.2.2.2.2
abbrev au.coord (w:au):cF:=w.2.2.2.2.2.2.1
def oh:List ag->Prop
 |[]=>False
 |f::l=>b7 (f::l) (aq f.1)
def gY (w:au):Prop:=InP w.1 1 2/\InP w.2.1 1 6/\InP w.2.2.1 0 7/\InP w.2.2.2.1 0 7/\InP w.2.2.2.2.1 0 999999/\InP w.2.2.2.2.2.1 0 7/\cr (au.coord w)/\aA (au.table w) /\
 (if w.2.1=6 then oh (au.table w) else b7 (au.table w) (aq w.2.2.1))
theorem rx (K:Nat)(w:au)(hw:(au.table w).length<=1048576)(hK:1048577<K):Ret (Q16.f K (w,())) (gY w):=by
 refine Ret.nx (cq K _ _ _) λ_=>Ret.nx (cq K _ _ _) λ_=>Ret.nx (cq K _ _ _) λ_=>Ret.nx (cq K _ _ _) λ_=>Ret.nx (cq K _ _ _) λ_=>Ret.nx (cq K _ _ _) λ_=>Ret.nx (fk K _) λ_=>Ret.nx (fG K _ hw hK) λ_=>?_
 dsimp only;by_cases h:w.2.1=6
 ·rw[show (w.2.1==6)=true by simpa using h,if_pos h];obtain⟨w1,w2,w3,w4,w5,w6,w7,t⟩:=w;cases t with
  |nil=>exact Ret.no (λh=>h)
  |cons f l =>
   rw[show decide ((AB (f::l):Int)>0)=true from decide_eq_true (by simp only[AI];omega)];simp only[cond_true];exact Ret.vl (ai (xs:=f::l) (i:=0) (by simp)) (fH K _ _ hw hK).id
 ·rw[show (w.2.1==6)=false by simpa using h,if_neg h];exact (fH K _ _ hw hK).id
theorem lN {α A R:Type}(xs:List α)(S:List α->Nat->A)(fin:Option R){step:(A->Option R)->A->Option R}
  (h:∀ (rec:A->Option R) (acc:List α) (i:Nat) (hi:i<xs.length),acc.length=i->step rec (S acc i)=rec (S (acc++[xs[i]]) (i+1))) (hend:∀ rec:A->Option R,step rec (S xs xs.length)=fin) {k:Nat} (hk:xs.length<k):ae step k (S [] 0)=fin:=by
 refine jh (step:=step) xs.length (λi=>S (xs.take i) i) fin ?_ ?_ hk
 ·intro rec i hi;show step rec (S (xs.take i) i)=rec (S (xs.take (i+1)) (i+1));rw[h rec (xs.take i) i hi (by simp;omega),BB hi]
 ·intro rec;show step rec (S (xs.take xs.length) xs.length)=fin;rw[At];exact hend rec
theorem szb (a b c:Nat)(hc:c<=64)(h:a+b<=2097152):decide ((a+b)*c<=ah)=true:=by
 have:=Au h hc;exact decide_eq_true (by unfold ah;omega)
theorem vj (K:Nat)(n:aa)(hn:NB n)(hK:1048577<K):Q5.f K (n,())=some ((n,()),()):=by
 have b1:=hn.table;have b2:=hn.cast;have b3:=hn.doubts;have b4:=hn.places;have b5:=hn.others;simp only[Q5.f,Q5.pre];rw[szb _ _ _ (by omega) (by show (AB ([]:List ag))+(aa.table n).length<=_;simp;omega),szb _ _ _ (by omega) (by show (AB ([]:List aV))+(aa.cast n).length<=_;simp;omega)];simp only[cond_true];refine lN (aa.doubts n) (step:=λrec a=>Q5.l0.step K (n,()) (Q5.l1 K (n,())) rec a) (λacc i=>((i:Int),acc)) _ ?_ ?_ (by omega)
 ·intro rec acc i hi ha;have:=hn.by_ _ (AD hi);simp only[Q5.l0.step];rw[bM (by omega:(i:Int)<(AB (aa.doubts n):Int)),ai hi,av i (by omega)];simp only[cond_true,AA];rw[szb _ _ _ (by omega) (by simp;omega),szb _ _ _ (by omega) (by simp;omega)];rfl
 ·intro rec;simp only[Q5.l0.step,bq,cond_false];refine lN (aa.places n) (step:=λrec a=>Q5.l1.step K (n,()) (Q5.l2 K (n,())) rec a) (λacc i=>((i:Int),aa.doubts n,acc)) _ ?_ ?_ (by omega)
  ·intro rec acc i hi ha;have:=hn.trips _ (AD hi);simp only[Q5.l1.step];rw[bM (by omega:(i:Int)<(AB (aa.places n):Int)),ai hi,av i (by omega)];simp only[cond_true,AA];rw[szb _ _ _ (by omega) (by simp;omega),szb _ _ _ (by omega) (by simp;omega)];rfl
  ·intro rec;simp only[Q5.l1.step,bq,cond_false];refine lN (aa.others n) (step:=λrec a=>Q5.l2.step K (n,()) rec a) (λacc i=>((i:Int),aa.doubts n,aa.places n,acc)) _ ?_ ?_ (by omega)
   ·intro rec acc i hi ha;have:=hn.facts _ (AD hi);simp only[Q5.l2.step];rw[bM (by omega:(i:Int)<(AB (aa.others n):Int)),ai hi,av i (by omega)];simp only[cond_true,AA];rw[szb _ _ _ (by omega) (by simp;omega),szb _ _ _ (by omega) (by simp;omega)];rfl
   ·intro rec;simp only[Q5.l2.step,bq,cond_false];rfl
instance (f g:ag):Decidable (bV f g):=by unfold bV;infer_instance
theorem oi (K:Nat)(f g:ag):Q29.f K (f,g,())=rb (decide (bV f g)):=by
 obtain⟨b,h1,h2⟩:=rq K f g;rw[h1,show b=decide (bV f g) by rw[Aw,h2];simp]
def b8 (t:List ag)(f:ag):List ag×Bool :=
 match t.find? (λg=>g.1==f.1) with
 |some g=>if bV f g then (bP (λg=>g.1) f t,true) else (t,false)
 |none=>(bP (λg=>g.1) f t,true)
theorem kY {t:List ag}{f:ag}(hA:Asc (λg:ag=>g.1) t){i:Nat}(hi:i<t.length)(e:t[i].1=f.1):b8 t f=if bV f t[i] then (bP (λg=>g.1) f t,true) else (t,false):=by
 unfold b8;rw[show t.find? (λg=>g.1==f.1)=some t[i] from nD hA hi e]
theorem im {t:List ag}{f:ag}(h:∀ g∈t,g.1≠f.1):b8 t f=(bP (λg=>g.1) f t,true):=by
 unfold b8;rw[show t.find? (λg=>g.1==f.1)=none from mB h]
theorem put_s (K:Nat)(t:List ag)(f:ag)(ht:t.length<=1048576)(hA:Asc (λg:ag=>g.1) t)(hK:1048577<K):Q46.f K (t,f,())=some (((b8 t f).1,(b8 t f).2,()),()):=by
 simp only[Q46.f,Q46.pre];obtain⟨o,ho,h1⟩:=ew K t f.1 ht hK;rw[h1];simp only[AA];cases ho with
 |at_ i hi e =>
  simp only;rw[kY hA hi e,decide_eq_true (by omega:((i:Nat):Int)>=0),ai hi];simp only[cond_true,AA];rw[show Q29.f K (f,t[i],())=_ from oi K f t[i]];simp only[AA];by_cases ho:bV f t[i]
  ·rw[decide_eq_true ho,if_pos ho];simp only[AJ,cond_false];rw[szb _ _ _ (by omega) (by show (AB ([]:List ag))+t.length<=_;simp;omega)];simp only[cond_true,AQ,ai hi,AA,AH];rw[nB (k:=λg:ag=>g.1) hA hi e]
  ·rw[decide_eq_false ho,if_neg ho];rfl
 |no h =>
  simp only;rw[im h,decide_eq_false (by omega:¬ (-1:Int)>=0)];simp only[cond_false];have fit:∀ m:Nat,m<=t.length->(bif decide ((0:Int)<=0)&&decide ((0:Int)<=(m:Int))&&decide ((m:Int)<=(AB t:Int))&&true then (bif decide ((AB ([]:List ag)+AB ((t.take (AC (m:Int))).drop (AC 0)))*32<=ah) then (bif decide ((AB ([]++((t.take (AC (m:Int))).drop (AC 0)))+AB ([f]))*32<=ah) then (bif decide ((0:Int)<=(m:Int))&&decide ((m:Int)<=(AB t:Int))&&decide ((AB t:Int)<=(AB t:Int))&&true then (bif decide ((AB (([]++((t.take (AC (m:Int))).drop (AC 0)))++([f]))+AB ((t.take (AC (AB t:Int))).drop (AC (m:Int))))*32<=ah) then (some (((([]++((t.take (AC (m:Int))).drop (AC 0)))++([f]))++((t.take (AC (AB t:Int))).drop (AC (m:Int))),true,()),())) else none) else none) else none) else none) else (none:Option ((List ag×Bool×Unit)×Unit)))=some ((t.take m++[f]++t.drop m,true,()),()):=by
   intro m hm;rw[decide_eq_true (by omega:(0:Int)<=0),decide_eq_true (by omega:(0:Int)<=(m:Int)),decide_eq_true (by omega:(m:Int)<=(AB t:Int)),decide_eq_true (by omega:(AB t:Int)<=(AB t:Int))];simp only[AH,A3,AW,AQ,At,Ax,cond_true];have h1:(t.take m).length=m:=by rw[Ac];omega
   have h2:(t.drop m).length=t.length-m:=Ag;rw[szb _ _ _ (by omega) (by simp only[AO];omega),szb _ _ _ (by omega) (by simp only[AI,AO];omega),szb _ _ _ (by omega) (by simp only[AN,AI,AO];omega)];rfl
  have:=cK (step:=λrec a=>Q46.l0.step K (t,f,()) rec a) t.length (λi=>(i:Int)) (λj=>∃ h:j<t.length,¬ t[j].1<f.1) (some ((t.take t.length++[f]++t.drop t.length,true,()),())) (λj=>some ((t.take j++[f]++t.drop j,true,()),())) ?_ ?_ t.length K 0 (by omega) (by omega)
  ·have fin:∀ m,m<=t.length->(∀ i,(hi:i<t.length)->i<m->t[i].1<f.1)->(∀ i,(hi:i<t.length)->m<=i->f.1<t[i].1)->t.take m++[f]++t.drop m=bP (λg=>g.1) f t:=λm hm lo hi=>nC (k:=λg:ag=>g.1) hm lo hi
   rcases this with ⟨h1,h2⟩|⟨j,_,h1,⟨h3,h4⟩,h5,h2⟩
   ·rw[fin t.length (AZ _) (λi hi _=>by
     have:=h1 i (Ah _) hi;exact Ao.1 λh=>this ⟨hi,h⟩) (λi hi h=>by omega)]at h2
    exact h2
   ·rw[fin j (by omega) (λi hi hij=>by
     have:=h5 i (Ah _) hij;exact Ao.1 λh=>this ⟨hi,h⟩) (λi hi hij=>by
     have hne:=h t[i] (AD hi);rcases Av hij with h6|h6
     ·have:=ek.1 hA j i h3 hi h6;omega
     ·subst h6;omega)]at h2
    exact h2
  ·intro rec i hi;simp only[Q46.l0.step];rw[bM (by omega:(i:Int)<(AB t:Int)),ai hi,av i (by omega)];simp only[cond_true,AA];by_cases hlt:t[i].1<f.1
   ·exact .inl ⟨λ⟨_,h⟩=>h hlt,by rw[decide_eq_true hlt];rfl⟩
   ·exact .inr ⟨⟨hi,hlt⟩,by rw[decide_eq_false hlt];exact fit i (by omega)⟩
  ·intro rec;simp only[Q46.l0.step,bq,cond_false];exact fit t.length (AZ _)
def eN (l:List aV)(f:ag):List aV:=if ∃ x∈l,x.1.1=f.1/\¬ bV f x.1 then l else bP (λx=>x.1.1) (f,4) l
theorem sH {l:List aV}{f:ag}:eN l f=bif l.any (λx=>x.1.1==f.1&&!decide (bV f x.1)) then l else bP (λx=>x.1.1) (f,4) l:=by
 unfold eN;have:(∃ x∈l,x.1.1=f.1/\¬ bV f x.1)<->l.any (λx=>x.1.1==f.1&&!decide (bV f x.1))=true:=by
  rw[List.any_eq_true];simp
 by_cases h:∃ x∈l,x.1.1=f.1/\¬ bV f x.1
 ·rw[if_pos h,this.1 h];rfl
 ·rw[if_neg h,show l.any (λx=>x.1.1==f.1&&!decide (bV f x.1))=false by rw[Bool.eq_false_iff];exact λhh=>h (this.2 hh)];rfl
theorem xW (K:Nat)(l:List aV)(f:ag)(hl:l.length<=1048576)(hA:Asc (λx:aV=>x.1.1) l)(hK:1048577<K):Q47.f K (l,f,())=some ((eN l f,()),()):=by
 have:=rv (step:=λrec a=>Q47.l0.step K (l,f,()) rec a) (λx:aV=>x.1.1) (f,4) l (λx=>x.1.1==f.1&&!decide (bV f x.1)) (some ((l,()),())) (λxs=>some ((xs,()),())) (λacc d i=>(acc,d,(i:Int))) ?_ ?_ l.length 0 K [] false (by omega) (by omega) (by simp) (by simp)
 ·refine Bc (this:Q47.f K (l,f,())=_) ?_;rw[AW,sH,kb hA];cases l.any (λx=>x.1.1==f.1&&!decide (bV f x.1)) <;> rfl
 ·intro rec acc d i hi ha hd;simp only[Q47.l0.step];rw[bM (by omega:(i:Int)<(AB l:Int)),ai hi,av i (by omega)];simp only[cond_true,AA];have z1:decide ((acc.length+[((f,4):ag×Nat)].length)*40<=ah)=true:=szb _ _ _ (by omega) (by simp;omega);have z2:decide (((acc++[((f,4):aV)]).length+[l[i]].length)*40<=ah)=true:=szb _ _ _ (by omega) (by simp;omega);have z3:decide ((acc.length+[l[i]].length)*40<=ah)=true:=szb _ _ _ (by omega) (by simp;omega);by_cases he:l[i].1.1=f.1
  ·rw[show (l[i].1.1==f.1)=true by simpa using he,show (l[i].1.1 != f.1)=false by simpa using he,show decide (f.1<=l[i].1.1)=true from decide_eq_true (by omega)];simp only[cond_true,cond_false,Ap,BO,Bd,AP];rw[show Q29.f K (f,l[i].1,())=_ from oi K f l[i].1];simp only[AA];cases decide (bV f l[i].1) with
   |false=>rfl
   |true =>
    simp only[AJ,cond_false];cases d with
    |true=>simp only[AJ,cond_false,AP]
    |false =>
     simp only[Ae,cond_true];rw[z1];rfl
  ·rw[show (l[i].1.1==f.1)=false by simpa using he,show (l[i].1.1 != f.1)=true by simpa using he];simp only[cond_true,cond_false,A4];cases d with
   |true =>
    simp only[AJ,cond_false,A4,AP,BR];rw[z3];rfl
   |false =>
    simp only[Ae,cond_true,Ap,BN];cases decide (f.1<=l[i].1.1) with
    |true =>
     simp only[cond_true];rw[z1];simp only[cond_true];rw[z2];rfl
    |false =>
     simp only[cond_false,AP];rw[z3];rfl
 ·intro rec acc d ha hd;simp only[Q47.l0.step,bq];cases d with
  |true=>simp only[AJ,cond_false,cond_true,AP]
  |false =>
   have:=hd rfl;have z1:decide ((acc.length+[((f,4):ag×Nat)].length)*40<=ah)=true:=szb _ _ _ (by omega) (by simp;omega);simp only[Ae,cond_true,cond_false];rw[z1];rfl
theorem mP {α:Type}{k:α->Int}{x:α}:∀ {ys:List α},i9 k x true ys=ys.filter (λy=>k y != k x)
 |[]=>rfl
 |y::ys=>by
  simp only[i9,AJ,A4,cond_false,BR,AQ,AY];rw[mP];cases k y != k x <;> rfl
def mkD (now:Int)(f:ag)(b:Int):ce:=(f.1,f.2.1,now,[b])
def cZ (now:Int)(ds:List ce)(f:ag)(b:Int):List ce:=if f.2.2.1=2 then bP (λd=>d.1) (mkD now f b) ds else ds.filter (λd=>!(d.1==f.1))
theorem xX (K:Nat)(n:aa)(f:ag)(b:Int)(hl:(aa.doubts n).length<=1048576)(hA:Asc (λd:ce=>d.1) (aa.doubts n))(hK:1048577<K) :
  Q48.f K (n,f,b,())=some ((cZ n.2.2.2.2.2.1 (aa.doubts n) f b,()),()):=by
 have:=rv (step:=λrec a=>Q48.l0.step K (n,f,b,()) rec a) (λd:ce=>d.1) (mkD n.2.2.2.2.2.1 f b) (aa.doubts n) (λ_=>false) none (λxs=>some ((xs,()),())) (λacc d i=>(acc,d,(i:Int))) ?_ ?_ (aa.doubts n).length 0 K [] (f.2.2.1 != 2) (by omega) (by omega) (by simp) (by simp)
 ·refine Bc (this:Q48.f K (n,f,b,())=_) ?_;rw[AW,show (aa.doubts n).any (λ_=>false)=false by simp,cZ];by_cases h2:f.2.2.1=2
  ·rw[if_pos h2,show (f.2.2.1 != 2)=false by simpa using h2,kb hA];rfl
  ·rw[if_neg h2,show (f.2.2.1 != 2)=true by simpa using h2,mP];rfl
 ·intro rec acc d i hi ha hd;simp only[Q48.l0.step];rw[bM (by omega:(i:Int)<(AB (aa.doubts n):Int)),ai hi,av i (by omega)];simp only[cond_true,cond_false,AA];have z1:decide ((acc.length+[mkD n.2.2.2.2.2.1 f b].length)*48<=ah)=true:=szb _ _ _ (by omega) (by simp;omega);have z2:decide (((acc++[mkD n.2.2.2.2.2.1 f b]).length+[(aa.doubts n)[i]].length)*48<=ah)=true:=szb _ _ _ (by omega) (by simp;omega);have z3:decide ((acc.length+[(aa.doubts n)[i]].length)*48<=ah)=true:=szb _ _ _ (by omega) (by simp;omega);show (bif !d then (bif decide (f.1<=(aa.doubts n)[i].1) then (bif decide ((acc.length+[mkD n.2.2.2.2.2.1 f b].length)*48<=ah) then (bif (aa.doubts n)[i].1 != f.1 then (bif decide (((acc++[mkD n.2.2.2.2.2.1 f b]).length+[(aa.doubts n)[i]].length)*48<=ah) then (rec ((acc++[mkD n.2.2.2.2.2.1 f b])++[(aa.doubts n)[i]],true,((i+1:Nat):Int))) else none) else (rec (acc++[mkD n.2.2.2.2.2.1 f b],true,((i+1:Nat):Int)))) else none) else (bif (aa.doubts n)[i].1 != f.1 then (bif decide ((acc.length+[(aa.doubts n)[i]].length)*48<=ah) then (rec (acc++[(aa.doubts n)[i]],d,((i+1:Nat):Int))) else none) else (rec (acc,d,((i+1:Nat):Int))))) else (bif (aa.doubts n)[i].1 != f.1 then (bif decide ((acc.length+[(aa.doubts n)[i]].length)*48<=ah) then (rec (acc++[(aa.doubts n)[i]],d,((i+1:Nat):Int))) else none) else (rec (acc,d,((i+1:Nat):Int)))))=rec ((acc++(bif !d&&decide (f.1<=(aa.doubts n)[i].1) then [mkD n.2.2.2.2.2.1 f b] else []))++(bif (aa.doubts n)[i].1 != f.1 then [(aa.doubts n)[i]] else []),d||decide (f.1<=(aa.doubts n)[i].1),((i+1:Nat):Int));rw[z1,z2,z3];cases d <;> cases decide (f.1<=(aa.doubts n)[i].1) <;> cases (aa.doubts n)[i].1 != f.1 <;> simp only[AJ,Ae,Ap,A4,BR,BN,cond_true,cond_false,AP]
 ·intro rec acc d ha hd;simp only[Q48.l0.step,bq];cases d with
  |true=>simp only[AJ,cond_false,cond_true,AP]
  |false =>
   have:=hd rfl;have z1:decide ((acc.length+[mkD n.2.2.2.2.2.1 f b].length)*48<=ah)=true:=szb _ _ _ (by omega) (by simp;omega);show (bif decide ((acc.length+[mkD n.2.2.2.2.2.1 f b].length)*48<=ah) then some ((acc++[mkD n.2.2.2.2.2.1 f b],()),()) else none)=some ((acc++[mkD n.2.2.2.2.2.1 f b],()),());rw[z1];rfl
def ip (n:aa)(t:List ag)(c:List aV)(ds:List ce):aa :=
 (n.1,n.2.1,n.2.2.1,n.2.2.2.1,n.2.2.2.2.1,n.2.2.2.2.2.1,n.2.2.2.2.2.2.1,n.2.2.2.2.2.2.2.1,t,c,n.2.2.2.2.2.2.2.2.2.2.1,ds,n.2.2.2.2.2.2.2.2.2.2.2.2)
def jO (n:aa)(f:ag):Bool:=decide (∃ g∈aa.table n,g.1=f.1/\g.2.1=f.2.1/\g.2.2.1=f.2.2.1)
def sayOf (n:aa)(f:ag)(b:Int):aa :=
 bif (b8 (aa.table n) f).2 then ip n (b8 (aa.table n) f).1 (eN (aa.cast n) f) (bif jO n f then aa.doubts n else cZ n.2.2.2.2.2.1 (aa.doubts n) f b) else n
structure cL (n:aa):Prop where
 table:aA (aa.table n)
 cast:cY (aa.cast n)
 asc:Asc (λd:ce=>d.1) (aa.doubts n)
 inp:∀ d∈aa.doubts n,InP d.1 0 7
 lt:(aa.table n).length<=1048576
 lc:(aa.cast n).length<=1048576
 ld:(aa.doubts n).length<=1048576
theorem wL {n:aa}{f g:ag}(hT:Asc (λg:ag=>g.1) (aa.table n))(hg:g∈aa.table n)(e:g.1=f.1):jO n f=(g.2.1==f.2.1&&g.2.2.1==f.2.2.1):=by
 rw[Aw,jO,decide_eq_true_eq,Ai,beq_iff_eq,beq_iff_eq];constructor
 ·rintro⟨x,hx,h1,h2,h3⟩;have:=gh hT hx hg (by rw[h1,e]);subst this;exact⟨h2,h3⟩
 ·rintro⟨h1,h2⟩;exact⟨g,hg,e,h1,h2⟩
theorem wM {n:aa}{f:ag}(h:∀ g∈aa.table n,g.1≠f.1):jO n f=false :=
 decide_eq_false λ⟨g,hg,e,_⟩=>h g hg e
theorem oj (K:Nat)(n:aa)(f:ag)(b:Int)(h:cL n)(hK:1048577<K):Q81.f K (n,f,b,())=some ((sayOf n f b,()),()):=by
 simp only[Q81.f];rw[show Q46.f K (n.2.2.2.2.2.2.2.2.1,f,())=_ from put_s K (aa.table n) f h.lt h.table.2 hK];simp only[AA];cases hp:(b8 (aa.table n) f).2 with
 |false =>
  simp only[sayOf,hp];rfl
 |true =>
  simp only[sayOf,hp,AJ,cond_false,cond_true];obtain⟨o,ho,h1⟩:=ew K (aa.table n) f.1 h.lt hK;rw[show Q45.f K (n.2.2.2.2.2.2.2.2.1,f.1,())=_ from h1];simp only[AA];have hd:=xX K (n.1,n.2.1,n.2.2.1,n.2.2.2.1,n.2.2.2.2.1,n.2.2.2.2.2.1,n.2.2.2.2.2.2.1,n.2.2.2.2.2.2.2.1,(b8 (aa.table n) f).1,eN (aa.cast n) f,n.2.2.2.2.2.2.2.2.2.2) f b h.ld h.asc hK;have hc:=xW K (aa.cast n) f h.lc h.cast.2 hK;cases ho with
  |at_ i hi e =>
   simp only;rw[wL h.table.2 (AD hi) e,decide_eq_true (by omega:((i:Nat):Int)>=0)];simp only[cond_true];rw[show idx n.2.2.2.2.2.2.2.2.1 (i:Int)=some (aa.table n)[i] from ai hi];simp only[AA];rw[show Q47.f K (n.2.2.2.2.2.2.2.2.2.1,f,())=_ from hc];simp only[AA];rw[hd];cases (aa.table n)[i].2.1==f.2.1 with
   |true =>
    cases (aa.table n)[i].2.2.1==f.2.2.1 <;> rfl
   |false=>rfl
  |no hno =>
   simp only;rw[wM hno,decide_eq_false (by omega:¬ (-1:Int)>=0)];simp only[cond_false];rw[show Q47.f K (n.2.2.2.2.2.2.2.2.2.1,f,())=_ from hc];simp only[AA];rw[hd];rfl
theorem ol {α:Type}{k:α->Int}{xs:List α}(h:Asc k xs)(p:α->Bool):Asc k (xs.filter p):=A5 p h
theorem gZ {α:Type}{k:α->Int}{xs:List α}(h:Asc k xs)(h7:∀ x∈xs,InP (k x) 0 7):xs.length<=8:=by
 have:=(il (xs.map k) [0,1,2,3,4,5,6,7] (by unfold Asc at h;rw[Ak];exact h) (by decide) (λy hy=>by
  obtain⟨x,hx,rfl⟩:=AR.1 hy;obtain⟨h1,h2⟩:=h7 x hx;simp only[A9,List.not_mem_nil,or_false];omega)).1
 rw[AX]at this;exact this
theorem gl (t:List ag)(f:ag):(b8 t f).1=t\/(b8 t f).1=bP (λg=>g.1) f t:=by
 unfold b8;split
 ·split
  ·exact .inr rfl
  ·exact .inl rfl
 ·exact .inr rfl
theorem js {t:List ag}{f:ag}(h:aA t)(hf:bH f):aA (b8 t f).1:=by
 rcases gl t f with e|e
 ·rw[e];exact h
 ·rw[e];refine⟨λg hg=>?_,eD h.2⟩;rcases aY.1 hg with rfl|⟨h1,_⟩
  ·exact hf
  ·exact h.1 g h1
theorem om {l:List aV}{f:ag}(h:cY l)(hf:bH f):cY (eN l f):=by
 unfold eN;split
 ·exact h
 ·refine⟨λx hx=>?_,eD h.2⟩;rcases aY.1 hx with rfl|⟨h1,_⟩
  ·exact⟨hf,show (1:Int)<=4 by omega,show (4:Int)<=4 by omega⟩
  ·exact h.1 x h1
theorem lO {now:Int}{ds:List ce}{f:ag}{b:Int}{d:ce}(h:d∈cZ now ds f b):d=mkD now f b\/d∈ds:=by
 unfold cZ at h;split at h
 ·rcases aY.1 h with h|h
  ·exact .inl h
  ·exact .inr h.1
 ·exact .inr (AF.1 h).1
theorem rz {now:Int}{ds:List ce}{f:ag}{b:Int}(h:Asc (λd:ce=>d.1) ds):Asc (λd:ce=>d.1) (cZ now ds f b):=by
 unfold cZ;split
 ·exact eD h
 ·exact ol h _
theorem iI (n:aa)(f:ag)(b:Int):∃ t c ds,sayOf n f b=ip n t c ds/\(t=aa.table n\/t=(b8 (aa.table n) f).1)/\(c=aa.cast n\/c=eN (aa.cast n) f)/\(ds=aa.doubts n\/ds=cZ n.2.2.2.2.2.1 (aa.doubts n) f b):=by
 unfold sayOf;cases (b8 (aa.table n) f).2 with
 |false=>exact⟨aa.table n,aa.cast n,aa.doubts n,rfl,.inl rfl,.inl rfl,.inl rfl⟩
 |true =>
  cases jO n f with
  |true=>exact⟨_,_,_,rfl,.inr rfl,.inr rfl,.inl rfl⟩
  |false=>exact⟨_,_,_,rfl,.inr rfl,.inr rfl,.inr rfl⟩
theorem cL.mk' {n:aa}(ht:aA (aa.table n))(hc:cY (aa.cast n))(ha:Asc (λd:ce=>d.1) (aa.doubts n))(h7:∀ d∈aa.doubts n,InP d.1 0 7):cL n where
 table:=ht
 cast:=hc
 asc:=ha
 inp:=h7
 lt:=Al (gZ ht.2 (λg hg=>(ht.1 g hg).1)) (by decide)
 lc:=Al (gZ hc.2 (λx hx=>(hc.1 x hx).1.1)) (by decide)
 ld:=Al (gZ ha h7) (by decide)
theorem jt {n:aa}{f:ag}{b:Int}(h:cL n)(hf:bH f):cL (sayOf n f b):=by
 obtain⟨t,c,ds,e,h1,h2,h3⟩:=iI n f b;rw[e];refine cL.mk' ?_ ?_ ?_ ?_
 ·show aA t;rcases h1 with rfl|rfl
  ·exact h.table
  ·exact js h.table hf
 ·show cY c;rcases h2 with rfl|rfl
  ·exact h.cast
  ·exact om h.cast hf
 ·show Asc _ ds;rcases h3 with rfl|rfl
  ·exact h.asc
  ·exact rz h.asc
 ·show ∀ d∈ds,InP d.1 0 7;rcases h3 with rfl|rfl
  ·exact h.inp
  ·intro d hd;rcases lO hd with rfl|hd
   ·exact hf.1
   ·exact h.inp d hd
theorem UpP.say {n:aa}(h:UpP n):cL n:=by
 obtain⟨h1,_,_,⟨h4,_⟩,_,h6,_⟩:=h;refine cL.mk' h1 h4 h6.2.1 λd hd=>?_
 obtain⟨f,hf,e,_⟩:=(h6.1 d hd).1;rw[<- e];exact (h1.1 f hf).1
theorem pg {α β A R:Type}(t:List α)(p:α->Bool)(g:α->β)(S:List β->Nat->A)(fin:List β->Option R){step:(A->Option R)->A->Option R}
  (h:∀ (rec:A->Option R) (acc:List β) (i:Nat) (hi:i<t.length),acc.length<=i->step rec (S acc i)=rec (S (bif p t[i] then acc++[g t[i]] else acc) (i+1)))
  (hend:∀ (rec:A->Option R) (acc:List β),acc.length<=t.length->step rec (S acc t.length)=fin acc) {k:Nat} (hk:t.length<k) :
  ae step k (S [] 0)=fin ((t.filter p).map g):=by
 have:∀ (d i k:Nat) (acc:List β),i+d=t.length->d<k->acc.length<=i->ae step k (S acc i)=fin (acc++((t.drop i).filter p).map g):=by
  intro d;induction d with
  |zero =>
   intro i k acc hi hk ha;obtain⟨k,rfl⟩:∃ k',k=k'+1:=⟨k-1,by omega⟩;have:i=t.length:=by omega
   subst this;show step (ae step k) _=_;rw[hend _ _ ha];simp
  |succ d ih =>
   intro i k acc hi hk ha;obtain⟨k,rfl⟩:∃ k',k=k'+1:=⟨k-1,by omega⟩;have hlt:i<t.length:=by omega
   show step (ae step k) _=_;rw[h _ _ _ hlt ha,AL hlt,AY];cases p t[i] with
   |true =>
    simp only[cond_true,if_true,BZ];rw[ih (i+1) k _ (by omega) (by omega) (by simp;omega),A1];rfl
   |false =>
    simp only[cond_false];rw[ih (i+1) k _ (by omega) (by omega) (by omega)];rfl
 have:=this t.length 0 k [] (by omega) hk (AZ _)
 rwa [AW,AQ]at this
theorem szw (a b c:Nat)(hc:c<=128)(h:a+b<=2097152):decide ((a+b)*c<=ah)=true:=by
 have:=Au h hc;exact decide_eq_true (by unfold ah;omega)
def jP (n:aa):aa:=(n.1,n.2.1,true,n.2.2.2)
def oo (kind:Int)(n:aa)(to:Int):au:=(1,kind,n.1,to,0,n.1,aa.coord n,aa.table n)
theorem mC (K:Nat)(n:aa)(kind to:Int)(hn:(aa.table n).length<=1048576):Q44.f K (n,kind,to,0,n.1,aa.table n,())=some ((oo kind n to,()),()):=by
 simp only[Q44.f];rw[szb _ _ _ (by omega) (by show (AB ([]:List ag))+(aa.table n).length<=_;simp;omega)];rfl
def dY (f:ag):Bool:=f.2.2.1==1||f.2.2.1==2
theorem tk (K:Nat)(t:List ag)(f:ag)(hT:aA t)(ht:t.length<=1048576)(hf:f∈t)(hK:1048577<K):Q83.f K (t,f.1,())=rb (dY f):=by
 simp only[Q83.f];obtain⟨o,ho,h1⟩:=ew K t f.1 ht hK;rw[h1];simp only[AA];cases ho with
 |at_ i hi e =>
  simp only;rw[decide_eq_true (by omega:((i:Nat):Int)>=0),ai hi];simp only[cond_true,AA];rw[gh hT.2 (AD hi) hf e,dY];cases f.2.2.1==1 <;> rfl
 |no h=>exact absurd rfl (h f hf)
def rA (n:aa)(f:ag):Bool:=f.1 != n.1&&dY f
def kC (n:aa):List au:=((aa.table n).filter (rA n)).map λf=>oo 5 n f.1
def lP (n:aa):aa:=jP (sayOf n (n.1,n.2.2.2.2.1,4,n.2.2.2.1) n.1)
theorem rB (K:Nat)(x:ab Q99.ps)(m:aa)(hT:aA (aa.table m))(ht:(aa.table m).length<=1048576)(hK:1048577<K) :
  Q99.l0 K x ([],0,m.1,m.2.1,m.2.2.2.1,m.2.2.2.2.1,m.2.2.2.2.2.1,m.2.2.2.2.2.2.1,m.2.2.2.2.2.2.2.1,m.2.2.2.2.2.2.2.2.1,m.2.2.2.2.2.2.2.2.2.1,m.2.2.2.2.2.2.2.2.2.2.1.1,m.2.2.2.2.2.2.2.2.2.2.1.2.1,m.2.2.2.2.2.2.2.2.2.2.1.2.2.1,m.2.2.2.2.2.2.2.2.2.2.1.2.2.2,m.2.2.2.2.2.2.2.2.2.2.2.1,m.2.2.2.2.2.2.2.2.2.2.2.2.1.1,m.2.2.2.2.2.2.2.2.2.2.2.2.1.2.1,m.2.2.2.2.2.2.2.2.2.2.2.2.1.2.2.1,m.2.2.2.2.2.2.2.2.2.2.2.2.1.2.2.2,m.2.2.2.2.2.2.2.2.2.2.2.2.2.1,m.2.2.2.2.2.2.2.2.2.2.2.2.2.2)=some ((jP m,kC (jP m),()),()):=by
 refine pg (step:=λrec a=>Q99.l0.step K x rec a) (aa.table m) (rA (jP m)) (λf=>oo 5 (jP m) f.1) (λacc i=>(acc,(i:Int),m.1,m.2.1,m.2.2.2.1,m.2.2.2.2.1,m.2.2.2.2.2.1,m.2.2.2.2.2.2.1,m.2.2.2.2.2.2.2.1,m.2.2.2.2.2.2.2.2.1,m.2.2.2.2.2.2.2.2.2.1,m.2.2.2.2.2.2.2.2.2.2.1.1,m.2.2.2.2.2.2.2.2.2.2.1.2.1,m.2.2.2.2.2.2.2.2.2.2.1.2.2.1,m.2.2.2.2.2.2.2.2.2.2.1.2.2.2,m.2.2.2.2.2.2.2.2.2.2.2.1,m.2.2.2.2.2.2.2.2.2.2.2.2.1.1,m.2.2.2.2.2.2.2.2.2.2.2.2.1.2.1,m.2.2.2.2.2.2.2.2.2.2.2.2.1.2.2.1,m.2.2.2.2.2.2.2.2.2.2.2.2.1.2.2.2,m.2.2.2.2.2.2.2.2.2.2.2.2.2.1,m.2.2.2.2.2.2.2.2.2.2.2.2.2.2)) (λws=>some ((jP m,ws,()),())) ?_ ?_ (by omega)
 ·intro rec acc i hi ha;simp only[Q99.l0.step];rw[show decide ((i:Int)<(AB m.2.2.2.2.2.2.2.2.1:Int))=true from bM (by omega:(i:Int)<(AB (aa.table m):Int)),show idx m.2.2.2.2.2.2.2.2.1 (i:Int)=some (aa.table m)[i] from ai hi,av i (by omega)];simp only[cond_true,AA,rA];rw[show (jP m).1=m.1 from rfl];cases hb:(aa.table m)[i].1 != m.1 with
  |false=>rfl
  |true =>
   simp only[cond_true,Ap];rw[show Q83.f K (m.2.2.2.2.2.2.2.2.1,(aa.table m)[i].1,())=_ from tk K (aa.table m) _ hT ht (AD hi) hK];simp only[AA];cases dY (aa.table m)[i] with
   |false=>rfl
   |true =>
    simp only[cond_true];refine (congrArg (λo=>AG o _) (mC K (jP m) 5 (aa.table m)[i].1 ht)).trans ?_;simp only[AA];rw[szw _ _ _ (by omega) (by simp;omega)];rfl
 ·intro rec acc ha;simp only[Q99.l0.step];rw[show decide ((AB (aa.table m):Int)<(AB m.2.2.2.2.2.2.2.2.1:Int))=false from bq _];rfl
theorem ub {n:aa}(hP:e8 n):bH (n.1,n.2.2.2.2.1,4,n.2.2.2.1):=⟨hP.1,hP.2.2.2.2.1,show (1:Int)<=4 by omega,show (4:Int)<=4 by omega⟩
theorem xY (K:Nat)(n:aa)(hn:NB n)(hP:e8 n)(hu:n.2.1=true)(hg:n.2.2.1=false)(hK:1048577<K):Q99.f K (n,())=some ((lP n,kC (lP n),()),()):=by
 have hs:=(hP.up hu).say;have h1:=jt (b:=n.1) hs (ub hP);simp only[Q99.f,Q99.pre];rw[hu,hg];simp only[AJ,cond_false];rw[oj K n _ n.1 hs hK];exact rB K _ _ h1.table h1.lt hK
theorem lQ {α σ A R:Type}(ds:List α)(st:σ->α->σ)(Inv:σ->Prop)(S:σ->Nat->A)(fin:σ->Option R){step:(A->Option R)->A->Option R}(n:σ)(h0:Inv n)
  (h:∀ (rec:A->Option R) (m:σ) (i:Nat) (hi:i<ds.length),Inv m->step rec (S m i)=rec (S (st m ds[i]) (i+1))/\Inv (st m ds[i]))
  (hend:∀ (rec:A->Option R) (m:σ),Inv m->step rec (S m ds.length)=fin m) {k:Nat} (hk:ds.length<k):ae step k (S n 0)=fin (ds.foldl st n):=by
 have:∀ (d i k:Nat) (m:σ),i+d=ds.length->d<k->Inv m->ae step k (S m i)=fin ((ds.drop i).foldl st m):=by
  intro d;induction d with
  |zero =>
   intro i k m hi hk hm;obtain⟨k,rfl⟩:∃ k',k=k'+1:=⟨k-1,by omega⟩;have:i=ds.length:=by omega
   subst this;show step (ae step k) _=_;rw[hend _ _ hm,BF];rfl
  |succ d ih =>
   intro i k m hi hk hm;obtain⟨k,rfl⟩:∃ k',k=k'+1:=⟨k-1,by omega⟩;have hlt:i<ds.length:=by omega
   show step (ae step k) _=_;obtain⟨h1,h2⟩:=h (ae step k) m i hlt hm;rw[h1,AL hlt];exact ih (i+1) k _ (by omega) (by omega) h2
 have:=this ds.length 0 k n (by omega) hk h0
 rwa [AW]at this
theorem kZ {α σ:Type}{st:σ->α->σ}{Inv:σ->Prop}:∀ {ds:List α} {n:σ},Inv n->(∀ m,∀ d∈ds,Inv m->Inv (st m d))->Inv (ds.foldl st n)
 |[],_,h,_=>h
 |d::ds,n,h,hs=>kZ (ds:=ds) (hs n d (by simp) h) (λm d' hd'=>hs m d' (by simp[hd']))
def aW (t:List ag)(node:Int):ag:=(t.find? λg=>g.1==node).getD (0,0,0,false)
theorem jQ {t:List ag}(hA:Asc (λg:ag=>g.1) t){f:ag}(hf:f∈t):aW t f.1=f:=by
 obtain⟨i,hi,e⟩:=AK hf;unfold aW;rw[show t.find? (λg=>g.1==f.1)=some t[i] from nD hA hi (by rw[e]),e];rfl
theorem jR {t:List ag}{node:Int}(h:∀ g∈t,g.1≠node):aW t node=(0,0,0,false):=by
 unfold aW;rw[show t.find? (λg=>g.1==node)=none from mB h];rfl
theorem rC (K:Nat)(t:List ag)(node:Int)(hT:aA t)(ht:t.length<=1048576)(hK:1048577<K):Q83.f K (t,node,())=rb (dY (aW t node)):=by
 by_cases h:∃ f∈t,f.1=node
 ·obtain⟨f,hf,rfl⟩:=h;rw[tk K t f hT ht hf hK,jQ hT.2 hf]
 ·have h0:∀ g∈t,g.1≠node:=λg hg e=>h ⟨g,hg,e⟩
  simp only[Q83.f];obtain⟨o,ho,h1⟩:=ew K t node ht hK;rw[h1,jR h0];cases ho with
  |at_ i hi e=>exact absurd e (h0 _ (AD hi))
  |no _=>rfl
theorem ju (n:aa)(f:ag)(b:Int):(sayOf n f b).1=n.1/\(sayOf n f b).2.1=n.2.1/\(sayOf n f b).2.2.1=n.2.2.1/\(sayOf n f b).2.2.2.1=n.2.2.2.1/\(sayOf n f b).2.2.2.2.1=n.2.2.2.2.1/\(sayOf n f b).2.2.2.2.2.1=n.2.2.2.2.2.1/\(sayOf n f b).2.2.2.2.2.2.1=n.2.2.2.2.2.2.1/\(sayOf n f b).2.2.2.2.2.2.2.1=n.2.2.2.2.2.2.2.1/\aa.probe (sayOf n f b)=aa.probe n/\(sayOf n f b).2.2.2.2.2.2.2.2.2.2.2.2=n.2.2.2.2.2.2.2.2.2.2.2.2:=by
 obtain⟨t,c,ds,e,_⟩:=iI n f b;rw[e];exact⟨rfl,rfl,rfl,rfl,rfl,rfl,rfl,rfl,rfl,rfl⟩
theorem lR {t:List ag}{f g:ag}(hg:g∈t):∃ g'∈(b8 t f).1,g'.1=g.1:=by
 rcases gl t f with e|e
 ·rw[e];exact⟨g,hg,rfl⟩
 ·rw[e];by_cases h:g.1=f.1
  ·exact⟨f,aY.2 (.inl rfl),h.symm⟩
  ·exact⟨g,aY.2 (.inr ⟨hg,h⟩),rfl⟩
theorem iJ {n:aa}{f:ag}{b:Int}{g:ag}(hg:g∈aa.table n):∃ g'∈aa.table (sayOf n f b),g'.1=g.1:=by
 obtain⟨t,c,ds,e,h1,_⟩:=iI n f b;rw[e];rcases h1 with rfl|rfl
 ·exact⟨g,hg,rfl⟩
 ·exact lR hg
def ph (now since:Int)(len:Nat):Bool:=decide (now-since>=if 6-(len:Int)+1<3 then 3 else 6-(len:Int)+1)
def jS (f:ag):ag:=(f.1,f.2.1,3,f.2.2.2)
def gB (n:aa)(d:ce):aa:=bif ph n.2.2.2.2.2.1 d.2.2.1 d.2.2.2.length then sayOf n (jS (aW (aa.table n) d.1)) n.1 else n
def jv (n:aa):aa:=(aa.doubts n).foldl gB n
theorem due_s (K:Nat)(now:Int)(d:ce)(h0:0<=d.2.2.1)(h1:d.2.2.1<=now)(h2:now<=1000000)(hl:d.2.2.2.length<=1048576):Q80.f K (now,d,())=rb (ph now d.2.2.1 d.2.2.2.length):=by
 simp only[Q80.f];rw[aL (n:=6-(AB d.2.2.2:Int)) (by omega) (by omega),aL (n:=6-(AB d.2.2.2:Int)+1) (by omega) (by omega),aL (n:=now-d.2.2.1) (by omega) (by omega)];unfold ph;by_cases h:6-(AB d.2.2.2:Int)+1<3
 ·rw[decide_eq_true h,if_pos h];rfl
 ·rw[decide_eq_false h,if_neg h];rfl
structure ou (ds:List ce) (now:Int) (n:aa):Prop where
 ok:cL n
 key:∀ d∈ds,∃ f∈aa.table n,f.1=d.1
 now_:n.2.2.2.2.2.1=now
theorem tm {f:ag}(h:bH f):bH (jS f):=⟨h.1,h.2.1,show (1:Int)<=3 by omega,show (3:Int)<=4 by omega⟩
theorem ey {t:List ag}{node:Int}(hT:aA t)(h:∃ f∈t,f.1=node):bH (aW t node)/\(aW t node).1=node/\aW t node∈t:=by
 obtain⟨f,hf,rfl⟩:=h;rw[jQ hT.2 hf];exact⟨hT.1 f hf,rfl,hf⟩
theorem sI {ds:List ce}{now:Int}{n:aa}{d:ce}(h:ou ds now n)(hd:d∈ds):ou ds now (gB n d):=by
 unfold gB;cases ph n.2.2.2.2.2.1 d.2.2.1 d.2.2.2.length with
 |false=>exact h
 |true =>
  have hf:=tm (ey h.ok.table (h.key d hd)).1;refine⟨jt h.ok hf,λd' hd'=>?_,(ju n _ _).2.2.2.2.2.1.trans h.now_⟩;obtain⟨g,hg,e⟩:=h.key d' hd';obtain⟨g',hg',e'⟩:=iJ (f:=jS (aW (aa.table n) d.1)) (b:=n.1) hg;exact⟨g',hg',e'.trans e⟩
theorem yW (K:Nat)(n:aa)(h:ou (aa.doubts n) n.2.2.2.2.2.1 n)(hd:∀ d∈aa.doubts n,0<=d.2.2.1/\d.2.2.1<=n.2.2.2.2.2.1/\d.2.2.2.length<=1048576)(hnow:n.2.2.2.2.2.1<=1000000)(hK:1048577<K):Q82.f K (n,())=some ((jv n,()),()):=by
 have hl:=h.ok.ld;refine lQ (step:=λrec a=>Q82.l0.step K (n,()) rec a) (aa.doubts n) gB (ou (aa.doubts n) n.2.2.2.2.2.1) (λm i=>((i:Int),m.1,m.2.1,m.2.2.1,m.2.2.2.1,m.2.2.2.2.1,m.2.2.2.2.2.1,m.2.2.2.2.2.2.1,m.2.2.2.2.2.2.2.1,m.2.2.2.2.2.2.2.2.1,m.2.2.2.2.2.2.2.2.2.1,m.2.2.2.2.2.2.2.2.2.2.1.1,m.2.2.2.2.2.2.2.2.2.2.1.2.1,m.2.2.2.2.2.2.2.2.2.2.1.2.2.1,m.2.2.2.2.2.2.2.2.2.2.1.2.2.2,m.2.2.2.2.2.2.2.2.2.2.2.1,m.2.2.2.2.2.2.2.2.2.2.2.2.1.1,m.2.2.2.2.2.2.2.2.2.2.2.2.1.2.1,m.2.2.2.2.2.2.2.2.2.2.2.2.1.2.2.1,m.2.2.2.2.2.2.2.2.2.2.2.2.1.2.2.2,m.2.2.2.2.2.2.2.2.2.2.2.2.2.1,m.2.2.2.2.2.2.2.2.2.2.2.2.2.2)) (λm=>some ((m,()),())) n h ?_ ?_ (by omega)
 ·intro rec m i hi hm;refine⟨?_,sI hm (AD hi)⟩;simp only[Q82.l0.step];obtain⟨d0,d1,d2⟩:=hd _ (AD hi);rw[show decide ((i:Int)<(AB n.2.2.2.2.2.2.2.2.2.2.2.1:Int))=true from bM (by omega:(i:Int)<(AB (aa.doubts n):Int)),show idx n.2.2.2.2.2.2.2.2.2.2.2.1 (i:Int)=some (aa.doubts n)[i] from ai hi,av i (by omega)];simp only[cond_true,AA];rw[due_s K m.2.2.2.2.2.1 (aa.doubts n)[i] d0 (by rw[hm.now_];exact d1) (by rw[hm.now_];exact hnow) d2];simp only[AA];have hkey:=hm.key _ (AD hi);generalize (aa.doubts n)[i]=d at hkey d0 d1 d2 ⊢;unfold gB;cases ph m.2.2.2.2.2.1 d.2.2.1 d.2.2.2.length with
  |false=>rfl
  |true =>
   simp only[cond_true];have hft:=ey hm.ok.table hkey;obtain⟨o,ho,h1⟩:=ew K (aa.table m) d.1 hm.ok.lt hK;rw[show Q45.f K (m.2.2.2.2.2.2.2.2.1,d.1,())=_ from h1];simp only[AA];cases ho with
   |no h=>exact absurd hkey (λ⟨f,hf,e⟩=>h f hf e)
   |at_ j hj e =>
    simp only;rw[show idx m.2.2.2.2.2.2.2.2.1 ((j:Nat):Int)=some (aa.table m)[j] from ai hj,gh hm.ok.table.2 (AD hj) hft.2.2 (by rw[e,hft.2.1])];simp only[AA];refine (congrArg (λo=>AG o _) (oj K m (jS (aW (aa.table m) d.1)) m.1 hm.ok hK)).trans ?_;rfl
 ·intro rec m hm;simp only[Q82.l0.step];rw[show decide ((AB (aa.doubts n):Int)<(AB n.2.2.2.2.2.2.2.2.2.2.2.1:Int))=false from bq _];rfl
def setP (n:aa)(p:ag):aa:=(n.1,n.2.1,n.2.2.1,n.2.2.2.1,n.2.2.2.2.1,n.2.2.2.2.2.1,n.2.2.2.2.2.2.1,n.2.2.2.2.2.2.2.1,n.2.2.2.2.2.2.2.2.1,n.2.2.2.2.2.2.2.2.2.1,p,n.2.2.2.2.2.2.2.2.2.2.2)
def noP:ag:=(-1,0,0,false)
def ov (f:ag):ag:=(f.1,f.2.1,2,f.2.2.2)
def uc (n:aa)(f:ag):Bool:=f.2.2.1==1&&f.1 != n.1&&f.1 != (aa.probe n).1
def eV (n:aa):List Int:=(((aa.table n).filter (uc n)).map (·.1)).take 2
def askW (n:aa)(to:Int):au:=(1,3,n.1,to,(aa.probe n).2.2.1,(aa.probe n).1,aa.coord n,[])
def kD (n:aa):aa:=setP n ((aa.probe n).1,(aa.probe n).2.1,(aa.probe n).2.2.1,true)
def c5 (n:aa):aa×List au :=
 bif (aa.probe n).1==-1 then (n,[]) else
 bif !dY (aW (aa.table n) (aa.probe n).1) then (setP n noP,[]) else
 bif decide (n.2.2.2.2.2.1-(aa.probe n).2.1>=4) then (bif (aW (aa.table n) (aa.probe n).1).2.2.1==1 then sayOf (setP n noP) (ov (aW (aa.table n) (aa.probe n).1)) n.1 else setP n noP,[]) else
 bif decide (n.2.2.2.2.2.1-(aa.probe n).2.1>=2) then (bif !(aa.probe n).2.2.2 then (kD n,(eV n).map (askW n)) else (n,[])) else (n,[])
theorem cL.setP {n:aa}(h:cL n)(p:ag):cL (setP n p):=⟨h.table,h.cast,h.asc,h.inp,h.lt,h.lc,h.ld⟩
theorem xZ {f:ag}(h:bH f):bH (ov f):=⟨h.1,h.2.1,show (1:Int)<=2 by omega,show (2:Int)<=4 by omega⟩
theorem gm {t:List ag}{node:Int}(h:dY (aW t node)=true):∃ f∈t,f.1=node:=by
 by_cases h1:∃ f∈t,f.1=node
 ·exact h1
 ·rw[jR (λg hg e=>h1 ⟨g,hg,e⟩)]at h;simp[dY]at h
theorem vk (K:Nat)(n:aa)(ht:(aa.table n).length<=1048576)(hK:1048577<K):Q84.f K (n,())=some ((eV n,()),()):=by
 have:=ka (step:=λrec a=>Q84.l0.step K (n,()) rec a) (aa.table n) (uc n) (λf=>f.1) 2 (λxs=>some ((xs,()),())) ?_ ?_ ?_ (aa.table n).length 0 K [] (by omega) (by omega) (AZ _) (by simp)
 ·exact this
 ·intro rec acc i hi ha hn;simp only[Q84.l0.step];rw[show decide ((i:Int)<(AB n.2.2.2.2.2.2.2.2.1:Int))=true from bM (by omega:(i:Int)<(AB (aa.table n):Int)),show idx n.2.2.2.2.2.2.2.2.1 (i:Int)=some (aa.table n)[i] from ai hi,av i (by omega),decide_eq_true (by omega:(AB acc:Int)<2)];simp only[cond_true,AA,uc];show (bif (aa.table n)[i].1 != n.1 then (bif (aa.table n)[i].1 != (aa.probe n).1 then (bif (aa.table n)[i].2.2.1==1 then (bif decide ((AB acc+AB ([(aa.table n)[i].1]))*8<=ah) then (rec (acc++([(aa.table n)[i].1]),((i+1:Nat):Int))) else none) else (rec (acc,((i+1:Nat):Int)))) else (rec (acc,((i+1:Nat):Int)))) else (rec (acc,((i+1:Nat):Int))))=_;rw[szb _ _ _ (by omega) (by simp;omega)];cases (aa.table n)[i].1 != n.1 <;> cases (aa.table n)[i].1 != (aa.probe n).1 <;> cases (aa.table n)[i].2.2.1==1 <;> rfl
 ·intro rec acc i hi ha hn;simp only[Q84.l0.step];rw[show decide ((i:Int)<(AB n.2.2.2.2.2.2.2.2.1:Int))=true from bM (by omega:(i:Int)<(AB (aa.table n):Int)),decide_eq_false (by omega:¬ (AB acc:Int)<2)];rfl
 ·intro rec acc _;simp only[Q84.l0.step];rw[show decide ((AB (aa.table n):Int)<(AB n.2.2.2.2.2.2.2.2.1:Int))=false from bq _];rfl
theorem yX (K:Nat)(n:aa)(h:cL n)(hp:(aa.probe n).1≠-1)(h0:0<=(aa.probe n).2.1)(h1:(aa.probe n).2.1<=1000000)(hn0:0<=n.2.2.2.2.2.1)(hn1:n.2.2.2.2.2.1<=1000000)(hK:1048577<K) :
  Q85.f K (n,())=some (((c5 n).1,(c5 n).2,()),()):=by
 simp only[Q85.f,Q85.pre,c5];rw[show ((aa.probe n).1==-1)=false by simpa using hp];simp only[cond_false];rw[show Q83.f K (n.2.2.2.2.2.2.2.2.1,n.2.2.2.2.2.2.2.2.2.2.1.1,())=_ from rC K (aa.table n) (aa.probe n).1 h.table h.lt hK];simp only[AA];cases hl:dY (aW (aa.table n) (aa.probe n).1) with
 |false=>rfl
 |true =>
  have hf:=ey h.table (gm hl);simp only[AJ,cond_false];rw[aL (n:=n.2.2.2.2.2.1-n.2.2.2.2.2.2.2.2.2.2.1.2.1) (by show -9223372036854775808<=n.2.2.2.2.2.1-(aa.probe n).2.1;omega) (by show n.2.2.2.2.2.1-(aa.probe n).2.1<=9223372036854775807;omega)];show (bif decide (n.2.2.2.2.2.1-(aa.probe n).2.1>=4) then _ else _)=_;cases decide (n.2.2.2.2.2.1-(aa.probe n).2.1>=4) with
  |true =>
   simp only[cond_true];obtain⟨o,ho,e1⟩:=ew K (aa.table n) (aa.probe n).1 h.lt hK;rw[show Q45.f K (n.2.2.2.2.2.2.2.2.1,n.2.2.2.2.2.2.2.2.2.2.1.1,())=_ from e1];simp only[AA];cases ho with
   |no hno=>exact absurd (gm hl) (λ⟨f,hf,e⟩=>hno f hf e)
   |at_ j hj e =>
    simp only;rw[show idx n.2.2.2.2.2.2.2.2.1 ((j:Nat):Int)=some (aa.table n)[j] from ai hj,gh h.table.2 (AD hj) hf.2.2 (by rw[e,hf.2.1])];simp only[AA];cases (aW (aa.table n) (aa.probe n).1).2.2.1==1 with
    |true =>
     simp only[cond_true];refine (congrArg (λo=>AG o _) (oj K (setP n noP) (ov (aW (aa.table n) (aa.probe n).1)) n.1 (h.setP noP) hK)).trans ?_;rfl
    |false=>rfl
  |false =>
   simp only[cond_false];show (bif decide (n.2.2.2.2.2.1-(aa.probe n).2.1>=2) then _ else _)=_;cases decide (n.2.2.2.2.2.1-(aa.probe n).2.1>=2) with
   |false=>rfl
   |true =>
    simp only[cond_true];show (bif !(aa.probe n).2.2.2 then _ else _)=_;cases hask:(aa.probe n).2.2.2 with
    |true=>rfl
    |false =>
     simp only[Ae,cond_true];refine (congrArg (λo=>AG o _) (vk K (kD n) h.lt hK)).trans ?_;simp only[AA];rw[show eV (kD n)=eV n from rfl];have hlen:(eV n).length<=2:=A8 _ _;refine Bc (pg (step:=λrec a=>Q85.l0.step K (n,()) rec a) (eV n) (λ_=>true) (askW n) (λacc i=>(acc,eV n,(i:Int))) (λws=>some ((kD n,ws,()),())) ?_ ?_ (by omega)) (by rw[AU.2 (λ_ _=>rfl)])
     ·intro rec acc i hi ha;simp only[Q85.l0.step];rw[bM (by omega:(i:Int)<(AB (eV n):Int)),ai hi,av i (by omega),AH,ai hi];simp only[cond_true,AA,Q44.f];rw[szb _ _ _ (by omega) (by simp)];simp only[cond_true,AA];rw[szw _ _ _ (by omega) (by simp;omega)];rfl
     ·intro rec acc ha;simp only[Q85.l0.step,bq];rfl
def gC (n:aa)(i:Int):aa:=(n.1,n.2.1,n.2.2.1,n.2.2.2.1,i,n.2.2.2.2.2)
def fa (n:aa)(f:ag):aa:=bif decide (bV f (aW (aa.table n) n.1))&&decide (f.2.1<999) then sayOf (gC n (f.2.1+1)) (n.1,f.2.1+1,1,n.2.2.2.1) n.1 else n
def dK (f:ag)(b:Int)(d:ce):ce:=bif d.1==f.1&&d.2.1==f.2.1&&f.2.2.1==2 then (d.1,d.2.1,d.2.2.1,bP (λx:Int=>x) b d.2.2.2) else d
def jT (n:aa)(f:ag)(b:Int):aa:=ip n (aa.table n) (aa.cast n) ((aa.doubts n).map (dK f b))
def dO (b:Int)(n:aa)(f:ag):aa:=bif f.1==n.1 then fa n f else jT (sayOf n f b) f b
def iq (n:aa)(t:List ag)(b:Int):aa:=t.foldl (dO b) n
def k5 (l:List Int):Prop:=Asc (λx:Int=>x) l/\∀ x∈l,InP x 0 7
theorem k5.len {l:List Int}(h:k5 l):l.length<=8:=gZ h.1 h.2
theorem k5.put {l:List Int}{b:Int}(h:k5 l)(hb:InP b 0 7):k5 (bP (λx:Int=>x) b l) :=
 ⟨eD h.1,λx hx=>by
  rcases aY.1 hx with rfl|⟨hx,_⟩
  ·exact hb
  ·exact h.2 x hx⟩
structure dU (n:aa):Prop where
 say:cL n
 me:InP n.1 0 7
 has:∃ g∈aa.table n,g.1=n.1
 by_:∀ d∈aa.doubts n,k5 d.2.2.2
theorem cL.inc {n:aa}(h:cL n)(i:Int):cL (gC n i):=⟨h.table,h.cast,h.asc,h.inp,h.lt,h.lc,h.ld⟩
theorem k6 {n:aa}{f:ag}{b:Int}(hb:InP b 0 7)(h:∀ d∈aa.doubts n,k5 d.2.2.2):∀ d∈aa.doubts (sayOf n f b),k5 d.2.2.2:=by
 obtain⟨t,c,ds,e,_,_,h3⟩:=iI n f b;rw[e];intro d hd;have hd:d∈ds:=hd;rcases h3 with rfl|rfl
 ·exact h d hd
 ·rcases lO hd with rfl|hd
  ·exact⟨BP _ _,λx hx=>by rw[AS.1 hx];exact hb⟩
  ·exact h d hd
theorem tn {n:aa}{f:ag}(hm:InP n.1 0 7)(hf:bH f)(h:f.2.1<999):bH (n.1,f.2.1+1,1,n.2.2.2.1):=by
 obtain⟨_,⟨h1,h2⟩,_⟩:=hf;exact⟨hm,⟨show (0:Int)<=f.2.1+1 by omega,show f.2.1+1<=999 by omega⟩,show (1:Int)<=1 by omega,show (1:Int)<=4 by omega⟩
theorem dU.refute {n:aa}{f:ag}(h:dU n)(hf:bH f):dU (fa n f):=by
 unfold fa;cases hc:decide (bV f (aW (aa.table n) n.1))&&decide (f.2.1<999) with
 |false=>exact h
 |true =>
  have hi:f.2.1<999:=by
   rw[Ai]at hc;exact of_decide_eq_true hc.2
  obtain⟨f1,_⟩:=ju (gC n (f.2.1+1)) (n.1,f.2.1+1,1,n.2.2.2.1) n.1;refine⟨jt (h.say.inc _) (tn h.me hf hi),?_,?_,k6 h.me h.by_⟩
  ·show InP (sayOf (gC n (f.2.1+1)) (n.1,f.2.1+1,1,n.2.2.2.1) n.1).1 0 7;rw[f1];exact h.me
  ·obtain⟨g,hg,e⟩:=h.has;obtain⟨g',hg',e'⟩:=iJ (n:=gC n (f.2.1+1)) (f:=(n.1,f.2.1+1,1,n.2.2.2.1)) (b:=n.1) (g:=g) hg;refine⟨g',hg',?_⟩;show g'.1=(sayOf (gC n (f.2.1+1)) (n.1,f.2.1+1,1,n.2.2.2.1) n.1).1;rw[f1,e',e];rfl
theorem dU.confirm {n:aa}{f:ag}{b:Int}(h:dU n)(hf:bH f)(hb:InP b 0 7):dU (jT (sayOf n f b) f b):=by
 have hs:=jt (b:=b) h.say hf;obtain⟨f1,_⟩:=ju n f b;have hby:=k6 (f:=f) hb h.by_;obtain⟨g,hg,e⟩:=h.has;obtain⟨g',hg',e'⟩:=iJ (n:=n) (f:=f) (b:=b) hg;have hk:∀ d,(dK f b d).1=d.1:=λd=>by unfold dK;cases d.1==f.1&&d.2.1==f.2.1&&f.2.2.1==2 <;> rfl
 refine⟨⟨hs.table,hs.cast,?_,λd hd=>?_,hs.lt,hs.lc,?_⟩,?_,⟨g',hg',?_⟩,λd hd=>?_⟩
 ·show Asc (λd:ce=>d.1) ((aa.doubts (sayOf n f b)).map (dK f b));unfold Asc;rw[Ak];exact hs.asc.imp λ {a c} h=>by show (dK f b a).1<(dK f b c).1;rw[hk,hk];exact h
 ·obtain⟨d',hd',rfl⟩:=AR.1 hd;rw[hk];exact hs.inp d' hd'
 ·show ((aa.doubts (sayOf n f b)).map (dK f b)).length<=_;rw[AX];exact hs.ld
 ·show InP (sayOf n f b).1 0 7;rw[f1];exact h.me
 ·show g'.1=(sayOf n f b).1;rw[f1,e',e]
 ·obtain⟨d',hd',rfl⟩:=AR.1 hd;unfold dK;cases d'.1==f.1&&d'.2.1==f.2.1&&f.2.2.1==2 with
  |false=>exact hby d' hd'
  |true=>exact (hby d' hd').put hb
theorem dU.step {n:aa}{f:ag}{b:Int}(h:dU n)(hf:bH f)(hb:InP b 0 7):dU (dO b n f):=by
 unfold dO;cases f.1==n.1 with
 |true=>exact h.refute hf
 |false=>exact h.confirm hf hb
theorem wN {α A R:Type}(ds:List α)(g:α->α)(S:List α->Nat->A)(fin:List α->Option R){step:(A->Option R)->A->Option R}
  (h:∀ (rec:A->Option R) (cur:List α) (i:Nat) (hi:i<ds.length),cur.length=ds.length->cur[i]?=some ds[i]->step rec (S cur i)=rec (S (cur.set i (g ds[i])) (i+1)))
  (hend:∀ (rec:A->Option R) (cur:List α),cur.length=ds.length->step rec (S cur ds.length)=fin cur) {k:Nat} (hk:ds.length<k):ae step k (S ds 0)=fin (ds.map g):=by
 have:∀ (d i k:Nat) (cur:List α),i+d=ds.length->d<k->cur.length=ds.length->(∀ j,(hj:j<ds.length)->cur[j]?=some (if j<i then g ds[j] else ds[j]))->ae step k (S cur i)=fin (ds.map g):=by
  intro d;induction d with
  |zero =>
   intro i k cur hi hk hl hc;obtain⟨k,rfl⟩:∃ k',k=k'+1:=⟨k-1,by omega⟩;have:i=ds.length:=by omega
   subst this;show step (ae step k) _=_;rw[hend _ _ hl];congr 1;refine List.ext_getElem? λj=>?_
   rw[List.getElem?_map];by_cases hj:j<ds.length
   ·rw[hc j hj,if_pos hj,AM hj];rfl
   ·rw[Az (by omega),Az (by omega)];rfl
  |succ d ih =>
   intro i k cur hi hk hl hc;obtain⟨k,rfl⟩:∃ k',k=k'+1:=⟨k-1,by omega⟩;have hlt:i<ds.length:=by omega
   show step (ae step k) _=_;rw[h (ae step k) cur i hlt hl (by rw[hc i hlt,if_neg (by omega)])];refine ih (i+1) k _ (by omega) (by omega) (by rw[Bm,hl]) λj hj=>?_
   rw[List.getElem?_set];by_cases e:i=j
   ·subst e;rw[if_pos rfl,if_pos (by omega),if_pos (by omega)]
   ·rw[if_neg e,hc j hj];by_cases h1:j<i
    ·rw[if_pos h1,if_pos (by omega)]
    ·rw[if_neg h1,if_neg (by omega)]
 exact this ds.length 0 k ds (by omega) hk rfl (λj hj=>by rw[if_neg (by omega),AM hj])
theorem rD {α:Type}{cur:List α}{i:Nat}{x:α}(h:cur[i]?=some x):cur.set i x=cur:=by
 obtain⟨hi,e⟩:=List.getElem?_eq_some_iff.1 h;rw[<- e,List.set_getElem_self]
theorem rE {by_:List Int}{b:Int}{m:Nat}(hm:m<=by_.length)(hl:by_.length<=8){R:Type}(G:List Int->Option R) :
  (bif decide ((0:Int)<=0)&&decide ((0:Int)<=(m:Int))&&decide ((m:Int)<=(AB by_:Int))&&true then (bif decide ((AB ([]:List Int)+AB ((by_.take (AC (m:Int))).drop (AC 0)))*8<=ah) then (bif decide ((AB ([]++((by_.take (AC (m:Int))).drop (AC 0)))+AB ([b]))*8<=ah) then (bif decide ((0:Int)<=(m:Int))&&decide ((m:Int)<=(AB by_:Int))&&decide ((AB by_:Int)<=(AB by_:Int))&&true then (bif decide ((AB (([]++((by_.take (AC (m:Int))).drop (AC 0)))++([b]))+AB ((by_.take (AC (AB by_:Int))).drop (AC (m:Int))))*8<=ah) then G ((([]++((by_.take (AC (m:Int))).drop (AC 0)))++([b]))++((by_.take (AC (AB by_:Int))).drop (AC (m:Int)))) else none) else none) else none) else none) else none)=G (by_.take m++[b]++by_.drop m):=by
 rw[decide_eq_true (by omega:(0:Int)<=0),decide_eq_true (by omega:(0:Int)<=(m:Int)),decide_eq_true (by omega:(m:Int)<=(AB by_:Int)),decide_eq_true (by omega:(AB by_:Int)<=(AB by_:Int))];simp only[AH,A3,AW,AQ,At,Ax,cond_true];have h1:(by_.take m).length=m:=by rw[Ac];omega
 have h2:(by_.drop m).length=by_.length-m:=Ag;rw[szb _ _ _ (by omega) (by simp only[AO];omega),szb _ _ _ (by omega) (by simp only[AI,AO];omega),szb _ _ _ (by omega) (by simp only[AN,AI,AO];omega)];rfl
theorem vm (K:Nat)(n:aa)(f:ag)(b:Int)(hd:∀ d∈aa.doubts n,k5 d.2.2.2)(hl:(aa.doubts n).length<=1048576)(hK:1048577<K):Q51.f K (n,f,b,())=some ((jT n f b,()),()):=by
 simp only[Q51.f,Q51.pre];refine wN (step:=λrec a=>Q51.l0.step K (n,f,b,()) (Q51.l1 K (n,f,b,()) rec) rec a) (aa.doubts n) (dK f b) (λcur i=>((i:Int),cur)) (λcur=>some ((ip n (aa.table n) (aa.cast n) cur,()),())) ?_ ?_ (by omega)
 ·intro rec cur i hi hlen hget;have hi':i<cur.length:=by omega
  have hcur:cur[i]=(aa.doubts n)[i]:=by
   rw[AM hi']at hget;exact Option.some.inj hget
  have hby:=hd _ (AD hi);simp only[Q51.l0.step];rw[bM (by omega:(i:Int)<(AB cur:Int)),ai hi',av i (by omega),AH,ai hi',hcur];simp only[cond_true,AA];generalize hdd:(aa.doubts n)[i]=d at hby hget ⊢;have hstay:rec (((i+1:Nat):Int),cur)=rec (((i+1:Nat):Int),cur.set i d):=by rw[rD hget]
  unfold dK;by_cases h1:d.1=f.1
  case neg =>
   rw[show (d.1 != f.1)=true by simpa using h1,show (d.1==f.1)=false by simpa using h1];exact hstay
  by_cases h2:d.2.1=f.2.1
  case neg =>
   rw[show (d.1 != f.1)=false by simpa using h1,show (d.2.1 != f.2.1)=true by simpa using h2,show (d.2.1==f.2.1)=false by simpa using h2,Bo];exact hstay
  by_cases h3:f.2.2.1=2
  case neg =>
   rw[show (d.1 != f.1)=false by simpa using h1,show (d.2.1 != f.2.1)=false by simpa using h2,show (f.2.2.1 != 2)=true by simpa using h3,show (f.2.2.1==2)=false by simpa using h3,Bo];exact hstay
  rw[show (d.1 != f.1)=false by simpa using h1,show (d.2.1 != f.2.1)=false by simpa using h2,show (f.2.2.1 != 2)=false by simpa using h3,show (d.1==f.1)=true by simpa using h1,show (d.2.1==f.2.1)=true by simpa using h2,show (f.2.2.1==2)=true by simpa using h3];simp only[cond_false,Ax,cond_true];have hbl:=hby.len;have ins:∀ m:Nat,m<=d.2.2.2.length->(∀ j,(hj:j<d.2.2.2.length)->j<m->d.2.2.2[j]<b)->(∀ j,(hj:j<d.2.2.2.length)->m<=j->b<d.2.2.2[j])->d.2.2.2.take m++[b]++d.2.2.2.drop m=bP (λx:Int=>x) b d.2.2.2:=λm hm lo hi=>nC (k:=λx:Int=>x) hm lo hi
  have:=cK (step:=λr a=>Q51.l1.step K (n,f,b,()) rec r a) d.2.2.2.length (λj=>((i:Int),(j:Int),cur,d.1,d.2.1,d.2.2.1,d.2.2.2)) (λj=>∃ h:j<d.2.2.2.length,¬ d.2.2.2[j]<b)
   (rec (((i+1:Nat):Int),cur.set i (d.1,d.2.1,d.2.2.1,d.2.2.2.take d.2.2.2.length++[b]++d.2.2.2.drop d.2.2.2.length)))
   (λj=>if h:j<d.2.2.2.length then (if d.2.2.2[j]=b then rec (((i+1:Nat):Int),cur) else rec (((i+1:Nat):Int),cur.set i (d.1,d.2.1,d.2.2.1,d.2.2.2.take j++[b]++d.2.2.2.drop j))) else none) ?_ ?_ d.2.2.2.length K 0 (by omega) (by omega)
  ·rcases this with ⟨hno,he⟩|⟨j,_,hj,⟨hj',hge⟩,hlt,he⟩
   ·refine Bc he ?_;rw[ins _ (AZ _) (λj hj _=>by
     by_cases hb:d.2.2.2[j]<b
     ·exact hb
     ·exact absurd ⟨hj,hb⟩ (hno j (Ah _) hj)) (λj hj hm=>by omega)]
   ·refine Bc he ?_;rw[dif_pos hj'];have lo:∀ m,(hm:m<d.2.2.2.length)->m<j->d.2.2.2[m]<b:=λm hm hmj=>by
     by_cases hb:d.2.2.2[m]<b
     ·exact hb
     ·exact absurd ⟨hm,hb⟩ (hlt m (Ah _) hmj)
    by_cases hbe:d.2.2.2[j]=b
    ·rw[if_pos hbe,<- nB (k:=λx:Int=>x) hby.1 hj' hbe];rw[show d.2.2.2.set j b=d.2.2.2 from rD (by rw[AM hj',hbe])];exact hstay
    ·rw[if_neg hbe,ins j (by omega) lo (λm hm hjm=>by
      rcases Av hjm with h4|rfl
      ·have:=ek.1 hby.1 j m (by omega) hm h4;omega
      ·omega)]
  ·intro r j hj;simp only[Q51.l1.step];rw[bM (by omega:(j:Int)<(AB d.2.2.2:Int)),ai hj,av j (by omega)];simp only[cond_true,AA];by_cases hb:d.2.2.2[j]<b
   ·left;refine⟨λ⟨_,h⟩=>h hb,?_⟩;rw[decide_eq_true hb];rfl
   ·right;refine⟨⟨hj,hb⟩,?_⟩;rw[decide_eq_false hb,show ((j:Int)==(AB d.2.2.2:Int))=false by simp;omega,dif_pos hj];simp only[cond_false];by_cases hbe:d.2.2.2[j]=b
    ·rw[if_pos hbe,show (d.2.2.2[j] != b)=false by simpa using hbe,av i (by omega)];rfl
    ·rw[if_neg hbe,show (d.2.2.2[j] != b)=true by simpa using hbe];simp only[cond_true];refine (rE (m:=j) (b:=b) (Nat.le_of_lt hj) hbl (λz=>(idx cur (i:Int)).bind λ_=>(idx cur (AC (i:Int):Nat)).bind λ_=>rec (wr .i64 ((i:Int)+1),cur.set (AC (i:Int)) (d.1,(d.2.1,(d.2.2.1,z)))))).trans ?_;rw[AH,ai hi',av i (by omega)];rfl
  ·intro r;simp only[Q51.l1.step];rw[bq];simp only[cond_false,beq_self_eq_true,cond_true];refine (rE (b:=b) (AZ _) hbl (λz=>(idx cur (i:Int)).bind λ_=>(idx cur (AC (i:Int):Nat)).bind λ_=>rec (wr .i64 ((i:Int)+1),cur.set (AC (i:Int)) (d.1,(d.2.1,(d.2.2.1,z)))))).trans ?_;rw[AH,ai hi',av i (by omega)];rfl
 ·intro rec cur hlen;simp only[Q51.l0.step];rw[<- hlen,bq];rfl
theorem wO (K:Nat)(n:aa)(f:ag)(h:dU n)(hf:bH f)(hK:1048577<K):Q50.f K (n,f,())=some ((fa n f,()),()):=by
 simp only[Q50.f];have hft:=ey h.say.table h.has;obtain⟨o,ho,h1⟩:=ew K (aa.table n) n.1 h.say.lt hK;rw[show Q45.f K (n.2.2.2.2.2.2.2.2.1,n.1,())=_ from h1];simp only[AA];cases ho with
 |no hno=>exact absurd h.has (λ⟨g,hg,e⟩=>hno g hg e)
 |at_ j hj e =>
  simp only;rw[show idx n.2.2.2.2.2.2.2.2.1 ((j:Nat):Int)=some (aa.table n)[j] from ai hj,gh h.say.table.2 (AD hj) hft.2.2 (by rw[e,hft.2.1])];simp only[AA];rw[oi];obtain⟨_,⟨i0,i1⟩,_⟩:=hf;simp only[rb,AA,fa];cases decide (bV f (aW (aa.table n) n.1)) with
  |false=>rfl
  |true =>
   simp only[AJ,cond_false,Ap];by_cases hi:f.2.1<999
   ·rw[decide_eq_false (by omega:¬ f.2.1>=999),decide_eq_true hi,aL (by omega) (by omega)];simp only[cond_false,cond_true];refine (congrArg (λo=>AG o _) (oj K (gC n (f.2.1+1)) (n.1,f.2.1+1,1,n.2.2.2.1) n.1 (h.say.inc _) hK)).trans ?_;rfl
   ·rw[decide_eq_true (by omega:f.2.1>=999),decide_eq_false hi];rfl
theorem tp (K:Nat)(n:aa)(t:List ag)(b:Int)(h:dU n)(ht:∀ f∈t,bH f)(hl:t.length<=1048576)(hb:InP b 0 7)(hK:1048577<K):Q52.f K (n,t,b,())=some ((iq n t b,()),()):=by
 refine lQ (step:=λrec a=>Q52.l0.step K (n,t,b,()) rec a) t (dO b) dU (λm i=>((i:Int),m.1,m.2.1,m.2.2.1,m.2.2.2.1,m.2.2.2.2.1,m.2.2.2.2.2.1,m.2.2.2.2.2.2.1,m.2.2.2.2.2.2.2.1,m.2.2.2.2.2.2.2.2.1,m.2.2.2.2.2.2.2.2.2.1,m.2.2.2.2.2.2.2.2.2.2.1.1,m.2.2.2.2.2.2.2.2.2.2.1.2.1,m.2.2.2.2.2.2.2.2.2.2.1.2.2.1,m.2.2.2.2.2.2.2.2.2.2.1.2.2.2,m.2.2.2.2.2.2.2.2.2.2.2.1,m.2.2.2.2.2.2.2.2.2.2.2.2.1.1,m.2.2.2.2.2.2.2.2.2.2.2.2.1.2.1,m.2.2.2.2.2.2.2.2.2.2.2.2.1.2.2.1,m.2.2.2.2.2.2.2.2.2.2.2.2.1.2.2.2,m.2.2.2.2.2.2.2.2.2.2.2.2.2.1,m.2.2.2.2.2.2.2.2.2.2.2.2.2.2)) (λm=>some ((m,()),())) n h ?_ ?_ (by omega)
 ·intro rec m i hi hm;have hf:=ht _ (AD hi);refine⟨?_,hm.step hf hb⟩;simp only[Q52.l0.step];rw[bM (by omega:(i:Int)<(AB t:Int)),ai hi,av i (by omega)];simp only[cond_true,AA];generalize t[i]=f at hf ⊢;unfold dO;cases f.1==m.1 with
  |true =>
   simp only[cond_true];refine (congrArg (λo=>AG o _) (wO K m f hm hf hK)).trans ?_;rfl
  |false =>
   simp only[cond_false];refine (congrArg (λo=>AG o _) (oj K m f b hm.say hK)).trans ?_;simp only[AA];rw[vm K (sayOf m f b) f b (k6 hb hm.by_) (jt hm.say hf).ld hK];rfl
 ·intro rec m hm;simp only[Q52.l0.step];rw[bq];rfl
def eE {α:Type}(lt:α->α->Bool)(x:α):List α->List α->List α
 |[],B=>x::B
 |y::A,B=>bif lt x y then eE lt x A (y::B) else (y::A).reverse++x::B
def dL {α:Type}(lt:α->α->Bool):List α->List α->List α
 |done,[]=>done
 |done,x::xs=>dL lt (eE lt x done.reverse []) xs
theorem rF {α:Type}(lt:α->α->Bool)(x:α):∀ (A B C:List α),eE lt x A (B++C)=eE lt x A B++C
 |[],B,C=>rfl
 |y::A,B,C=>by
  simp only[eE];cases lt x y with
  |true=>exact rF lt x A (y::B) C
  |false=>simp
theorem rG {α:Type}(lt:α->α->Bool)(x:α):∀ (A B:List α),(eE lt x A B).length=A.length+B.length+1
 |[],B=>by simp[eE]
 |y::A,B=>by
  simp only[eE];cases lt x y with
  |true=>simp only[cond_true];rw[rG lt x A (y::B)];simp;omega
  |false=>simp;omega
theorem pQ {α:Type}(lt:α->α->Bool)(x:α):∀ (A B:List α),(eE lt x A B).Perm (x::(A.reverse++B))
 |[],B=>by simp[eE]
 |y::A,B=>by
  simp only[eE];cases lt x y with
  |true=>exact (pQ lt x A (y::B)).trans (by simp)
  |false=>simp only[cond_false];exact Bh
theorem k7 {α:Type}(lt:α->α->Bool):∀ (xs done:List α),(dL lt done xs).Perm (done++xs)
 |[],done=>by simp[dL]
 |x::xs,done=>by
  simp only[dL];refine (k7 lt xs _).trans ?_;have:=pQ lt x done.reverse [];simp only[An,AP]at this;exact (this.append_right xs).trans (by simpa using (Bh (a:=x) (l₁:=done) (l₂:=xs)).symm)
def hH {α:Type}(lt:α->α->Bool)(xs:List α):Prop:=xs.Pairwise λa b=>lt b a=false
theorem gn {α:Type}(lt:α->α->Bool)(ht:∀ a b c,lt a b=false->lt b c=false->lt a c=false)(x:α) :
  ∀ (A B:List α),hH lt A.reverse->eE lt x A B=(A.reverse.filter λy=>!lt x y)++x::((A.reverse.filter λy=>lt x y)++B)
 |[],B,_=>rfl
 |y::A,B,h=>by
  simp only[eE];have hA:hH lt A.reverse:=by
   unfold hH at h ⊢;rw[A2,Ar]at h;exact h.1
  cases hl:lt x y with
  |true =>
   simp only[cond_true];rw[gn lt ht x A (y::B) hA];simp[hl,Am]
  |false =>
   have hy:∀ a∈A.reverse,lt x a=false:=λa ha=>by
    unfold hH at h;rw[A2,Ar]at h;exact ht x y a hl (h.2.2 a ha y (by simp))
   simp only[cond_false];have e1:(y::A).reverse.filter (λy=>!lt x y)=(y::A).reverse:=AU.2 λa ha=>by
    rw[A2,Af,AS]at ha;rcases ha with ha|rfl
    ·rw[hy a ha];rfl
    ·rw[hl];rfl
   have e2:(y::A).reverse.filter (λy=>lt x y)=[]:=AV.2 λa ha=>by
    rw[A2,Af,AS]at ha;rcases ha with ha|rfl
    ·rw[hy a ha];simp
    ·rw[hl];simp
   rw[e1,e2];rfl
theorem ox {α:Type}(lt:α->α->Bool)(ht:∀ a b c,lt a b=false->lt b c=false->lt a c=false)(has:∀ a b,lt a b=true->lt b a=false)(x:α)(A:List α)(h:hH lt A):hH lt (eE lt x A.reverse []):=by
 rw[gn lt ht x A.reverse [] (by rwa [An])];unfold hH at h ⊢;simp only[An,AP];rw[Ar];refine⟨h.filter _,?_,?_⟩
 ·rw[AT];refine⟨λa ha=>?_,h.filter _⟩;exact has _ _ (by simpa using (AF.1 ha).2)
 ·intro a ha b hb;have h1:lt x a=false:=by simpa using (AF.1 ha).2
  rcases A9.1 hb with rfl|hb
  ·exact h1
  ·have h2:lt x b=true:=by simpa using (AF.1 hb).2
   exact ht b x a (has _ _ h2) h1
abbrev SoR (α:Type):=Unit×(List α×Unit)
theorem ud {α R:Type}(lt:α->α->Bool)(i:Int)(fin:List α×Int->Option R){step:(List α×Int×Int->Option R)->List α×Int×Int->Option R}
  (h:∀ (rec:List α×Int×Int->Option R) (A:List α) (y x:α) (B:List α),A.length+B.length<=1048576->step rec (A++y::x::B,i,((A.length+1:Nat):Int))=bif lt x y then rec (A++x::y::B,i,(A.length:Int)) else fin (A++y::x::B,wr .i64 (i+1)))
  (h0:∀ (rec:List α×Int×Int->Option R) (ys:List α),step rec (ys,i,0)=fin (ys,wr .i64 (i+1))) :
  ∀ (A B:List α) (x:α) (k:Nat),A.length+B.length<=1048576->A.length<k->ae step k (A.reverse++x::B,i,(A.length:Int))=fin (eE lt x A B,wr .i64 (i+1)):=by
 intro A;induction A with
 |nil =>
  intro B x k hl hk;obtain⟨k,rfl⟩:∃ k',k=k'+1:=⟨k-1,by simp at hk;omega⟩;exact h0 (ae step k) (x::B)
 |cons y A ih =>
  intro B x k hl hk;simp only[AI]at hk hl;obtain⟨k,rfl⟩:∃ k',k=k'+1:=⟨k-1,by omega⟩;have h1:=h (ae step k) A.reverse y x B (by simp;omega);simp only[BX]at h1;show step (ae step k) _=_;rw[A2,A1];simp only[AI,List.cons_append,AQ,eE];rw[h1];cases lt x y with
  |true=>exact ih (y::B) x k (by simp;omega) (by omega)
  |false=>simp
theorem sJ {α:Type}(lt:α->α->Bool){step:(List α×Int->Option (SoR α))->List α×Int->Option (SoR α)}(n:Nat)(hn:n<=1048576)
  (h:∀ (rec:List α×Int->Option (SoR α)) (done:List α) (x:α) (xs:List α),done.length+1+xs.length=n->step rec (done++x::xs,(done.length:Int))=rec (eE lt x done.reverse xs,wr .i64 ((done.length:Int)+1)))
  (h0:∀ (rec:List α×Int->Option (SoR α)) (ys:List α) (i:Int),(n:Int)<=i->step rec (ys,i)=some ((),(ys,()))) :
  ∀ (xs done:List α) (k:Nat),done.length+xs.length=n->xs.length<k->ae step k (done++xs,(done.length:Int))=some ((),(dL lt done xs,())):=by
 intro xs;induction xs with
 |nil =>
  intro done k hl hk;obtain⟨k,rfl⟩:∃ k',k=k'+1:=⟨k-1,by omega⟩;show step (ae step k) _=_;rw[h0 _ _ _ (by simp at hl;omega)];simp[dL]
 |cons x xs ih =>
  intro done k hl hk;simp only[AI]at hk hl;obtain⟨k,rfl⟩:∃ k',k=k'+1:=⟨k-1,by omega⟩;show step (ae step k) _=_;rw[h _ _ _ _ (by omega),av _ (by omega)];have e:eE lt x done.reverse xs=eE lt x done.reverse []++xs:=rF lt x done.reverse [] xs;have e2:(eE lt x done.reverse []).length=done.length+1:=by rw[rG];simp
  rw[e,<- e2];exact ih _ k (by rw[e2];omega) (by omega)
theorem wP {α:Type}(lt:α->α->Bool){step:(List α×Int->Option (SoR α))->List α×Int->Option (SoR α)}(xs:List α)(hn:xs.length<=1048576)
  (h:∀ (rec:List α×Int->Option (SoR α)) (done:List α) (x:α) (r:List α),done.length+1+r.length=xs.length->step rec (done++x::r,(done.length:Int))=rec (eE lt x done.reverse r,wr .i64 ((done.length:Int)+1)))
  (h0:∀ (rec:List α×Int->Option (SoR α)) (ys:List α) (i:Int),(xs.length:Int)<=i->step rec (ys,i)=some ((),(ys,()))) {k:Nat} (hk:xs.length<k) :
  ae step k (xs,1)=some ((),(dL lt [] xs,())):=by
 cases xs with
 |nil =>
  obtain⟨k,rfl⟩:∃ k',k=k'+1:=⟨k-1,by simp at hk;omega⟩;exact h0 (ae step k) [] 1 (by simp)
 |cons x xs =>
  simp only[AI]at hk;have:=sJ lt (xs.length+1) (by simpa using hn) h h0 xs [x] k (by simp;omega) (by omega);exact this
theorem x3 {α:Type}(A B:List α)(x:α):idx (A++x::B) (A.length:Int)=some x:=by
 rw[pd];simp
theorem wQ {α:Type}(A B:List α)(y x:α):idx (A++y::x::B) ((A.length+1:Nat):Int)=some x:=by
 rw[pd];simp[List.getElem?_append_right]
theorem x4 {α:Type}(A B:List α)(x v:α):(A++x::B).set A.length v=A++v::B:=by simp
theorem wR {α:Type}(A B:List α)(y x v:α):(A++y::x::B).set (A.length+1) v=A++y::v::B:=by
 simp[List.set_append_right]
def dF (l:List aV)(i:Int):Int:=((l[i.toNat]?).map (·.2)).getD 0
def ltL (l:List aV)(a b:Int):Bool:=decide (dF l b<dF l a)
def lt2 (l:List aV)(a b:Int):Prop:=dF l b<dF l a\/(dF l a=dF l b/\a<b)
def eO (n:Nat):List Int:=(List.range n).map λ (i:Nat)=>(i:Int)
def bO (l:List aV):List Int:=dL (ltL l) [] (eO l.length)
theorem nE {n:Nat}{i:Int}:i∈eO n<->0<=i/\i<n:=by
 unfold eO;rw[AR];constructor
 ·rintro⟨j,hj,rfl⟩;have:=Bp.1 hj;omega
 ·rintro⟨h0,h1⟩;exact⟨i.toNat,Bp.2 (by omega),by omega⟩
theorem rH (n:Nat):(eO n).Pairwise (·<·):=by
 unfold eO;rw[Ak];exact List.pairwise_lt_range.imp λh=>by omega
theorem ez {l:List aV}{i:Nat}(h:i<l.length):dF l (i:Int)=l[i].2:=by
 unfold dF;rw[AH,AM h];rfl
theorem rI (l:List aV):∀ (xs done:List Int),done.Pairwise (lt2 l)->(∀ a∈done,∀ b∈xs,a<b)->xs.Pairwise (·<·)->(dL (ltL l) done xs).Pairwise (lt2 l)
 |[],done,h,_,_=>h
 |x::xs,done,h,hlt,hxs=>by
  have hxs':=AT.1 hxs;have hno:hH (ltL l) done:=h.imp λ {a b} hab=>by
   unfold ltL;rw[decide_eq_false_iff_not];rcases hab with h1|⟨h1,_⟩ <;> omega
  have e:=gn (ltL l) (λa b c h1 h2=>by
   unfold ltL at h1 h2 ⊢;rw[decide_eq_false_iff_not]at h1 h2 ⊢;omega) x done.reverse [] (by rw[An];exact hno)
  rw[An,AP]at e;simp only[dL];rw[e];refine rI l xs _ ?_ ?_ hxs'.2
  ·rw[Ar,AT];refine⟨h.filter _,⟨λb hb=>?_,h.filter _⟩,λa ha b hb=>?_⟩
   ·have h1:ltL l x b=true:=by simpa using (AF.1 hb).2
    exact .inl (by simpa[ltL]using h1)
   ·have h1:ltL l x a=false:=by simpa using (AF.1 ha).2
    have h1':¬ dF l a<dF l x:=by simpa[ltL]using h1
    have hax:=hlt a (AF.1 ha).1 x (by simp);rcases A9.1 hb with rfl|hb
    ·by_cases h2:dF l b<dF l a
     ·exact .inl h2
     ·exact .inr ⟨by omega,hax⟩
    ·have h2:ltL l x b=true:=by simpa using (AF.1 hb).2
     have h2':dF l b<dF l x:=by simpa[ltL]using h2
     exact .inl (by omega)
  ·intro a ha b hb;rcases Af.1 ha with ha|ha
   ·exact hlt a (AF.1 ha).1 b (by simp[hb])
   ·rcases A9.1 ha with rfl|ha
    ·exact hxs'.1 b hb
    ·exact hlt a (AF.1 ha).1 b (by simp[hb])
theorem oy (l:List aV):(bO l).Pairwise (lt2 l):=rI l _ [] List.Pairwise.nil (by simp) (rH _)
theorem ue (l:List aV):(bO l).Perm (eO l.length):=by
 unfold bO;simpa using k7 (ltL l) (eO l.length) []
theorem jU {l:List aV}{i:Int}:i∈bO l<->0<=i/\i<l.length:=by rw[(ue l).mem_iff,nE]
def c6 (T:List Int)(n:Nat):List Bool:=(eO n).map λi=>decide (i∈T)
theorem eA (T:List Int)(n:Nat):(c6 T n).length=n:=by simp[c6,eO]
theorem gP (T:List Int){n i:Nat}(h:i<n):(c6 T n)[i]'(by rw[eA];exact h)=decide ((i:Int)∈T):=by
 simp[c6,eO]
theorem vn {T:List Int}{n b:Nat}(hb:b<n):(c6 T n).set b true=c6 (T++[(b:Int)]) n:=by
 refine BQ (by rw[Bm,eA,eA]) λi h1 h2=>?_
 rw[eA]at h2;rw[List.getElem_set,gP _ h2];by_cases h:b=i
 ·subst h;rw[if_pos rfl,gP _ h2];simp
 ·rw[if_neg h,gP _ h2];have:¬ (i:Int)=(b:Int):=by omega
  simp[this]
def oz (l:List aV)(T:List Int)(i:Nat)(best:Int):Prop :=
 (best=-1/\∀ j:Nat,j<i->(j:Int)∈T)\/(0<=best/\best<i/\best∉T/\∀ j:Nat,j<i->(j:Int)∉T->(j:Int)≠best->lt2 l best (j:Int))
theorem x5 (K:Nat)(l:List aV)(T:List Int)(hl:l.length<=1048576):∀ (d i k:Nat) (best:Int),i+d=l.length->d<k->oz l T i best ->
  ∃ b:Int,ae (λrec a=>Q59.l0.step K (l,c6 T l.length,()) rec a) k (best,(i:Int))=some ((b,()),())/\oz l T l.length b:=by
 intro d;induction d with
 |zero =>
  intro i k best hi hk hb;obtain⟨k,rfl⟩:∃ k',k=k'+1:=⟨k-1,by omega⟩;have:i=l.length:=by omega
  subst this;refine⟨best,?_,hb⟩;show Q59.l0.step K (l,c6 T l.length,()) _ _=_;simp only[Q59.l0.step,bq];rfl
 |succ d ih =>
  intro i k best hi hk hb;obtain⟨k,rfl⟩:∃ k',k=k'+1:=⟨k-1,by omega⟩;have hlt:i<l.length:=by omega
  have ih':∀ best,oz l T (i+1) best->∃ b:Int,ae (λrec a=>Q59.l0.step K (l,c6 T l.length,()) rec a) k (best,((i+1:Nat):Int))=some ((b,()),())/\oz l T l.length b:=λbest h=>ih (i+1) k best (by omega) (by omega) h
  show ∃ b:Int,Q59.l0.step K (l,c6 T l.length,()) (ae (λrec a=>Q59.l0.step K (l,c6 T l.length,()) rec a) k) (best,(i:Int))=_/\_;generalize ae (λrec a=>Q59.l0.step K (l,c6 T l.length,()) rec a) k=REC at ih' ⊢;simp only[Q59.l0.step];rw[bM (by omega:(i:Int)<(AB l:Int)),ai (show i<(c6 T l.length).length by rw[eA];exact hlt),gP T hlt,av i (by omega)];simp only[cond_true,AA];by_cases ht:(i:Int)∈T
  ·rw[decide_eq_true ht];simp only[AJ,cond_false];refine ih' best ?_;rcases hb with ⟨rfl,h⟩|⟨h0,h1,h2,h3⟩
   ·refine .inl ⟨rfl,λj hj=>?_⟩;by_cases hji:j=i
    ·subst hji;exact ht
    ·exact h j (by omega)
   ·refine .inr ⟨h0,by omega,h2,λj hj hjt hne=>?_⟩;by_cases hji:j=i
    ·subst hji;exact absurd ht hjt
    ·exact h3 j (by omega) hjt hne
  ·rw[decide_eq_false ht];simp only[Ae,cond_true];rcases hb with ⟨rfl,h⟩|⟨h0,h1,h2,h3⟩
   ·rw[show decide ((-1:Int)<0)=true from rfl];refine ih' (i:Int) (.inr ⟨by omega,by omega,ht,λj hj hjt hne=>?_⟩);exact absurd (h j (by omega)) hjt
   ·rw[decide_eq_false (by omega:¬ best<0)];obtain⟨b,rfl⟩:=AE h0;have hbl:b<l.length:=by omega
    simp only[cond_false];rw[ai hlt,ai hbl];simp only[AA];by_cases hgt:l[i].2>l[b].2
    ·rw[decide_eq_true hgt];refine ih' (i:Int) (.inr ⟨by omega,by omega,ht,λj hj hjt hne=>?_⟩);have hji:j<i:=by omega
     have hjl:j<l.length:=by omega
     by_cases hjb:(j:Int)=(b:Int)
     ·rw[hjb];exact .inl (by rw[ez hlt,ez hbl];exact hgt)
     ·have:=h3 j hji hjt hjb;rcases this with h4|⟨h4,_⟩
      ·exact .inl (by rw[ez hbl]at h4;rw[ez hlt];omega)
      ·exact .inl (by rw[ez hbl]at h4;rw[ez hlt];omega)
    ·rw[decide_eq_false hgt];refine ih' (b:Int) (.inr ⟨by omega,by omega,h2,λj hj hjt hne=>?_⟩);by_cases hji:j=i
     ·subst hji;by_cases heq:dF l (b:Int)=dF l (j:Int)
      ·exact .inr ⟨heq,h1⟩
      ·refine .inl ?_;rw[ez hlt,ez hbl]at *;omega
     ·exact h3 j (by omega) hjt hne
theorem yY (K:Nat)(l:List aV)(n:Nat)(hl:l.length<=1048576)(hK:1048577<K):Q59.f K (l,c6 ((bO l).take n) l.length,())=some ((((bO l)[n]?).getD (-1),()),()):=by
  obtain⟨b,e,hb⟩:=x5 K l ((bO l).take n) hl l.length 0 K (-1) (by omega) (by omega) (.inl ⟨rfl,λj hj=>by omega⟩);have:b=((bO l)[n]?).getD (-1):=by
    by_cases hn:n<(bO l).length
    · rw[AM hn]
      show b=(bO l)[n];have hm:(bO l)[n]∉(bO l).take n:=λh=>by
        obtain⟨j,hj,e⟩:=AK h;rw[Ac]at hj;rw[BM]at e;have:=A7.1 (oy l) j n (by omega) hn (by omega);rw[e]at this;rcases this with h5|⟨_,h5⟩ <;> omega
      have hr:=jU.1 (AD hn);obtain⟨m,hm'⟩:=AE hr.1;rcases hb with ⟨rfl,h⟩|⟨h0,h1,h2,h3⟩
      · have:=h m (by omega)
        rw[<- hm']at this;exact absurd this hm
      · by_cases he:b=(bO l)[n]
        · exact he
        · exfalso
          have h4:=h3 m (by omega) (by rw[<- hm'];exact hm) (by rw[<- hm'];exact λh=>he h.symm);rw[<- hm']at h4;have hbo:b∈bO l:=jU.2 ⟨h0,h1⟩;obtain⟨j,hj,ej⟩:=AK hbo;have hjn:n<j:=by
            rcases Be j n with h|h|h
            · exact absurd (BL.2 ⟨j,by omega,ej⟩) h2
            · subst h;exact absurd ej.symm he
            · exact h
          have h5:=A7.1 (oy l) n j hn hj hjn;rw[ej]at h5;rcases h4 with h4|⟨h4,h6⟩ <;> rcases h5 with h5|⟨h5,h7⟩ <;> omega
    · rw[Az (by omega)]
      show b=-1;rcases hb with ⟨rfl,_⟩|⟨h0,h1,h2,_⟩
      · rfl
      · exfalso
        rw[Aj (by omega)]at h2;exact h2 (jU.2 ⟨h0,h1⟩)
  rw[<- this];exact e
def hI (l:List aV):List Int:=(bO l).take 3
def jx (l:List aV)(i:Int):aV:=(l[i.toNat]?).getD ((0,0,0,false),0)
def fv (l:List aV)(T:List Int)(i:Int):aV:=bif decide (i∈T) then ((jx l i).1,(jx l i).2-1) else jx l i
def fb (l:List aV)(T:List Int)(n:Nat):List ag:=((eO n).filter λi=>decide (i∈T)).map λi=>(jx l i).1
def k8 (l:List aV)(T:List Int)(n:Nat):List aV:=(eO n).map (fv l T)
def eG (l:List aV)(T:List Int)(n:Nat):List aV:=(k8 l T n).filter λx=>decide (x.2>0)
theorem dM {l:List aV}{i:Nat}(h:i<l.length):jx l (i:Int)=l[i]:=by
 unfold jx;rw[AH,AM h];rfl
theorem pR (n:Nat):eO (n+1)=eO n++[(n:Int)]:=by
 unfold eO;rw[List.range_succ,BU];rfl
theorem uf (l:List aV)(T:List Int)(n:Nat):fb l T (n+1)=fb l T n++(bif decide ((n:Int)∈T) then [(jx l (n:Int)).1] else []):=by
 unfold fb;rw[pR,Am,BU,AY];cases decide ((n:Int)∈T) <;> rfl
theorem ug (l:List aV)(T:List Int)(n:Nat):eG l T (n+1)=eG l T n++(bif decide ((fv l T (n:Int)).2>0) then [fv l T (n:Int)] else []):=by
 unfold eG k8;rw[pR,BU,Am,BZ,AY];cases decide ((fv l T (n:Int)).2>0) <;> rfl
theorem vo (l:List aV)(T:List Int)(n:Nat):(fb l T n).length<=n:=by
 unfold fb;rw[AX];refine Al (Ay _ _) ?_;simp[eO]
theorem vp (l:List aV)(T:List Int)(n:Nat):(eG l T n).length<=n:=by
 unfold eG;refine Al (Ay _ _) ?_;simp[k8,eO]
theorem x6 (K:Nat)(l:List aV)(m:Int)(T:List Int)(hl:l.length<=1048576)(hC:cY l)(hK:1048577<K) :
  Q60.l1 K (l,m,()) (c6 T l.length,[],[],0)=some ((fb l T l.length,eG l T l.length,()),()):=by
 refine jh (step:=λrec a=>Q60.l1.step K (l,m,()) rec a) l.length (λi=>(c6 T l.length,fb l T i,eG l T i,(i:Int))) (some ((fb l T l.length,eG l T l.length,()),())) ?_ ?_ (by omega)
 ·intro rec i hi;simp only[Q60.l1.step];have hi':i<(c6 T l.length).length:=by rw[eA];exact hi
  have h1:=vo l T i;have h2:=vp l T i;obtain⟨c0,c1⟩:=(hC.1 l[i] (AD hi)).2;rw[bM (by omega:(i:Int)<(AB l:Int)),ai hi,ai hi',av i (by omega),AH,ai hi',gP T hi,uf,ug,dM hi];simp only[cond_true,AA];cases hT:decide ((i:Int)∈T) with
  |true =>
   have hd:fv l T (i:Int)=(l[i].1,l[i].2-1):=by unfold fv;rw[hT,dM hi];rfl
   rw[hd];simp only[cond_true];rw[szb _ _ _ (by omega) (by simp;omega),aL (n:=l[i].2-1) (by omega) (by omega)];simp only[cond_true];cases decide (l[i].2-1>0) with
   |true =>
    simp only[cond_true];rw[szb _ _ _ (by omega) (by simp;omega)];rfl
   |false =>
    simp only[cond_false,AP]
  |false =>
   have hd:fv l T (i:Int)=l[i]:=by unfold fv;rw[hT,dM hi];rfl
   rw[hd];simp only[cond_false,AP];cases decide (l[i].2>0) with
   |true =>
    simp only[cond_true];rw[szb _ _ _ (by omega) (by simp;omega)];rfl
   |false =>
    simp only[cond_false,AP]
 ·intro rec;simp only[Q60.l1.step,bq];rfl
theorem yZ (K:Nat)(l:List aV)(hl:l.length<=1048576)(hC:cY l)(hK:1048577<K):Q60.f K (l,3,())=some ((fb l (hI l) l.length,eG l (hI l) l.length,()),()):=by
 have hdone:∀ T,Q60.l1 K (l,3,()) (c6 T l.length,[],[],0)=some ((fb l T l.length,eG l T l.length,()),()):=λT=>x6 K l 3 T hl hC hK
 have go:∀ (d n k:Nat),n+d=3->d<k->ae (λrec a=>Q60.l0.step K (l,3,()) (Q60.l1 K (l,3,())) rec a) k (c6 ((bO l).take n) l.length,(n:Int))=some ((fb l (hI l) l.length,eG l (hI l) l.length,()),()):=by
  intro d;induction d with
  |zero =>
   intro n k hn hk;obtain⟨k,rfl⟩:∃ k',k=k'+1:=⟨k-1,by omega⟩;have:n=3:=by omega
   subst this;exact hdone _
  |succ d ih =>
   intro n k hn hk;obtain⟨k,rfl⟩:∃ k',k=k'+1:=⟨k-1,by omega⟩;have ih':=ih (n+1) k (by omega) (by omega);show Q60.l0.step K (l,3,()) (Q60.l1 K (l,3,())) (ae (λrec a=>Q60.l0.step K (l,3,()) (Q60.l1 K (l,3,())) rec a) k) (c6 ((bO l).take n) l.length,(n:Int))=_;generalize ae (λrec a=>Q60.l0.step K (l,3,()) (Q60.l1 K (l,3,())) rec a) k=REC at ih' ⊢;simp only[Q60.l0.step];rw[decide_eq_true (by omega:(n:Int)<3),yY K l n hl hK,av n (by omega)];simp only[cond_true,AA];by_cases hlen:n<(bO l).length
   ·rw[AM hlen];have hr:=jU.1 (AD hlen);have htk:(bO l).take (n+1)=(bO l).take n++[(bO l)[n]]:=BB hlen;rw[htk]at ih';simp only[Bi];generalize (bO l)[n]=v at hr ih' ⊢;obtain⟨b,rfl⟩:=AE hr.1;have hb:b<l.length:=by omega
    have hb':b<(c6 ((bO l).take n) l.length).length:=by rw[eA];exact hb
    rw[decide_eq_false (by omega:¬ (b:Int)<0),ai hb',AH,ai hb',vn hb];exact ih'
   ·rw[Az (by omega)];show Q60.l1 K (l,3,()) (c6 ((bO l).take n) l.length,[],[],0)=_;rw[hdone,show (bO l).take n=hI l by unfold hI;rw[Aj (by omega),Aj (by omega)]]
 simp only[Q60.f,Q60.pre];rw[decide_eq_true (by omega:(0:Int)<=(AB l:Int)),show decide ((AB l:Int)*(1:Nat)<=ah)=true from decide_eq_true (by simp only[ah];omega),AH];simp only[decide_true,Ax,cond_true];have h0:List.replicate l.length false=c6 ((bO l).take 0) l.length:=by
  refine BQ (by rw[List.length_replicate,eA]) λi h1 h2=>?_
  rw[eA]at h2;rw[List.getElem_replicate,gP _ h2];simp
 have:=go 3 0 K (by omega) (by omega);rw[<- h0]at this;exact this
theorem k9 (l:List aV)(T:List Int)(n:Nat):(k8 l T n).length=n:=by simp[k8,eO]
theorem la (l:List aV)(T:List Int){n i:Nat}(h:i<n):(k8 l T n)[i]'(by rw[k9];exact h)=fv l T (i:Int):=by
 simp[k8,eO]
theorem za {a b:Int}(ha:0<=a)(ha':a<4611686018427387904)(hb:0<=b)(hb':b<4611686018427387904):0<=pa .i64 a b:=by
 obtain⟨m,rfl⟩:=AE ha;obtain⟨n,rfl⟩:=AE hb;have h:(BitVec.ofInt 64 (m:Int) ^^^ BitVec.ofInt 64 (n:Int)).toNat=m ^^^ n:=by
  rw[BitVec.toNat_xor,BitVec.toNat_ofInt,BitVec.toNat_ofInt];congr 1
  ·omega
  ·omega
 have h2:m ^^^ n<2 ^ 62:=Nat.xor_lt_two_pow (by omega) (by omega);show 0<=IntKind.i64.wrap (((BitVec.ofInt 64 (m:Int) ^^^ BitVec.ofInt 64 (n:Int)).toNat:Nat):Int);rw[h,Bj];omega
structure fe (b:List Int):Prop where
 byte:∀ y∈b,0<=y/\y<=255
 len:b.length<=2000
theorem x7 (K:Nat)(b:List Int)(q:Nat)(n:Int)(h:fe b)(hq:q<=100000)(hn:1<=n):∃ v:Int,Q4.f K ((b,(q:Int)),n,())=some ((v,()),((b,((q+1:Nat):Int)),()))/\0<=v/\v<n:=by
 have w1:wr .i64 ((q:Int)+1)=((q+1:Nat):Int):=av q (by omega);have w2:wr .i64 (((q+1:Nat):Int)-1)=(q:Int):=by rw[aL (n:=((q+1:Nat):Int)-1) (by omega) (by omega)];omega
 have hl:=h.len;have hn0:decide (n=0)=false:=decide_eq_false (by omega);have mods:∀ x:Int,0<=x->0<=A6 x n/\A6 x n<n:=λx hx=>⟨BV _ hx,BJ _ (by omega)⟩
 simp only[Q4.f];rw[decide_eq_false (by omega:¬ n<1)];simp only[cond_false,w1,w2,hn0];by_cases h0:b.length=0
 ·rw[show ((b.length:Int)==0)=true by simpa using h0];exact⟨0,rfl,by omega,by omega⟩
 ·rw[show ((b.length:Int)==0)=false by simpa using h0];simp only[cond_false];by_cases hlt:q<b.length
  ·rw[decide_eq_true (by omega:(q:Int)<(b.length:Int)),ai hlt];simp only[cond_true,AA];obtain⟨y0,y1⟩:=h.byte b[q] (AD hlt);rw[aL (n:=b[q]) (by omega) (by omega)];exact⟨_,rfl,mods _ y0⟩
  ·rw[decide_eq_false (by omega:¬ (q:Int)<(b.length:Int)),decide_eq_false (by omega:¬ (b.length:Int)=0)];simp only[cond_false];have t1:A6 (q:Int) (b.length:Int)=((q % b.length:Nat):Int):=by rw[BK (by omega)];rfl
   have t2:wr .i64 (wr .i64 ((q:Int)*7)+3)=((q*7+3:Nat):Int):=by rw[aL (n:=(q:Int)*7) (by omega) (by omega),aL (n:=(q:Int)*7+3) (by omega) (by omega)];omega
   have t3:A6 (((q*7+3:Nat)):Int) (b.length:Int)=(((q*7+3) % b.length:Nat):Int):=by rw[BK (by omega)];rfl
   have l1:q % b.length<b.length:=Nat.mod_lt _ (by omega);have l2:(q*7+3) % b.length<b.length:=Nat.mod_lt _ (by omega);rw[t1,t2,t3,ai l1,ai l2];simp only[AA];obtain⟨y0,y1⟩:=h.byte b[q % b.length] (AD l1);obtain⟨z0,z1⟩:=h.byte b[(q*7+3) % b.length] (AD l2);generalize b[q % b.length]=y at y0 y1 ⊢;generalize b[(q*7+3) % b.length]=z at z0 z1 ⊢;have d1:0<=BA (q:Int) (b.length:Int)/\BA (q:Int) (b.length:Int)<=q:=⟨Bn (by omega) (by omega),Bk _ (by omega)⟩;generalize BA (q:Int) (b.length:Int)=e at d1 ⊢;have x1:wr .i64 (wr .i64 (wr .i64 (wr .i64 (wr .i64 y*131)+wr .i64 (wr .i64 z*1117))+wr .i64 ((q:Int)*29))+wr .i64 (wr .i64 e*53))=y*131+z*1117+q*29+e*53:=by
    rw[aL (n:=y) (by omega) (by omega),aL (n:=z) (by omega) (by omega),aL (n:=e) (by omega) (by omega),aL (n:=y*131) (by omega) (by omega),aL (n:=z*1117) (by omega) (by omega),aL (n:=(q:Int)*29) (by omega) (by omega),aL (n:=e*53) (by omega) (by omega),
     aL (n:=y*131+z*1117) (by omega) (by omega),aL (n:=y*131+z*1117+(q:Int)*29) (by omega) (by omega),aL (n:=y*131+z*1117+(q:Int)*29+e*53) (by omega) (by omega)]
   rw[x1];have hx:0<=y*131+z*1117+q*29+e*53/\y*131+z*1117+q*29+e*53<=10000000:=by omega
   generalize y*131+z*1117+(q:Int)*29+e*53=X at hx ⊢;have d2:0<=BA X 64/\BA X 64<=X:=⟨Bn hx.1 (by omega),Bk _ hx.1⟩;rw[aL (n:=BA X 64) (by omega) (by omega)];exact⟨_,rfl,mods _ (za hx.1 (by omega) d2.1 (by omega))⟩
theorem uh (K:Nat)(t:List ag)(f:ag)(ht:t.length<=1048576)(hA:Asc (λg:ag=>g.1) t)(hK:1048577<K):Q53.f K (t,f,())=some (((b8 t f).1,(b8 t f).2,()),()):=by
 simp only[Q53.f,Q53.pre];obtain⟨o,ho,h1⟩:=ew K t f.1 ht hK;rw[h1];simp only[AA];cases ho with
 |at_ i hi e =>
  simp only;rw[kY hA hi e,decide_eq_true (by omega:((i:Nat):Int)>=0),ai hi];simp only[cond_true,AA,AH,ai hi];rw[show Q29.f K (f,t[i],())=_ from oi K f t[i]];simp only[AA];by_cases ho:bV f t[i]
  ·rw[decide_eq_true ho,if_pos ho];simp only[AJ,cond_false];rw[szb _ _ _ (by omega) (by show (AB ([]:List ag))+t.length<=_;simp;omega)];simp only[cond_true,AQ,ai hi,AA,AH];rw[nB (k:=λg:ag=>g.1) hA hi e]
  ·rw[decide_eq_false ho,if_neg ho];rfl
 |no h =>
  simp only;rw[im h,decide_eq_false (by omega:¬ (-1:Int)>=0)];simp only[cond_false];have fit:∀ m:Nat,m<=t.length->(bif decide ((0:Int)<=0)&&decide ((0:Int)<=(m:Int))&&decide ((m:Int)<=(AB t:Int))&&true then (bif decide ((AB ([]:List ag)+AB ((t.take (AC (m:Int))).drop (AC 0)))*32<=ah) then (bif decide ((AB ([]++((t.take (AC (m:Int))).drop (AC 0)))+AB ([f]))*32<=ah) then (bif decide ((0:Int)<=(m:Int))&&decide ((m:Int)<=(AB t:Int))&&decide ((AB t:Int)<=(AB t:Int))&&true then (bif decide ((AB (([]++((t.take (AC (m:Int))).drop (AC 0)))++([f]))+AB ((t.take (AC (AB t:Int))).drop (AC (m:Int))))*32<=ah) then (some (((([]++((t.take (AC (m:Int))).drop (AC 0)))++([f]))++((t.take (AC (AB t:Int))).drop (AC (m:Int))),true,()),())) else none) else none) else none) else none) else (none:Option ((List ag×Bool×Unit)×Unit)))=some ((t.take m++[f]++t.drop m,true,()),()):=by
   intro m hm;rw[decide_eq_true (by omega:(0:Int)<=0),decide_eq_true (by omega:(0:Int)<=(m:Int)),decide_eq_true (by omega:(m:Int)<=(AB t:Int)),decide_eq_true (by omega:(AB t:Int)<=(AB t:Int))];simp only[AH,A3,AW,AQ,At,Ax,cond_true];have h1:(t.take m).length=m:=by rw[Ac];omega
   have h2:(t.drop m).length=t.length-m:=Ag;rw[szb _ _ _ (by omega) (by simp only[AO];omega),szb _ _ _ (by omega) (by simp only[AI,AO];omega),szb _ _ _ (by omega) (by simp only[AN,AI,AO];omega)];rfl
  have:=cK (step:=λrec a=>Q53.l0.step K (t,f,()) rec a) t.length (λi=>(i:Int)) (λj=>∃ h:j<t.length,¬ t[j].1<f.1) (some ((t.take t.length++[f]++t.drop t.length,true,()),())) (λj=>some ((t.take j++[f]++t.drop j,true,()),())) ?_ ?_ t.length K 0 (by omega) (by omega)
  ·have fin:∀ m,m<=t.length->(∀ i,(hi:i<t.length)->i<m->t[i].1<f.1)->(∀ i,(hi:i<t.length)->m<=i->f.1<t[i].1)->t.take m++[f]++t.drop m=bP (λg=>g.1) f t:=λm hm lo hi=>nC (k:=λg:ag=>g.1) hm lo hi
   rcases this with ⟨h1,h2⟩|⟨j,_,h1,⟨h3,h4⟩,h5,h2⟩
   ·rw[fin t.length (AZ _) (λi hi _=>by
     have:=h1 i (Ah _) hi;exact Ao.1 λh=>this ⟨hi,h⟩) (λi hi h=>by omega)]at h2
    exact h2
   ·rw[fin j (by omega) (λi hi hij=>by
     have:=h5 i (Ah _) hij;exact Ao.1 λh=>this ⟨hi,h⟩) (λi hi hij=>by
     have hne:=h t[i] (AD hi);rcases Av hij with h6|h6
     ·have:=ek.1 hA j i h3 hi h6;omega
     ·subst h6;omega)]at h2
    exact h2
  ·intro rec i hi;simp only[Q53.l0.step];rw[bM (by omega:(i:Int)<(AB t:Int)),ai hi,av i (by omega)];simp only[cond_true,AA];rw[show idx t ((AC (i:Int):Nat):Int)=some t[i] by rw[AH];exact ai hi];simp only[AA];by_cases hlt:t[i].1<f.1
   ·exact .inl ⟨λ⟨_,h⟩=>h hlt,by rw[decide_eq_true hlt];rfl⟩
   ·exact .inr ⟨⟨hi,hlt⟩,by rw[decide_eq_false hlt];exact fit i (by omega)⟩
  ·intro rec;simp only[Q53.l0.step,bq,cond_false];exact fit t.length (AZ _)
def eP (t:List ag)(fs:List ag):List ag:=fs.foldl (λt f=>(b8 t f).1) t
theorem pS:∀ {fs t:List ag},aA t->(∀ f∈fs,bH f)->aA (eP t fs)
 |[],_,h,_=>h
 |f::fs,t,h,hf=>pS (fs:=fs) (js h (hf f (by simp))) (λg hg=>hf g (by simp[hg]))
theorem cI {t:List ag}(h:aA t):t.length<=1048576:=Al (gZ h.2 (λg hg=>(h.1 g hg).1)) (by decide)
theorem sK {R:Type}(a fs:List ag)(ha:aA a)(hf:∀ f∈fs,bH f)(fin:List ag->Option R){step:(List ag×Int->Option R)->List ag×Int->Option R}
  (h:∀ (rec:List ag×Int->Option R) (t:List ag) (i:Nat) (hi:i<fs.length),aA t->step rec (t,(i:Int))=rec ((b8 t fs[i]).1,((i+1:Nat):Int)))
  (hend:∀ (rec:List ag×Int->Option R) (t:List ag),step rec (t,(fs.length:Int))=fin t) {k:Nat} (hk:fs.length<k):ae step k (a,0)=fin (eP a fs):=by
 have:∀ (d i k:Nat) (t:List ag),i+d=fs.length->d<k->aA t->ae step k (t,(i:Int))=fin (eP t (fs.drop i)):=by
  intro d;induction d with
  |zero =>
   intro i k t hi hk _;obtain⟨k,rfl⟩:∃ k',k=k'+1:=⟨k-1,by omega⟩;have:i=fs.length:=by omega
   subst this;show step (ae step k) _=_;rw[hend,BF];rfl
  |succ d ih =>
   intro i k t hi hk ht;obtain⟨k,rfl⟩:∃ k',k=k'+1:=⟨k-1,by omega⟩;have hlt:i<fs.length:=by omega
   show step (ae step k) _=_;rw[h _ _ _ hlt ht,AL hlt];exact ih (i+1) k _ (by omega) (by omega) (js ht (hf _ (AD hlt)))
 have:=this fs.length 0 k a (by omega) hk ha
 rwa [AW]at this
theorem vq (f:ag):¬ bV f f:=by
 unfold bV;simp
theorem rJ {l:List aV}(hC:cY l)(T:List Int):aA (fb l T l.length):=by
 unfold fb;constructor
 ·intro f hf;obtain⟨i,hi,rfl⟩:=AR.1 hf;obtain⟨h0,h1⟩:=nE.1 (AF.1 hi).1;obtain⟨b,rfl⟩:=AE h0;have hb:b<l.length:=by omega
  rw[dM hb];exact (hC.1 l[b] (AD hb)).1
 ·unfold Asc;rw[Ak];have hp:((eO l.length).filter λi=>decide (i∈T)).Pairwise λ (a b:Int)=>(0<=a/\a<l.length)/\(0<=b/\b<l.length)/\a<b:=by
   refine A5 _ ?_;have:∀ xs:List Int,(∀ x∈xs,0<=x/\x<l.length)->xs.Pairwise (·<·)->xs.Pairwise λ (a b:Int)=>(0<=a/\a<l.length)/\(0<=b/\b<l.length)/\a<b:=by
    intro xs hx hxs;induction xs with
    |nil=>exact List.Pairwise.nil
    |cons x xs ih =>
     rw[AT]at hxs ⊢;exact⟨λy hy=>⟨hx x (by simp),hx y (by simp[hy]),hxs.1 y hy⟩,ih (λy hy=>hx y (by simp[hy])) hxs.2⟩
   exact this _ (λx hx=>nE.1 hx) (rH _)
  refine hp.imp λ {a b} h=>?_
  obtain⟨⟨a0,a1⟩,⟨b0,b1⟩,hab⟩:=h;obtain⟨i,rfl⟩:=AE a0;obtain⟨j,rfl⟩:=AE b0;have hi:i<l.length:=by omega
  have hj:j<l.length:=by omega
  rw[dM hi,dM hj];exact ek.1 hC.2 i j hi hj (by omega)
theorem wS {l:List aV}(hC:cY l)(T:List Int):cY (eG l T l.length):=by
 have hkey:∀ i (h:i<l.length),(fv l T (i:Int)).1=l[i].1:=λi h=>by
  unfold fv;rw[dM h];cases decide ((i:Int)∈T) <;> rfl
 have hle:∀ i (h:i<l.length),(fv l T (i:Int)).2<=l[i].2:=λi h=>by
  unfold fv;rw[dM h];cases decide ((i:Int)∈T) with
  |true=>show l[i].2-1<=l[i].2;omega
  |false=>exact Ad _
 unfold eG;constructor
 ·intro x hx;obtain⟨h1,h2⟩:=AF.1 hx;have h2:x.2>0:=by simpa using h2
  obtain⟨i,hi,rfl⟩:=AK h1;rw[k9]at hi;rw[la l T hi]at h2 ⊢;have:=(hC.1 l[i] (AD hi));refine⟨by rw[hkey i hi];exact this.1,?_,?_⟩
  ·omega
  ·have h3:=hle i hi;have h4:=this.2.2;omega
 ·unfold Asc;refine A5 _ ?_;rw[A7];intro i j hi hj hij;rw[k9]at hi hj;show (k8 l T l.length)[i].1.1<(k8 l T l.length)[j].1.1;rw[la l T hi,la l T hj,hkey i hi,hkey j hj];exact ek.1 hC.2 i j hi hj hij
def jy (n:aa)(to:Int):List ag :=
 bif (aW (aa.table n) to).2.2.1==2 then (b8 (fb (aa.cast n) (hI (aa.cast n)) (aa.cast n).length) (aW (aa.table n) to)).1 else fb (aa.cast n) (hI (aa.cast n)) (aa.cast n).length
def jz (n:aa):aa:=ip n (aa.table n) (eG (aa.cast n) (hI (aa.cast n)) (aa.cast n).length) (aa.doubts n)
theorem mD {n:aa}(h:cL n)(to:Int):aA (jy n to):=by
 have h1:=rJ h.cast (hI (aa.cast n));unfold jy;cases hs:(aW (aa.table n) to).2.2.1==2 with
 |false=>exact h1
 |true =>
  refine js h1 (ey h.table ?_).1;by_cases h2:∃ f∈aa.table n,f.1=to
  ·exact h2
  ·rw[jR (λg hg e=>h2 ⟨g,hg,e⟩)]at hs;simp at hs
theorem clen {n:aa}(h:cL n):(aa.cast n).length<=8:=gZ h.cast.2 (λx hx=>(h.cast.1 x hx).1.1)
theorem tq (K:Nat)(n:aa)(to:Int)(h:cL n)(hK:1048577<K):Q87.f K (n,to,())=some ((jy n to,jz n,()),()):=by
 have hc:=clen h;simp only[Q87.f];rw[show Q60.f K (n.2.2.2.2.2.2.2.2.2.1,3,())=_ from yZ K (aa.cast n) (by omega) h.cast hK];simp only[AA];obtain⟨o,ho,e1⟩:=ew K (aa.table n) to h.lt hK;rw[show Q45.f K (n.2.2.2.2.2.2.2.2.1,to,())=_ from e1];simp only[AA,jy];have hF:=rJ h.cast (hI (aa.cast n));cases ho with
 |no hno =>
  rw[jR hno];rfl
 |at_ j hj e =>
  have hfa:aW (aa.table n) to=(aa.table n)[j]:=by rw[<- e];exact jQ h.table.2 (AD hj)
  rw[hfa];simp only;rw[decide_eq_true (by omega:((j:Nat):Int)>=0),show idx n.2.2.2.2.2.2.2.2.1 ((j:Nat):Int)=some (aa.table n)[j] from ai hj];simp only[cond_true,AA];cases (aa.table n)[j].2.2.1==2 with
  |false=>rfl
  |true =>
   simp only[cond_true];rw[uh K _ _ (cI hF) hF.2 hK];rfl
def ct (n:aa)(k:Nat):Int:=A6 (n.2.2.2.2.2.2.2.1+(k:Int)) 8
def gr (n:aa)(k:Nat):Prop:=ct n k≠n.1/\dY (aW (aa.table n) (ct n k))=true
def askN (n:aa)(to:Int):aa :=
 let m:=jz n
 (m.1,m.2.1,m.2.2.1,m.2.2.2.1,m.2.2.2.2.1,m.2.2.2.2.2.1,m.2.2.2.2.2.2.1+1,to+1,m.2.2.2.2.2.2.2.2.1,m.2.2.2.2.2.2.2.2.2.1,(to,m.2.2.2.2.2.1,m.2.2.2.2.2.2.1+1,false),m.2.2.2.2.2.2.2.2.2.2.2)
def pingW (n:aa)(to:Int):au:=(1,1,n.1,to,n.2.2.2.2.2.2.1+1,n.1,aa.coord n,jy n to)
theorem x8 (K:Nat)(n:aa)(h:cL n)(ht0:0<=n.2.2.2.2.2.2.2.1)(ht1:n.2.2.2.2.2.2.2.1<=8)(hK:1048577<K) :
  ∃ to:Int,Q86.f K (n,())=some ((to,()),())/\((to=-1/\∀ k,k<8->¬ gr n k)\/∃ k,k<8/\gr n k/\(∀ j,j<k->¬ gr n j)/\to=ct n k):=by
 have hcand:∀ k:Nat,k<8->wr .i64 (n.2.2.2.2.2.2.2.1+(k:Int))=n.2.2.2.2.2.2.2.1+(k:Int):=λk hk=>aL (by omega) (by omega)
 have:=cK (step:=λrec a=>Q86.l0.step K (n,()) rec a) 8 (λi=>(i:Int)) (gr n) (some ((-1,()),())) (λj=>some ((ct n j,()),())) ?_ ?_ 8 K 0 (by omega) (by omega)
 ·rcases this with ⟨h1,h2⟩|⟨j,_,h1,h3,h4,h2⟩
  ·exact⟨-1,h2,.inl ⟨rfl,λk hk=>h1 k (Ah _) hk⟩⟩
  ·exact⟨_,h2,.inr ⟨j,h1,h3,λm hm=>h4 m (Ah _) hm,rfl⟩⟩
 ·intro rec i hi;simp only[Q86.l0.step];rw[decide_eq_true (by omega:(i:Int)<=7),hcand i hi,av i (by omega)];simp only[cond_true];show (¬ gr n i/\(bif ct n i != n.1 then ((Q83.f K (aa.table n,ct n i,())).bind λy1=>bif y1.1.1 then (some ((ct n i,()),())) else (rec ((i+1:Nat):Int))) else (rec ((i+1:Nat):Int)))=rec ((i+1:Nat):Int))\/(gr n i/\(bif ct n i != n.1 then ((Q83.f K (aa.table n,ct n i,())).bind λy1=>bif y1.1.1 then (some ((ct n i,()),())) else (rec ((i+1:Nat):Int))) else (rec ((i+1:Nat):Int)))=some ((ct n i,()),()));rw[rC K (aa.table n) (ct n i) h.table h.lt hK];by_cases hme:ct n i=n.1
  ·exact .inl ⟨λhc=>hc.1 hme,by rw[show (ct n i != n.1)=false by simpa using hme];rfl⟩
  ·rw[show (ct n i != n.1)=true by simpa using hme];cases hl:dY (aW (aa.table n) (ct n i)) with
   |true=>exact .inr ⟨⟨hme,hl⟩,rfl⟩
   |false=>exact .inl ⟨λhc=>(by rw[hc.2]at hl;cases hl),rfl⟩
 ·intro rec;simp only[Q86.l0.step];rfl
theorem ui (K:Nat)(xs:List bf)(φ:bf×bf×Unit->Option Int)(lt:bf->bf->Bool)(hφ:∀ y z,∃ c,φ (y,z,())=some c/\decide (c<0)=lt y z)(hx:xs.length<=1048576)(hK:1048577<K) :
  Q158.f K (xs,0,(xs.length:Int),φ,())=some ((),(dL lt [] xs,())):=by
 refine wP (step:=λrec a=>Q158.l0.step K (xs,0,(xs.length:Int),φ,()) (Q158.l1 K (xs,0,(xs.length:Int),φ,()) rec) rec a) lt xs hx ?_ ?_ (by omega)
 ·intro rec done x r hl;simp only[Q158.l0.step];rw[decide_eq_true (by omega:((done.length:Int))<(xs.length:Int))];simp only[cond_true];have:=ud lt (done.length:Int) rec (step:=λrec1 a=>Q158.l1.step K (xs,0,(xs.length:Int),φ,()) rec rec1 a) ?_ ?_ done.reverse r x K (by simp;omega) (by simp;omega)
  ·rw[An,BX]at this;exact this
  ·intro rec1 A y z B hl2;simp only[Q158.l1.step];have e1:wr .i64 (((A.length+1:Nat):Int)-1)=(A.length:Int):=(aL (by omega) (by omega)).trans (by omega);rw[decide_eq_true (by omega:((A.length+1:Nat):Int)>0)];obtain⟨c,hc,hd⟩:=hφ z y;simp only[cond_true,e1,AH,wQ,x3,AA,hc,hd,wR,x4]
  ·intro rec1 ys;simp only[Q158.l1.step];rw[decide_eq_false (by omega:¬ (0:Int)>0)];rfl
 ·intro rec ys i hi;simp only[Q158.l0.step];rw[decide_eq_false (by omega:¬ i<(xs.length:Int))];rfl
theorem vr (K:Nat)(xs:List bf)(φ:bf×bf×Unit->Option Int)(lt:bf->bf->Bool)(hφ:∀ y z,∃ c,φ (y,z,())=some c/\decide (c<0)=lt y z)(hx:xs.length<=19)(hK:1048577<K) :
  Q160.f K (xs,φ,())=some ((),(dL lt [] xs,())):=by
 simp only[Q160.f];have:Q159.f K (xs,(xs.length:Int),φ,())=some ((),(dL lt [] xs,())):=by
  obtain⟨k,rfl⟩:∃ k',K=k'+1:=⟨K-1,by omega⟩;show Q159.l0.step _ _ _ _ _=_;simp only[Q159.l0.step];rw[decide_eq_false (by omega:¬ (20:Int)<=(xs.length:Int))];simp only[cond_false];rw[ui (k+1) xs φ lt hφ (by omega) hK];simp only[AA];have hs:∀ (rec1:Q159.A_l1->Option Q159.Res),Q159.l1.step (k+1) (xs,(xs.length:Int),φ,()) (Q159.l2 (k+1) (xs,(xs.length:Int),φ,()) rec1) rec1 (dL lt [] xs,20)=some ((),(dL lt [] xs,())):=by
   intro rec1;simp only[Q159.l1.step];rw[decide_eq_false (by omega:¬ (20:Int)<(xs.length:Int))];rfl
  exact hs _
 rw[this];rfl
abbrev kE:=Int×ByteArray×Bool
abbrev bW:=List aa×List kE×List Int×List ag
abbrev bW.radio (w:bW):List kE:=w.2.1
abbrev bW.sides (w:bW):List Int:=w.2.2.1
abbrev bW.born (w:bW):List ag:=w.2.2.2
theorem gD {n:Int}(h:InP n 0 7):aq n=n / 4:=by
 obtain⟨h1,h2⟩:=h;unfold aq;rw[Ab h1,aL (by omega) (by omega)]
theorem tr {α:Type}{k:α->Int}{xs:List α}(h:Asc k xs):∀ i (hi:i<xs.length),k (xs[0]'(by omega))+i<=k xs[i]:=by
 rw[fV]at h;intro i;induction i with
 |zero=>intro hi;simp
 |succ i ih =>
  intro hi;have h1:=ih (by omega);have h2:=h (i+1) hi (by omega);simp only[Nat.add_sub_cancel]at h2;omega
theorem sL {t:List ag}{s:Int}(hT:aA t)(hS:b7 t s):t.length<=4:=by
 cases h:t.length with
 |zero=>omega
 |succ m =>
  have hlt:m<t.length:=by omega
  have h0:0<t.length:=by omega
  have h1:=tr hT.2 m hlt;have a1:=hS _ (AD hlt);have a2:=hS _ (AD h0);have b1:=(hT.1 _ (AD hlt)).1;have b2:=(hT.1 _ (AD h0)).1;rw[gD b1]at a1;rw[gD b2]at a2;omega
theorem rK {me:Int}{l:List cD}(hm:InP me 0 7)(h:cP me l):l=[]\/∃ x,l=[x]:=by
 match l,h with
 |[],_=>exact .inl rfl
 |[x],_=>exact .inr ⟨x,rfl⟩
 |x::y::r,h =>
  exfalso;have h1:=h.1 x (by simp);have h2:=h.1 y (by simp);have h3:x.1<y.1:=by
   have:=h.2;unfold Asc at this;rw[AT]at this;exact this.1 y (by simp)
  have e:=gD hm;obtain⟨⟨a1,a2⟩,a3,_⟩:=h1;obtain⟨⟨b1,b2⟩,b3,_⟩:=h2;obtain⟨m1,m2⟩:=hm;rw[e]at a3 b3;omega
theorem kF {a:Int}{m:Nat}(hm:m<4611686018427387904):0<=bh .i64 a (m:Int)/\bh .i64 a (m:Int)<=m:=by
 have h:(BitVec.ofInt 64 a &&& BitVec.ofInt 64 (m:Int)).toNat<=m:=by
  rw[BitVec.toNat_and];refine Al Nat.and_le_right ?_;rw[BitVec.toNat_ofInt];omega
 show 0<=IntKind.i64.wrap (((BitVec.ofInt 64 a &&& BitVec.ofInt 64 (m:Int)).toNat:Nat):Int)/\IntKind.i64.wrap (((BitVec.ofInt 64 a &&& BitVec.ofInt 64 (m:Int)).toNat:Nat):Int)<=m;generalize (BitVec.ofInt 64 a &&& BitVec.ofInt 64 (m:Int)).toNat=r at h ⊢;rw[Bj];omega
def fW (g:List Int)(d:Int):Int:=g.getD (AC (A6 (bh .i64 d 255) (g.length:Int))) 0
theorem gE {g:List Int}{d:Int}(h:g≠[]):idx g (A6 (bh .i64 d 255) (g.length:Int))=some (fW g d)/\idx g ((AC (A6 (bh .i64 d 255) (g.length:Int)):Nat):Int)=some (fW g d)/\fW g d∈g:=by
 have hl:0<g.length:=BG.2 h;have h0:=(kF (a:=d) (m:=255) (by omega)).1;have h1:0<=A6 (bh .i64 d 255) (g.length:Int):=BV _ h0;have h2:A6 (bh .i64 d 255) (g.length:Int)<g.length:=BJ _ (by omega);unfold fW;obtain⟨v,hv⟩:=AE h1;rw[hv]at h2 ⊢;have h3:v<g.length:=by omega
 rw[AH,ai h3,List.getD_eq_getElem?_getD,AM h3];exact⟨rfl,rfl,AD h3⟩
def lb (n:aa)(site d:Int):Int :=
 bif decide (e9 (eF (aa.others n) site)≠[])&&bh .i64 d 4==0 then fW (e9 (eF (aa.others n) site)) (Aa d (2 ^ 3)) else site*4+bh .i64 (Aa d (2 ^ 3)) 3
structure qN (n:aa):Prop where
 short:(aa.others n).length<=1
 table:∀ x∈aa.others n,aA x.2/\x.2.length<=1048576
theorem zb {site d:Int}(h0:0<=site)(h1:site<=1):wr .i64 (wr .i64 (site*4)+bh .i64 (Aa d (2 ^ 3)) 3)=site*4+bh .i64 (Aa d (2 ^ 3)) 3:=by
 obtain⟨b0,b1⟩:=kF (a:=Aa d (2 ^ 3)) (m:=3) (by omega);have b0:0<=bh .i64 (Aa d (2 ^ 3)) 3:=b0;have b1:bh .i64 (Aa d (2 ^ 3)) 3<=3:=b1;rw[aL (n:=site*4) (by omega) (by omega),aL (by omega) (by omega)]
theorem far_s (K:Nat)(n:aa)(site d:Int)(h:qN n)(h0:0<=site)(h1:site<=1)(hK:1048577<K):Q92.f K (n,site,d,())=some ((lb n site d,()),()):=by
 obtain⟨k,rfl⟩:∃ k,K=k+2:=⟨K-2,by omega⟩;show Q92.l0.step (k+2) (n,site,d,()) (ae (λrec a=>Q92.l0.step (k+2) (n,site,d,()) rec a) (k+1)) 0=_;have hend:∀ (rec:Int->Option ((Int×Unit)×Unit)) (a:Int),¬ a<(aa.others n).length->Q92.l0.step (k+2) (n,site,d,()) rec a=some ((site*4+bh .i64 (Aa d (2 ^ 3)) 3,()),()):=by
  intro rec a ha;simp only[Q92.l0.step];rw[show decide (a<(AB n.2.2.2.2.2.2.2.2.2.2.2.2.2.2:Int))=false from decide_eq_false ha,zb h0 h1];rfl
 match ho:aa.others n with
 |[] =>
  rw[hend _ _ (by rw[ho];simp),lb,ho];rfl
 |[x] =>
  have hx:=h.table x (by rw[ho];simp);have hrest:ae (λrec a=>Q92.l0.step (k+2) (n,site,d,()) rec a) (k+1) 1=some ((site*4+bh .i64 (Aa d (2 ^ 3)) 3,()),()):=hend _ _ (by rw[ho];simp);generalize ae (λrec a=>Q92.l0.step (k+2) (n,site,d,()) rec a) (k+1)=rec at hrest ⊢;simp only[Q92.l0.step];rw[show decide ((0:Int)<(AB n.2.2.2.2.2.2.2.2.2.2.2.2.2.2:Int))=true from decide_eq_true (by show (0:Int)<((aa.others n).length:Int);rw[ho];simp),show idx n.2.2.2.2.2.2.2.2.2.2.2.2.2.2 (0:Int)=some x by show idx (aa.others n) (0:Int)=some x;rw[ho];rfl,show wr .i64 ((0:Int)+1)=1 from rfl];simp only[cond_true,AA,hrest];rw[lb,ho];cases hs:x.1==site with
  |false =>
   simp only[cond_false,eF,BS,hs,List.find?_nil];rfl
  |true =>
   simp only[cond_true,eF,BS,hs,Option.map_some,Bi];rw[tj (k+2) x.2 hx.2 hK];simp only[AA];by_cases hg:e9 x.2=[]
   ·rw[hg];rfl
   ·have hl:0<(e9 x.2).length:=BG.2 hg;rw[decide_eq_true hg,decide_eq_true (by omega:((e9 x.2).length:Int)>0)];simp only[cond_true,Ap];cases bh .i64 d 4==0 with
    |false=>rfl
    |true =>
     simp only[cond_true];rw[decide_eq_false (by omega:¬ ((e9 x.2).length:Int)=0),(gE hg).1,(gE hg).2.1];rfl
 |_::_::_=>exact absurd h.short (by rw[ho];simp)
def kG (n:aa):Bool:=decide (n.1∈e9 (aa.table n))
theorem wT (K:Nat)(n:aa)(ht:(aa.table n).length<=1048576)(hK:1048577<K):Q91.f K (n,())=rb (kG n):=by
 simp only[Q91.f,Q91.pre];rw[show Q90.f K (n.2.2.2.2.2.2.2.2.1,2,())=_ from tj K (aa.table n) ht hK];simp only[AA];have hl:=vi (aa.table n);unfold kG;generalize e9 (aa.table n)=g at hl ⊢;have:=cK (step:=λrec a=>Q91.l0.step K (n,()) rec a) g.length (λi=>(g,(i:Int))) (λj=>∃ h:j<g.length,g[j]=n.1) (rb false) (λ_=>rb true) ?_ ?_ g.length K 0 (by omega) (by omega)
 ·rcases this with ⟨h1,h2⟩|⟨j,_,h1,⟨h3,h4⟩,_,h2⟩
  ·rw[decide_eq_false (λhm=>by
    obtain⟨i,hi,e⟩:=AK hm;exact h1 i (Ah _) hi ⟨hi,e⟩)]
   exact h2
  ·rw[decide_eq_true (h4 ▸ AD h3:n.1∈g)];exact h2
 ·intro rec i hi;simp only[Q91.l0.step];rw[bM (by omega:(i:Int)<(AB g:Int)),ai hi,av i (by omega),AH,ai hi];simp only[cond_true,AA];by_cases h:g[i]=n.1
  ·exact .inr ⟨⟨hi,h⟩,by rw[show (g[i]==n.1)=true by simpa using h];rfl⟩
  ·exact .inl ⟨λ⟨_,h'⟩=>h h',by rw[show (g[i]==n.1)=false by simpa using h];rfl⟩
 ·intro rec;simp only[Q91.l0.step,bq];rfl
def wanW (n:aa)(d site:Int):au:=(2,(oo 6 n (lb n site d)).2)
def lf (n:aa)(d:Int):List au:=bif kG n then (([0,1]:List Int).filter (λs=>s != aq n.1)).map (wanW n d) else []
theorem wan_s (K:Nat)(n:aa)(d:Int)(h:qN n)(ht:(aa.table n).length<=1048576)(hK:1048577<K):Q93.f K (n,d,())=some ((lf n d,()),()):=by
 simp only[Q93.f,Q93.pre];rw[wT K n ht hK];simp only[AA,lf];cases kG n with
 |false=>rfl
 |true =>
  simp only[AJ,cond_false,cond_true];refine pg (step:=λrec a=>Q93.l0.step K (n,d,()) rec a) ([0,1]:List Int) (λs=>s != aq n.1) (wanW n d) (λacc i=>(acc,(i:Int))) (λws=>some ((ws,()),())) ?_ ?_ (by simp;omega)
  ·intro rec acc i hi ha;have hi2:i<2:=hi;have hv:([0,1]:List Int)[i]=(i:Int):=by
    have:i=0\/i=1:=by omega
    rcases this with rfl|rfl <;> rfl
   simp only[Q93.l0.step,hv];rw[decide_eq_true (by omega:(i:Int)<=1),av i (by omega),dE K n.1];simp only[cond_true,AA];cases (i:Int) != aq n.1 with
   |false=>rfl
   |true =>
    simp only[cond_true];rw[far_s K n (i:Int) d h (by omega) (by omega) hK];simp only[AA];refine (congrArg (λo=>AG o _) (mC K n 6 (lb n (i:Int) d) ht)).trans ?_;simp only[AA];rw[szw _ _ _ (by omega) (by simp;omega)];rfl
  ·intro rec acc ha;simp only[Q93.l0.step];rfl
def rL (n:aa)(f:ag):Bool:=f.2.2.1 != 4&&f.1 != n.1
def eQ (n:aa):List Int:=((aa.table n).filter (rL n)).map (·.1)
def rM (n:aa)(to:Int):List au:=match aa.others n with
 |[]=>[]
 |x::_=>[(1,6,n.1,to,0,n.1,aa.coord n,x.2)]
def ji (n:aa)(draw:Int):List au :=
 bif bh .i64 draw 3==1 then lf n (Aa draw (2 ^ 2)) else
 bif bh .i64 draw 3==3||decide (eQ n=[]) then [] else
 bif bh .i64 draw 3==0 then [oo 4 n (fW (eQ n) (Aa draw (2 ^ 2)))] else rM n (fW (eQ n) (Aa draw (2 ^ 2)))
theorem and3 (a:Int):bh .i64 a 3=0\/bh .i64 a 3=1\/bh .i64 a 3=2\/bh .i64 a 3=3:=by
 obtain⟨b0,b1⟩:=kF (a:=a) (m:=3) (by omega);have b0:0<=bh .i64 a 3:=b0;have b1:bh .i64 a 3<=3:=b1;omega
theorem vt {n:aa}(hT:aA (aa.table n)){v:Int}(hv:v∈eQ n):0<=v:=by
 obtain⟨f,hf,rfl⟩:=AR.1 hv;exact (hT.1 f (AF.1 hf).1).1.1
theorem zc (K:Nat)(n:aa)(d:Int)(ht:(aa.table n).length<=1048576)(hK:1048577<K):Q89.f K (n,d,())=some ((bif decide (eQ n=[]) then -1 else fW (eQ n) d,()),()):=by
 refine (od (step:=λrec a=>Q89.l0.step K (n,d,()) rec a) (aa.table n) (rL n) (λf=>f.1) (λxs=>some ((bif decide (xs=[]) then -1 else fW xs d,()),())) ?_ ?_ (by omega)).trans rfl
 ·intro rec acc i hi ha;simp only[Q89.l0.step];rw[show decide ((i:Int)<(AB n.2.2.2.2.2.2.2.2.1:Int))=true from bM (by omega:(i:Int)<(AB (aa.table n):Int)),show idx n.2.2.2.2.2.2.2.2.1 (i:Int)=some (aa.table n)[i] from ai hi,av i (by omega)];simp only[cond_true,AA,rL];rw[szb _ _ _ (by omega) (by simp;omega)];cases (aa.table n)[i].1 != n.1 <;> cases (aa.table n)[i].2.2.1 != 4 <;> rfl
 ·intro rec acc _;simp only[Q89.l0.step];rw[show decide ((AB (aa.table n):Int)<(AB n.2.2.2.2.2.2.2.2.1:Int))=false from bq _];simp only[cond_false];by_cases hg:acc=[]
  ·subst hg;rfl
  ·have hl:0<acc.length:=BG.2 hg;rw[show ((acc.length:Int)==0)=false by simp;exact hg,decide_eq_false (by omega:¬ (acc.length:Int)=0),decide_eq_false hg,(gE hg).1,(gE hg).2.1];rfl
theorem zd (K:Nat)(n:aa)(draw:Int)(h:qN n)(hT:aA (aa.table n))(ht:(aa.table n).length<=1048576)(hK:1048577<K):Q94.f K (n,draw,())=some ((ji n draw,()),()):=by
 simp only[Q94.f];rw[zc K n _ ht hK];simp only[AA];rw[wan_s K n _ h ht hK];simp only[AA,ji];by_cases ht0:eQ n=[]
 ·rw[decide_eq_true ht0];simp only[cond_true,Bd,show decide ((-1:Int)>=0)=false from rfl,cond_false];rcases and3 draw with e|e|e|e <;> rw[e] <;> rfl
 ·have h0:=vt hT (gE (d:=Aa draw (2 ^ 2)) ht0).2.2;rw[decide_eq_false ht0];simp only[cond_false,Bq];rw[decide_eq_true (by omega:fW (eQ n) (Aa draw (2 ^ 2))>=0)];simp only[cond_true];rw[show Q44.f K (n,4,fW (eQ n) (Aa draw (2 ^ 2)),0,n.1,n.2.2.2.2.2.2.2.2.1,())=_ from mC K n 4 _ ht];simp only[AA];rcases and3 draw with e|e|e|e
  ·rw[e];rfl
  ·rw[e];rfl
  ·rw[e];simp only[show ((2:Int)==0)=false from rfl,show ((2:Int)==1)=false from rfl,show ((2:Int)==2)=true from rfl,show ((2:Int)==3)=false from rfl,cond_false,cond_true];unfold rM
   match ho:aa.others n with
   |[] =>
    rw[show decide ((AB n.2.2.2.2.2.2.2.2.2.2.2.2.2.2:Int)>0)=false by show decide (((aa.others n).length:Int)>0)=false;rw[ho];rfl];rfl
   |[x] =>
    have hx:=h.table x (by rw[ho];simp);have hl:(aa.others n).length=1:=by rw[ho];rfl
    rw[show decide ((AB n.2.2.2.2.2.2.2.2.2.2.2.2.2.2:Int)>0)=true by show decide (((aa.others n).length:Int)>0)=true;rw[hl];rfl,show decide ((AB n.2.2.2.2.2.2.2.2.2.2.2.2.2.2:Int)=0)=false by show decide (((aa.others n).length:Int)=0)=false;rw[hl];rfl];simp only[cond_true,cond_false];rw[show idx n.2.2.2.2.2.2.2.2.2.2.2.2.2.2 (A6 (bh .i64 (Aa draw (2 ^ 10)) 255) (AB n.2.2.2.2.2.2.2.2.2.2.2.2.2.2:Int))=some x by
     show idx (aa.others n) (A6 (bh .i64 (Aa draw (2 ^ 10)) 255) ((aa.others n).length:Int))=some x;rw[hl,ho,show ((1:Nat):Int)=1 from rfl,Int.tmod_one];rfl]
    simp only[AA,Q44.f];rw[szb _ _ _ (by omega) (by have:=hx.2;simp;omega)];rfl
   |_::_::_=>exact absurd h.short (by rw[ho];simp)
  ·rw[e];rfl
def rk (f:ag):Int:=f.2.1*16+f.2.2.1*2+(if f.2.2.2=true then 1 else 0)
theorem pi {f g:ag}(hf:bH f)(hg:bH g):bV f g<->rk g<rk f:=by
 obtain⟨_,_,h1,h2⟩:=hf;obtain⟨_,_,h3,h4⟩:=hg;unfold bV rk;by_cases a:f.2.1=g.2.1
 ·rw[if_neg (by simpa using a)];by_cases c:f.2.2.1=g.2.2.1
  ·rw[if_neg (by simpa using c),a,c];cases f.2.2.2 <;> cases g.2.2.2 <;> simp <;> omega
  ·rw[if_pos c];cases f.2.2.2 <;> cases g.2.2.2 <;> simp <;> omega
 ·rw[if_pos a];cases f.2.2.2 <;> cases g.2.2.2 <;> simp <;> omega
theorem mQ {t:List ag}(hA:Asc (λg:ag=>g.1) t)(f:ag):b8 t f=(t,false)\/(b8 t f=(bP (λg=>g.1) f t,true)/\∀ g∈t,g.1=f.1->bV f g):=by
 by_cases h:∃ g∈t,g.1=f.1
 ·obtain⟨g,hg,e⟩:=h;obtain⟨i,hi,rfl⟩:=AK hg;rw[kY hA hi e];by_cases ho:bV f t[i]
  ·rw[if_pos ho];refine .inr ⟨rfl,λg' hg' e'=>?_⟩;rw[gh hA hg' hg (by rw[e,e'])];exact ho
  ·rw[if_neg ho];exact .inl rfl
 ·have h':∀ g∈t,g.1≠f.1:=λg hg e=>h ⟨g,hg,e⟩
  exact .inr ⟨im h',λg hg e=>absurd e (h' g hg)⟩
theorem mR {n:aa}(hT:aA (aa.table n)):gO n<->(∀ d∈aa.doubts n,kB n d)/\Asc (λd:ce=>d.1) (aa.doubts n)/\∀ f∈aa.table n,f.2.2.1=2->∃ d∈aa.doubts n,d.1=f.1:=by
 have hs:((aS (aa.table n)).map (λf:ag=>f.1)).Pairwise (·<·):=by
  rw[Ak];exact A5 _ hT.2
 constructor
 ·rintro⟨h1,h2,h3⟩;refine⟨h1,h2,λf hf hf2=>?_⟩;have hd:((aa.doubts n).map (λd:ce=>d.1)).Pairwise (·<·):=by rw[Ak];exact h2
  have:=(il _ _ hd hs (λx hx=>by
   obtain⟨d,hd,rfl⟩:=AR.1 hx;obtain⟨⟨g,hg,e,e2,_⟩,_⟩:=h1 d hd;exact AR.2 ⟨g,AF.2 ⟨hg,by simpa using e2⟩,e⟩)).2 (by rw[AX,AX,h3])
  have hm:f.1∈(aS (aa.table n)).map (λf:ag=>f.1):=AR.2 ⟨f,AF.2 ⟨hf,by simpa using hf2⟩,rfl⟩;rw[<- this]at hm;obtain⟨d,hd,e⟩:=AR.1 hm;exact⟨d,hd,e⟩
 ·rintro⟨h1,h2,h3⟩;refine⟨h1,h2,?_⟩;have hd:((aa.doubts n).map (λd:ce=>d.1)).Pairwise (·<·):=by rw[Ak];exact h2
  have l1:=(il _ _ hd hs (λx hx=>by
   obtain⟨d,hd,rfl⟩:=AR.1 hx;obtain⟨⟨g,hg,e,e2,_⟩,_⟩:=h1 d hd;exact AR.2 ⟨g,AF.2 ⟨hg,by simpa using e2⟩,e⟩)).1
  have l2:=(il _ _ hs hd (λx hx=>by
   obtain⟨f,hf,rfl⟩:=AR.1 hx;obtain⟨hf1,hf2⟩:=AF.1 hf;obtain⟨d,hd,e⟩:=h3 f hf1 (by simpa using hf2);exact AR.2 ⟨d,hd,e⟩)).1
  rw[AX,AX]at l1 l2;omega
def ca (n:aa):Int:=n.2.2.2.2.2.1
def eR (n:aa)(b:Int):Prop:=InP b 0 7/\aq b=aq n.1
theorem mS {n:aa}(hA:Asc (λg:ag=>g.1) (aa.table n))(f:ag)(b:Int):sayOf n f b=n \/
  (sayOf n f b=ip n (bP (λg=>g.1) f (aa.table n)) (eN (aa.cast n) f) (bif jO n f then aa.doubts n else cZ (ca n) (aa.doubts n) f b)/\∀ g∈aa.table n,g.1=f.1->bV f g):=by
 rcases mQ hA f with h|⟨h,ho⟩
 ·left;unfold sayOf;rw[h];rfl
 ·right;refine⟨?_,ho⟩;unfold sayOf;rw[h];rfl
theorem uj {n:aa}{f:ag}{b:Int}(hT:aA (aa.table n))(hD:gO n)(hf:bH f)(hb:eR n b)(hn:0<=ca n)(c:List aV) :
  gO (ip n (bP (λg=>g.1) f (aa.table n)) c (bif jO n f then aa.doubts n else cZ (ca n) (aa.doubts n) f b)):=by
 obtain⟨h1,h2,h3⟩:=(mR hT).1 hD;have hT':aA (bP (λg:ag=>g.1) f (aa.table n)):=⟨λg hg=>by
  rcases aY.1 hg with rfl|⟨hg,_⟩
  ·exact hf
  ·exact hT.1 g hg,eD hT.2⟩
 refine (mR (n:=ip n _ c _) hT').2 ?_;have old:∀ d∈aa.doubts n,d.1≠f.1->∀ ds,kB (ip n (bP (λg:ag=>g.1) f (aa.table n)) c ds) d:=λd hd hne ds=>by
  obtain⟨⟨g,hg,e1,e2,e3⟩,r⟩:=h1 d hd;exact⟨⟨g,aY.2 (.inr ⟨hg,by rw[e1];exact hne⟩),e1,e2,e3⟩,r⟩
 have cov:∀ g∈bP (λg:ag=>g.1) f (aa.table n),g.1≠f.1->g.2.2.1=2->∃ d∈aa.doubts n,d.1=g.1:=λg hg hne h=>by
  rcases aY.1 hg with rfl|⟨hg,_⟩
  ·exact absurd rfl hne
  ·exact h3 g hg h
 cases hs:jO n f with
 |true =>
  obtain⟨g0,hg0,s1,s2,s3⟩:=of_decide_eq_true hs;refine⟨λd hd=>?_,h2,λg hg h=>?_⟩
  ·by_cases hne:d.1=f.1
   ·obtain⟨⟨g,hg,e1,e2,e3⟩,r⟩:=h1 d hd;rw[gh hT.2 hg hg0 (by rw[e1,s1,hne])]at e2 e3;exact⟨⟨f,aY.2 (.inl rfl),hne.symm,by rw[<- s3];exact e2,by rw[<- s2];exact e3⟩,r⟩
   ·exact old d hd hne _
  ·by_cases hne:g.1=f.1
   ·have hgf:g=f:=by
     rcases aY.1 hg with h|⟨_,h⟩
     ·exact h
     ·exact absurd hne h
    rw[hgf]at h ⊢;obtain⟨d,hd,e⟩:=h3 g0 hg0 (by rw[s3];exact h);exact⟨d,hd,by rw[e,s1]⟩
   ·exact cov g hg hne h
 |false =>
  by_cases h2f:f.2.2.1=2
  ·have e:cZ (ca n) (aa.doubts n) f b=bP (λd=>d.1) (mkD (ca n) f b) (aa.doubts n):=by unfold cZ;rw[if_pos h2f]
   simp only[cond_false];rw[e];refine⟨λd hd=>?_,eD h2,λg hg h=>?_⟩
   ·rcases aY.1 hd with rfl|⟨hd,hne⟩
    ·exact⟨⟨f,aY.2 (.inl rfl),rfl,h2f,rfl⟩,⟨hn,Ad _⟩,List.cons_ne_nil _ _,λx hx=>by rw[AS.1 hx];exact hb,BP _ _⟩
    ·exact old d hd hne _
   ·by_cases hne:g.1=f.1
    ·exact⟨mkD (ca n) f b,aY.2 (.inl rfl),hne.symm⟩
    ·obtain⟨d,hd,e⟩:=cov g hg hne h;exact⟨d,aY.2 (.inr ⟨hd,λe'=>hne (e.symm.trans e')⟩),e⟩
  ·have e:cZ (ca n) (aa.doubts n) f b=(aa.doubts n).filter (λd=>!(d.1==f.1)):=by unfold cZ;rw[if_neg h2f]
   simp only[cond_false];rw[e];refine⟨λd hd=>?_,ol h2 _,λg hg h=>?_⟩
   ·obtain⟨hd,hne⟩:=AF.1 hd;exact old d hd (by simpa using hne) _
   ·have hne:g.1≠f.1:=λhne=>by
     rcases aY.1 hg with h'|⟨_,h'⟩
     ·rw[h']at h;exact h2f h
     ·exact h' hne
    obtain⟨d,hd,e⟩:=cov g hg hne h;exact⟨d,AF.2 ⟨hd,by rw[e];simpa using hne⟩,e⟩
theorem uk {n:aa}{f:ag}(hT:aA (aa.table n))(hC:cY (aa.cast n))(hV:gk (aa.table n) (aa.cast n))(hf:bH f)(ho:∀ g∈aa.table n,g.1=f.1->bV f g) :
  gk (bP (λg=>g.1) f (aa.table n)) (eN (aa.cast n) f):=by
 have old:∀ x∈aa.cast n,∃ g∈bP (λg:ag=>g.1) f (aa.table n),g.1=x.1.1/\¬ bV x.1 g:=λx hx=>by
  obtain⟨g,hg,e,hno⟩:=hV x hx;by_cases hne:g.1=f.1
  ·refine⟨f,aY.2 (.inl rfl),by rw[<- e,hne],λh=>hno ?_⟩;have hx':=(hC.1 x hx).1;have hg':=hT.1 g hg;have:=ho g hg hne;rw[pi hf hg']at this;rw[pi hx' hf]at h;rw[pi hx' hg'];omega
  ·exact⟨g,aY.2 (.inr ⟨hg,hne⟩),e,hno⟩
 intro x hx;unfold eN at hx;split at hx
 ·exact old x hx
 ·rcases aY.1 hx with rfl|⟨hx,_⟩
  ·exact⟨f,aY.2 (.inl rfl),rfl,vq f⟩
  ·exact old x hx
structure UpX (n:aa):Prop where
 me:InP n.1 0 7
 now0:0<=ca n
 table:aA (aa.table n)
 site:b7 (aa.table n) (aq n.1)
 cast:cY (aa.cast n)
 vs:gk (aa.table n) (aa.cast n)
 probe:cO n
 doubts:gO n
 coord:cr (aa.coord n)
 places:dT n.1 (aa.places n)
 others:cP n.1 (aa.others n)
theorem UpX.of {n:aa}(h:UpP n)(hm:InP n.1 0 7)(h0:0<=ca n):UpX n:=by
 obtain⟨hT,hS,_,⟨hC,hV⟩,hP,hD,hco,hpl,hot⟩:=h;exact⟨hm,h0,hT,hS,hC,hV,hP,hD,hco,hpl,hot⟩
theorem UpX.up {n:aa}(h:UpX n)(hs:cS n):UpP n:=⟨h.table,h.site,hs,⟨h.cast,h.vs⟩,h.probe,h.doubts,h.coord,h.places,h.others⟩
theorem UpX.say {n:aa}(h:UpX n):cL n:=by
 refine cL.mk' h.table h.cast h.doubts.2.1 λd hd=>?_
 obtain⟨f,hf,e,_⟩:=(h.doubts.1 d hd).1;rw[<- e];exact (h.table.1 f hf).1
theorem eR.me {n:aa}(h:InP n.1 0 7):eR n n.1:=⟨h,rfl⟩
theorem pT {n m:aa}(h:cO n)(hm:m.1=n.1)(hp:aa.probe m=aa.probe n)(ht:∀ g∈aa.table n,∃ g'∈aa.table m,g'.1=g.1)(hn:ca n<=ca m)(hs:n.2.2.2.2.2.2.1<=m.2.2.2.2.2.2.1):cO m:=by
 unfold cO at h ⊢;rw[hp,hm];split at h
 ·rename_i h1;rw[if_pos h1];exact h
 ·rename_i h1;rw[if_neg h1];obtain⟨p1,⟨g,hg,eg⟩,⟨p2,p3⟩,⟨p4,p5⟩⟩:=h;obtain⟨g',hg',e'⟩:=ht g hg;exact⟨p1,⟨g',hg',e'.trans eg⟩,⟨p2,BC p3 hn⟩,⟨p4,BC p5 hs⟩⟩
theorem UpX.said {n:aa}{f:ag}{b:Int}(h:UpX n)(hf:bH f)(hs:aq f.1=aq n.1)(hb:eR n b):UpX (sayOf n f b):=by
 rcases mS h.table.2 f b with e|⟨e,ho⟩
 ·rw[e];exact h
 ·have hk:=λg hg=>iJ (n:=n) (f:=f) (b:=b) (g:=g) hg
  rw[e]at hk ⊢;refine⟨h.me,h.now0,⟨λg hg=>?_,eD h.table.2⟩,λg hg=>?_,om h.cast hf,uk h.table h.cast h.vs hf ho,pT h.probe rfl rfl hk (Ad _) (Ad _),uj h.table h.doubts hf hb h.now0 _,h.coord,h.places,h.others⟩
  ·rcases aY.1 hg with rfl|⟨hg,_⟩
   ·exact hf
   ·exact h.table.1 g hg
  ·rcases aY.1 hg with rfl|⟨hg,_⟩
   ·exact hs
   ·exact h.site g hg
theorem vu {n:aa}(hA:Asc (λg:ag=>g.1) (aa.table n)){f g:ag}{b:Int}(hne:g.1≠f.1):g∈aa.table (sayOf n f b)<->g∈aa.table n:=by
 rcases mS hA f b with e|⟨e,_⟩
 ·rw[e]
 ·rw[e];exact aY.trans ⟨λh=>h.elim (λh=>absurd (by rw[h]) hne) (·.1),λh=>.inr ⟨h,hne⟩⟩
theorem pU {n:aa}(hA:Asc (λg:ag=>g.1) (aa.table n)){f:ag}{b:Int}(h:∀ g∈aa.table n,g.1=f.1->bV f g):f∈aa.table (sayOf n f b):=by
 have hp:b8 (aa.table n) f=(bP (λg=>g.1) f (aa.table n),true):=by
  rcases mQ hA f with e|⟨e,_⟩
  ·by_cases hx:∃ g∈aa.table n,g.1=f.1
   ·obtain⟨g,hg,eg⟩:=hx;obtain⟨i,hi,rfl⟩:=AK hg;rw[kY hA hi eg,if_pos (h _ hg eg)]
   ·exact im λg hg e=>hx ⟨g,hg,e⟩
  ·exact e
 unfold Go.Proofs.YtmcbmojdeikcdaaGreatEv.sayOf;rw[hp];exact aY.2 (.inl rfl)
def OnN (n m:aa):Prop:=∃ t c ds,m=ip n t c ds
theorem OnN.refl (n:aa):OnN n n:=⟨_,_,_,rfl⟩
theorem OnN.say {n m:aa}(h:OnN n m)(f:ag)(b:Int):OnN n (Go.Proofs.YtmcbmojdeikcdaaGreatEv.sayOf m f b):=by
 obtain⟨t,c,ds,rfl⟩:=h;obtain⟨t',c',ds',e,_⟩:=iI (ip n t c ds) f b;exact⟨t',c',ds',e⟩
def lg (n:aa):ag:=(n.1,n.2.2.2.2.1,(if n.2.2.1=true then 4 else 1),n.2.2.2.1)
theorem nF {n m:aa}(hA:Asc (λg:ag=>g.1) (aa.table m))(ho:OnN n m){f:ag}{b:Int}(hne:f.1≠n.1)(h:cS m):cS (sayOf m f b):=by
 obtain⟨t,c,ds,e⟩:=ho.say f b;obtain⟨t',c',ds',e'⟩:=ho;have h1:lg n∈aa.table m:=by rw[e']at h ⊢;exact h
 have h2:=(vu hA (f:=f) (b:=b) (g:=lg n) (λh=>hne h.symm)).2 h1;rw[e]at h2 ⊢;exact h2
theorem wU {n:aa}(h:UpX n)(hs:cS n){d:ce}(hd:d∈aa.doubts n):d.1≠n.1:=by
 obtain⟨⟨g,hg,e,e2,_⟩,_⟩:=h.doubts.1 d hd;intro hh;have h1:lg n∈aa.table n:=hs;have:=gh h.table.2 hg h1 (by rw[e,hh];rfl);rw[this]at e2;revert e2;show (if n.2.2.1=true then (4:Int) else 1)=2->False;split <;> omega
theorem lS {n:aa}(h:UpX n)(hs:cS n):UpX (jv n)/\cS (jv n)/\OnN n (jv n):=by
 have:=kZ (st:=gB) (Inv:=λm=>(UpX m/\cS m/\OnN n m)/\∀ g∈aa.table n,∃ g'∈aa.table m,g'.1=g.1) (ds:=aa.doubts n) (n:=n) ⟨⟨h,hs,OnN.refl n⟩,λg hg=>⟨g,hg,rfl⟩⟩ ?_
 ·exact this.1
 ·rintro m d hd ⟨⟨hm,hms,ho⟩,hk⟩;have hne:=wU h hs hd;unfold gB;cases ph m.2.2.2.2.2.1 d.2.2.1 d.2.2.2.length with
  |false=>exact⟨⟨hm,hms,ho⟩,hk⟩
  |true =>
   obtain⟨⟨g,hg,e,_⟩,_⟩:=h.doubts.1 d hd;obtain⟨g',hg',e'⟩:=hk g hg;obtain⟨h1,h2,h3⟩:=ey hm.table ⟨g',hg',e'.trans e⟩;have hsi:aq (jS (aW (aa.table m) d.1)).1=aq m.1:=by
    show aq (aW (aa.table m) d.1).1=aq m.1;exact hm.site _ h3
   have hk':(jS (aW (aa.table m) d.1)).1≠n.1:=by rw[show (jS (aW (aa.table m) d.1)).1=_ from h2];exact hne
   refine⟨⟨hm.said (tm h1) hsi (eR.me hm.me),nF hm.table.2 ho hk' hms,ho.say _ _⟩,λg hg=>?_⟩;obtain⟨g1,hg1,e1⟩:=hk g hg;obtain⟨g2,hg2,e2⟩:=iJ (f:=jS (aW (aa.table m) d.1)) (b:=m.1) hg1;exact⟨g2,hg2,e2.trans e1⟩
theorem UpX.setProbe {n:aa}(h:UpX n){p:ag}(hp:cO (setP n p)):UpX (setP n p):=⟨h.me,h.now0,h.table,h.site,h.cast,h.vs,hp,h.doubts,h.coord,h.places,h.others⟩
theorem vv (n:aa):cO (setP n noP):=by
 unfold cO;exact (if_pos rfl).mpr rfl
theorem vw {n:aa}(h:UpX n)(hs:cS n):UpX (c5 n).1/\cS (c5 n).1/\∃ p,OnN (setP n p) (c5 n).1:=by
 have stay:UpX n/\cS n/\∃ p,OnN (setP n p) n:=⟨h,hs,aa.probe n,OnN.refl n⟩;have hno:UpX (setP n noP):=h.setProbe (vv n);unfold c5;cases hp:(aa.probe n).1==-1 with
 |true=>exact stay
 |false =>
  have hp':(aa.probe n).1≠-1:=by simpa using hp
  have hpr:=h.probe;unfold cO at hpr;rw[if_neg hp']at hpr;simp only[cond_false];cases hl:dY (aW (aa.table n) (aa.probe n).1) with
  |false=>exact⟨hno,hs,_,OnN.refl _⟩
  |true =>
   obtain⟨h1,h2,h3⟩:=ey h.table (gm hl);simp only[AJ,cond_false];cases decide (n.2.2.2.2.2.1-(aa.probe n).2.1>=4) with
   |true =>
    simp only[cond_true];cases (aW (aa.table n) (aa.probe n).1).2.2.1==1 with
    |true =>
     have hsi:aq (ov (aW (aa.table n) (aa.probe n).1)).1=aq (setP n noP).1:=by
      show aq (aW (aa.table n) (aa.probe n).1).1=aq n.1;exact h.site _ h3
     refine⟨hno.said (xZ h1) hsi (eR.me (n:=setP n noP) h.me),nF (n:=setP n noP) (m:=setP n noP) h.table.2 (OnN.refl (setP n noP)) ?_ hs,noP,(OnN.refl (setP n noP)).say _ _⟩;rw[show (ov (aW (aa.table n) (aa.probe n).1)).1=_ from h2];exact hpr.1
    |false=>exact⟨hno,hs,_,OnN.refl _⟩
   |false =>
    simp only[cond_false];cases decide (n.2.2.2.2.2.1-(aa.probe n).2.1>=2) with
    |false=>exact stay
    |true =>
     simp only[cond_true];cases (aa.probe n).2.2.2 with
     |true=>exact stay
     |false =>
      refine⟨h.setProbe ?_,hs,_,OnN.refl _⟩;show cO (kD n);unfold cO;rw[if_neg (show ¬ (aa.probe (kD n)).1=-1 from hp')];exact hpr
def hM (n:aa):Option Int:=((List.range 8).map (ct n)).find? λx=>x != n.1&&dY (aW (aa.table n) x)
def iP (n:aa):Int:=n.2.2.2.2.2.2.1
def du (n:aa):aa×List au:=bif decide (iP n>=999999) then (n,[]) else match hM n with
 |some to=>(askN n to,[pingW n to])
 |none=>(n,[])
theorem pV {n:aa}{to:Int}(h:hM n=some to):to≠n.1/\dY (aW (aa.table n) to)=true:=by
 have:=BT h;simpa using this
theorem vz {l:List aV}{T:List Int}{x:aV}(h:x∈eG l T l.length):∃ y∈l,x.1=y.1:=by
 unfold eG at h;obtain⟨h1,_⟩:=AF.1 h;obtain⟨i,hi,rfl⟩:=AK h1;rw[k9]at hi;rw[la l T hi];refine⟨l[i],AD hi,?_⟩;unfold fv;rw[dM hi];cases decide ((i:Int)∈T) <;> rfl
theorem UpX.way {n:aa}(h:UpX n):UpX (jz n):=⟨h.me,h.now0,h.table,h.site,wS h.cast _,λx hx=>by
 obtain⟨y,hy,e⟩:=vz hx;obtain⟨g,hg,e1,e2⟩:=h.vs y hy;exact⟨g,hg,by rw[e,e1],by rw[e];exact e2⟩,h.probe,h.doubts,h.coord,h.places,h.others⟩
structure rN (n:aa):Prop where
 seq:InP (iP n) 0 999999
 turn:InP n.2.2.2.2.2.2.2.1 0 8
theorem ze {n:aa}(h:UpX n)(hs:cS n)(hq:rN n):UpX (du n).1/\cS (du n).1/\rN (du n).1/\(du n).1.1=n.1/\ca (du n).1=ca n/\(du n).1.2.2.2.2.1=n.2.2.2.2.1:=by
 unfold du;by_cases hm:iP n>=999999
 ·rw[decide_eq_true hm];exact⟨h,hs,hq,rfl,rfl,rfl⟩
 ·rw[decide_eq_false hm];simp only[cond_false];cases hx:hM n with
  |none=>exact⟨h,hs,hq,rfl,rfl,rfl⟩
  |some to =>
   obtain⟨hne,hl⟩:=pV hx;obtain⟨g1,g2,g3⟩:=ey h.table (gm hl);obtain⟨⟨q0,q1⟩,_⟩:=hq;have hto:InP to 0 7:=g2 ▸ g1.1;have hw:=h.way;refine⟨⟨h.me,h.now0,h.table,h.site,hw.cast,hw.vs,?_,h.doubts,h.coord,h.places,h.others⟩,hs,⟨⟨show 0<=iP n+1 by omega,show iP n+1<=999999 by omega⟩,show 0<=to+1 by have:=hto.1;omega,show to+1<=8 by have:=hto.2;omega⟩,rfl,rfl,rfl⟩;show cO (askN n to);unfold cO;rw[if_neg (show ¬ (aa.probe (askN n to)).1=-1 by have:=hto.1;show ¬ to=-1;omega)];exact⟨hne,⟨_,g3,g2⟩,⟨h.now0,Ad _⟩,show 1<=iP n+1 by omega,Ad _⟩
def dG (n:aa):aa:=(n.1,n.2.1,n.2.2.1,n.2.2.2.1,n.2.2.2.2.1,n.2.2.2.2.2.1+1,n.2.2.2.2.2.2)
def eS (m:aa):aa×List au:=bif (aa.probe m).1==-1 then du m else (m,[])
def eT (n:aa):aa×List au:=c5 (jv (dG n))
def jV (n:aa):aa:=(eS (eT n).1).1
def oA (n:aa)(draw:Int):List au:=(eT n).2++(eS (eT n).1).2++ji (jV n) draw
theorem UpX.later {n:aa}(h:UpX n):UpX (dG n):=by
 have h0:ca (dG n)=ca n+1:=rfl;have hn:=h.now0;refine⟨h.me,by omega,h.table,h.site,h.cast,h.vs,pT h.probe rfl rfl (λg hg=>⟨g,hg,rfl⟩) (by omega) (Ad _),⟨λd hd=>?_,h.doubts.2⟩,h.coord,h.places,h.others⟩;obtain⟨h1,⟨h2,h3⟩,h4⟩:=h.doubts.1 d hd;exact⟨h1,⟨h2,BC h3 (show ca n<=ca (dG n) by omega)⟩,h4⟩
structure UpN (n:aa):Prop where
 x:UpX n
 self:cS n
 now1:ca n<=999999
 seq:rN n
 inc:InP n.2.2.2.2.1 0 999
 up:n.2.1=true
theorem UpN.of {n:aa}(h:e8 n)(hu:n.2.1=true):UpN n:=by
 obtain⟨h1,h2,h3,h4,h5,h6⟩:=h;rw[if_pos hu]at h6;exact⟨UpX.of h6 h1 h2.1,h6.2.2.1,h2.2,⟨h3,h4⟩,h5,hu⟩
theorem UpN.ok {n:aa}(h:UpN n):e8 n:=⟨h.x.me,⟨h.x.now0,h.now1⟩,h.seq.seq,h.seq.turn,h.inc,by rw[if_pos h.up];exact h.x.up h.self⟩
theorem oB {n:aa}(h:UpN n)(hm:ca n<999999):UpN (eT n).1/\(eT n).1.1=n.1/\(eT n).1.2.2.1=n.2.2.1:=by
 have hl:cS (dG n):=h.self;obtain⟨b1,b2,b3⟩:=lS h.x.later hl;obtain⟨f1,f2,p,f3⟩:=vw b1 b2;obtain⟨t,c,ds,eb⟩:=b3;obtain⟨t',c',ds',ef⟩:=f3;have e:(eT n).1=_:=ef;rw[eb]at e;refine⟨⟨f1,f2,?_,⟨?_,?_⟩,?_,?_⟩,?_,?_⟩
 ·show ca (eT n).1<=999999;rw[e];show ca n+1<=999999;omega
 ·show InP (iP (eT n).1) 0 999999;rw[e];exact h.seq.seq
 ·show InP (eT n).1.2.2.2.2.2.2.2.1 0 8;rw[e];exact h.seq.turn
 ·show InP (eT n).1.2.2.2.2.1 0 999;rw[e];exact h.inc
 ·show (eT n).1.2.1=true;rw[e];exact h.up
 ·rw[e];rfl
 ·rw[e];rfl
theorem rO {m:aa}:(du m).1.2.1=m.2.1/\(du m).1.2.2.1=m.2.2.1:=by
 unfold du;cases decide (iP m>=999999) with
 |true=>exact⟨rfl,rfl⟩
 |false =>
  cases hM m with
  |none=>exact⟨rfl,rfl⟩
  |some to=>exact⟨rfl,rfl⟩
theorem ul {m:aa}(h:UpN m):UpN (eS m).1/\(eS m).1.1=m.1/\(eS m).1.2.2.1=m.2.2.1:=by
 unfold eS;cases (aa.probe m).1==-1 with
 |false=>exact⟨h,rfl,rfl⟩
 |true =>
  obtain⟨a1,a2,a3,a4,a5,a6⟩:=ze h.x h.self h.seq;refine⟨⟨a1,a2,?_,a3,?_,?_⟩,a4,rO.2⟩
  ·show ca (du m).1<=999999;rw[a5];exact h.now1
  ·show InP (du m).1.2.2.2.2.1 0 999;rw[a6];exact h.inc
  ·show (du m).1.2.1=true;rw[rO.1];exact h.up
theorem pj {n:aa}(h:UpN n)(hm:ca n<999999):UpN (jV n)/\(jV n).1=n.1/\(jV n).2.2.1=n.2.2.1:=by
 obtain⟨h1,h2,h3⟩:=oB h hm;obtain⟨h4,h5,h6⟩:=ul h1;exact⟨h4,h5.trans h2,h6.trans h3⟩
theorem wV {f g:ag}(h:g.2.1<f.2.1):bV f g:=by
 unfold bV;rw[if_pos (by omega)];exact h
theorem x9 {f g:ag}(h:bV f g):g.2.1<=f.2.1:=by
 unfold bV at h;split at h <;> omega
theorem UpX.inc {n:aa}(h:UpX n)(i:Int):UpX (gC n i):=⟨h.me,h.now0,h.table,h.site,h.cast,h.vs,h.probe,h.doubts,h.coord,h.places,h.others⟩
theorem pW {n:aa}(h:UpX n)(hs:cS n){g:ag}(hg:g∈aa.table n)(e:g.1=n.1):g=lg n:=gh h.table.2 hg hs (by rw[e];rfl)
theorem vA {n:aa}(h:UpX n)(hs:cS n):aW (aa.table n) n.1=lg n:=jQ h.table.2 (f:=lg n) hs
theorem wW {n:aa}(h:UpN n)(hg:n.2.2.1=false):UpN (lP n)/\(lP n).1=n.1:=by
 have hf:bH (n.1,n.2.2.2.2.1,4,n.2.2.2.1):=⟨h.x.me,h.inc,show (1:Int)<=4 by omega,show (4:Int)<=4 by omega⟩;have hx:=h.x.said hf rfl (eR.me h.x.me);have hn:(n.1,n.2.2.2.2.1,(4:Int),n.2.2.2.1)∈aa.table (sayOf n (n.1,n.2.2.2.2.1,4,n.2.2.2.1) n.1):=pU h.x.table.2 λg hg' e=>by
  rw[pW h.x h.self hg' e];unfold bV lg;rw[hg];simp
 obtain⟨t,c,ds,e⟩:=(OnN.refl n).say (n.1,n.2.2.2.2.1,4,n.2.2.2.1) n.1;unfold lP;rw[e]at hx hn ⊢;exact⟨⟨⟨hx.me,hx.now0,hx.table,hx.site,hx.cast,hx.vs,hx.probe,hx.doubts,hx.coord,hx.places,hx.others⟩,hn,h.now1,⟨h.seq.seq,h.seq.turn⟩,h.inc,h.up⟩,rfl⟩
theorem vB {n:aa}{f:ag}(h:UpN n)(hg:n.2.2.1=false)(hf:bH f):UpN (fa n f)/\(fa n f).1=n.1/\(fa n f).2.2.1=false:=by
 unfold fa;cases hc:decide (bV f (aW (aa.table n) n.1))&&decide (f.2.1<999) with
 |false=>exact⟨h,rfl,hg⟩
 |true =>
  rw[Ai,decide_eq_true_eq,decide_eq_true_eq,vA h.x h.self]at hc;obtain⟨ho,hi⟩:=hc;have hle:n.2.2.2.2.1<=f.2.1:=x9 ho;have hf':=tn (n:=n) h.x.me hf hi;have hx:UpX (sayOf (gC n (f.2.1+1)) (n.1,f.2.1+1,1,n.2.2.2.1) n.1):=(h.x.inc (f.2.1+1)).said hf' rfl (eR.me (n:=gC n (f.2.1+1)) h.x.me);have hn:(n.1,f.2.1+1,(1:Int),n.2.2.2.1)∈aa.table (sayOf (gC n (f.2.1+1)) (n.1,f.2.1+1,1,n.2.2.2.1) n.1):=pU (n:=gC n (f.2.1+1)) h.x.table.2 λg hg' e=>by
   rw[pW h.x h.self hg' e];exact wV (show n.2.2.2.2.1<f.2.1+1 by omega)
  obtain⟨t,c,ds,e⟩:=(OnN.refl (gC n (f.2.1+1))).say (n.1,f.2.1+1,1,n.2.2.2.1) n.1;simp only[cond_true];rw[show sayOf (gC n (f.2.1+1)) (n.1,f.2.1+1,1,n.2.2.2.1) n.1=ip (gC n (f.2.1+1)) t c ds from e]at hx hn ⊢;refine⟨⟨hx,?_,h.now1,⟨h.seq.seq,h.seq.turn⟩,hf'.2.1,h.up⟩,rfl,hg⟩;show (n.1,f.2.1+1,(if n.2.2.1=true then (4:Int) else 1),n.2.2.2.1)∈_;rw[hg];exact hn
theorem lT (f:ag)(b:Int)(d:ce):(dK f b d).1=d.1/\(dK f b d).2.1=d.2.1/\(dK f b d).2.2.1=d.2.2.1:=by
 unfold dK;cases d.1==f.1&&d.2.1==f.2.1&&f.2.2.1==2 <;> exact⟨rfl,rfl,rfl⟩
theorem UpX.conf {n:aa}(h:UpX n)(f:ag){b:Int}(hb:eR n b):UpX (jT n f b):=by
 refine⟨h.me,h.now0,h.table,h.site,h.cast,h.vs,h.probe,⟨λd hd=>?_,?_,?_⟩,h.coord,h.places,h.others⟩
 ·obtain⟨d0,hd0,rfl⟩:=AR.1 hd;obtain⟨k1,k2,k3⟩:=lT f b d0;obtain⟨⟨g,hg,e1,e2,e3⟩,h2,h3,h4⟩:=h.doubts.1 d0 hd0;refine⟨⟨g,hg,by rw[k1];exact e1,e2,by rw[k2];exact e3⟩,by rw[k3];exact h2,?_⟩;unfold dK;cases d0.1==f.1&&d0.2.1==f.2.1&&f.2.2.1==2 with
  |false=>exact⟨h3,h4⟩
  |true =>
   refine⟨Ba (aY.2 (.inl rfl)),λx hx=>?_,eD h4.2⟩;rcases aY.1 hx with rfl|⟨hx,_⟩
   ·exact hb
   ·exact h4.1 x hx
 ·show Asc _ ((aa.doubts n).map (dK f b));unfold Asc;rw[Ak];exact h.doubts.2.1.imp λ {a c} h=>by show (dK f b a).1<(dK f b c).1;rw[(lT f b a).1,(lT f b c).1];exact h
 ·show _=((aa.doubts n).map (dK f b)).length;rw[AX];exact h.doubts.2.2
theorem rP {n:aa}{f:ag}{b:Int}(h:UpN n)(hg:n.2.2.1=false)(hf:bH f)(hs:aq f.1=aq n.1)(hb:eR n b):UpN (dO b n f)/\(dO b n f).1=n.1/\(dO b n f).2.2.1=false:=by
 unfold dO;by_cases hne:f.1=n.1
 ·rw[show (f.1==n.1)=true by simpa using hne];exact vB h hg hf
 ·rw[show (f.1==n.1)=false by simpa using hne];have hx:=h.x.said hf hs hb;have hss:=nF h.x.table.2 (OnN.refl n) (b:=b) hne h.self;obtain⟨t,c,ds,e⟩:=(OnN.refl n).say f b;simp only[cond_false];rw[show sayOf n f b=ip n t c ds from e]at hx hss ⊢;exact⟨⟨hx.conf f hb,hss,h.now1,⟨h.seq.seq,h.seq.turn⟩,h.inc,h.up⟩,rfl,hg⟩
theorem lh {n:aa}{t:List ag}{b:Int}(h:UpN n)(hg:n.2.2.1=false)(ht:aA t)(hs:b7 t (aq n.1))(hb:eR n b):UpN (iq n t b)/\(iq n t b).1=n.1/\(iq n t b).2.2.1=false:=by
 refine kZ (st:=dO b) (Inv:=λm=>UpN m/\m.1=n.1/\m.2.2.1=false) (ds:=t) (n:=n) ⟨h,rfl,hg⟩ λm f hf ⟨h1,h2,h3⟩=>?_
 have:=rP (b:=b) h1 h3 (ht.1 f hf) (by rw[h2];exact hs f hf) ⟨hb.1,by rw[h2];exact hb.2⟩;exact⟨this.1,this.2.1.trans h2,this.2.2⟩
theorem UpN.learns {n:aa}(h:UpN n):dU n:=⟨h.x.say,h.x.me,⟨_,h.self,rfl⟩,λd hd=>by
 obtain⟨_,_,_,h4⟩:=h.x.doubts.1 d hd;exact⟨h4.2,λx hx=>(h4.1 x hx).1⟩⟩
def setO (n:aa)(o:List cD):aa:=(n.1,n.2.1,n.2.2.1,n.2.2.2.1,n.2.2.2.2.1,n.2.2.2.2.2.1,n.2.2.2.2.2.2.1,n.2.2.2.2.2.2.2.1,n.2.2.2.2.2.2.2.2.1,n.2.2.2.2.2.2.2.2.2.1,n.2.2.2.2.2.2.2.2.2.2.1,n.2.2.2.2.2.2.2.2.2.2.2.1,n.2.2.2.2.2.2.2.2.2.2.2.2.1,n.2.2.2.2.2.2.2.2.2.2.2.2.2.1,o)
theorem UpN.setOthers {n:aa}(h:UpN n){o:List cD}(ho:cP n.1 o):UpN (setO n o):=⟨⟨h.x.me,h.x.now0,h.x.table,h.x.site,h.x.cast,h.x.vs,h.x.probe,h.x.doubts,h.x.coord,h.x.places,ho⟩,h.self,h.now1,⟨h.seq.seq,h.seq.turn⟩,h.inc,h.up⟩
theorem um {me s:Int}{all:List ag}{o:List cD}(ho:cP me o)(hs:InP s 0 1)(hne:s≠aq me)(h0:all≠[])(ht:aA all)(hss:b7 all s):cP me (bP (λx:cD=>x.1) (s,all) o) :=
 ⟨λx hx=>by
  rcases aY.1 hx with rfl|⟨hx,_⟩
  ·exact⟨hs,hne,h0,ht,hss⟩
  ·exact ho.1 x hx,eD ho.2⟩
def gp (l:List Int)(t:Int):List Int:=(l++[t]).drop ((l++[t]).length-3)
def dm (l:List bf)(node:Int):List Int:=((l.find? λp=>p.1==node).map (·.2.2)).getD []
def nG (l:List bf)(node:Int)(c:cF)(t:Int):List bf:=bP (λp=>p.1) (node,c,gp (dm l node) t) l
def oC (n:aa)(c:cF)(p:List bf):aa:=(n.1,n.2.1,n.2.2.1,n.2.2.2.1,n.2.2.2.2.1,n.2.2.2.2.2.1,n.2.2.2.2.2.2.1,n.2.2.2.2.2.2.2.1,n.2.2.2.2.2.2.2.2.1,n.2.2.2.2.2.2.2.2.2.1,noP,n.2.2.2.2.2.2.2.2.2.2.2.1,c,p,n.2.2.2.2.2.2.2.2.2.2.2.2.2.2)
theorem sM {l:List bf}{node:Int}{t:Int}(h:t∈dm l node):∃ p∈l,t∈p.2.2:=by
 unfold dm at h;cases hf:l.find? λp=>p.1==node with
 |none=>rw[hf]at h;simp at h
 |some p =>
  rw[hf]at h;exact⟨p,Aq hf,h⟩
theorem vC {l:List Int}{t:Int}(hl:∀ x∈l,InP x 1 60000)(ht:InP t 1 60000):InP ((gp l t).length:Int) 1 3/\∀ x∈gp l t,InP x 1 60000:=by
 unfold gp;constructor
 ·simp only[Ag,AN,AI,AO];constructor <;> omega
 ·intro x hx;have:=List.mem_of_mem_drop hx;rcases Af.1 this with h|h
  ·exact hl x h
  ·rw[AS.1 h];exact ht
theorem un {me node:Int}{l:List bf}{c:cF}{t:Int}(h:dT me l)(h0:InP node 0 7)(h1:aq node=aq me)(h2:node≠me)(hc:cr c)(ht:InP t 1 60000):dT me (nG l node c t):=by
 have h3:=vC (l:=dm l node) (t:=t) (λx hx=>by
  obtain⟨p,hp,hx⟩:=sM hx;exact (h.1 p hp).2.2.2.2.2 x hx) ht
 exact⟨λp hp=>by
  rcases aY.1 hp with rfl|⟨hp,_⟩
  ·exact⟨h0,h1,h2,hc,h3.1,h3.2⟩
  ·exact h.1 p hp,eD h.2⟩
theorem UpN.heard {n:aa}(h:UpN n){c:cF}{p:List bf}(hc:cr c)(hp:dT n.1 p):UpN (oC n c p):=⟨⟨h.x.me,h.x.now0,h.x.table,h.x.site,h.x.cast,h.x.vs,vv n,h.x.doubts,hc,hp,h.x.others⟩,h.self,h.now1,⟨h.seq.seq,h.seq.turn⟩,h.inc,h.up⟩
theorem UpN.way {n:aa}(h:UpN n):UpN (jz n):=⟨h.x.way,h.self,h.now1,⟨h.seq.seq,h.seq.turn⟩,h.inc,h.up⟩
def Tot {α:Type}(o:Option α)(P:α->Prop):Prop:=∃ v,o=some v/\P v
section
variable {α β:Type} {P:α->Prop} {Q:β->Prop}
theorem Tot.ret {v:α}(h:P v):Tot (some v) P:=⟨v,rfl,h⟩
theorem Tot.eq {o:Option α}{v:α}(e:o=some v)(h:P v):Tot o P:=⟨v,e,h⟩
theorem Tot.mono {o:Option α}{P':α->Prop}(h:Tot o P)(k:∀ v,P v->P' v):Tot o P':=by obtain⟨v,e,hp⟩:=h;exact⟨v,e,k v hp⟩
theorem Tot.bind {o:Option α}{g:α->Option β}(h:Tot o P)(k:∀ v,P v->Tot (g v) Q):Tot (o.bind g) Q:=by obtain⟨v,e,hp⟩:=h;rw[e];exact k v hp
theorem Tot.vl {o:Option α}{v:α}{g:α->Option β}(e:o=some v)(k:Tot (g v) Q):Tot (o.bind g) Q:=by rw[e];exact k
theorem Tot.cnd {b:Bool}{x y:Option α}(h1:b=true->Tot x P)(h2:b=false->Tot y P):Tot (bif b then x else y) P:=by
 cases b
 ·exact h2 rfl
 ·exact h1 rfl
theorem Tot.must {b:Bool}{x y:Option α}(hb:b=true)(h:Tot x P):Tot (bif b then x else y) P:=by rw[hb];exact h
theorem Tot.not {b:Bool}{x y:Option α}(hb:b=false)(h:Tot x P):Tot (bif b then y else x) P:=by rw[hb];exact h
theorem Tot.ix {xs:List α}{i:Int}{g:α->Option β}(h0:0<=i)(h1:i<xs.length)(k:∀ y∈xs,idx xs i=some y->Tot (g y) Q):Tot ((idx xs i).bind g) Q:=by
 obtain⟨n,rfl⟩:=AE h0;have h2:n<xs.length:=by omega
 have:=ai h2;rw[this];exact k _ (AD h2) this
theorem Tot.iter {A:Type}{step:(A->Option β)->A->Option β}(Inv:A->Prop)(m:A->Nat)(h:∀ (rec:A->Option β) (a:A),Inv a->(∀ a',Inv a'->m a'<m a->Tot (rec a') Q)->Tot (step rec a) Q):∀ (k:Nat) (a:A),m a<k->Inv a->Tot (ae step k a) Q:=by
 intro k;induction k with
 |zero=>intro a hk;omega
 |succ k ih =>
  intro a hk ha;exact h (ae step k) a ha λa' ha' hlt=>ih a' (by omega) ha'
end
theorem Ret.tot {o:Option RB}{P:Prop}(h:Ret o P):Tot o λv=>(v.1.1=true<->P):=by
 obtain⟨b,e,hb⟩:=h;exact⟨_,e,hb⟩
section
variable {α β:Type} {Q:β->Prop}
theorem Tot.cat {x y:ByteArray}{k:ByteArray->Option β}{a b:Nat}(hx:x.size<=a)(hy:y.size<=b)(h:∀ z:ByteArray,z.size<=a+b->Tot (k z) Q)(hb:a+b<=4611686018427387904:=by omega):Tot (aT x y k) Q:=by
 unfold aT;rw[decide_eq_true (by omega)];exact h _ (by rw[ByteArray.size_append];omega)
theorem Tot.fit {a b c:Nat}{x y:Option β}(h:Tot x Q)(hc:c<=1000:=by omega)(hab:a+b<=2097152:=by omega):Tot (bif decide ((a+b)*c<=ah) then x else y) Q:=by
 have:=Au hab hc;rw[decide_eq_true (by unfold ah;omega)];exact h
theorem Tot.ix2 {xs:List α}{i:Int}{g:α->Option β}(h0:0<=i)(h1:i<xs.length)(k:∀ y∈xs,idx xs i=some y->Tot (g y) Q):Tot ((idx xs i).bind λ_=>(idx xs ((AC i:Nat):Int)).bind g) Q :=
 Tot.ix h0 h1 λy hy e=>by rw[Int.toNat_of_nonneg h0,e];exact k y hy e
end
theorem ff (s:ByteArray):s.data.toList.length=s.size:=Array.length_toList
theorem hX (xs:List Int):(fT xs).size=xs.length:=by
 unfold fT;show (List.toArray _).size=_;rw[List.size_toArray,AX]
theorem pX (s:ByteArray):(dR s).length=s.size:=by
 unfold dR;rw[AX];exact ff s
theorem dec_t:∀ (d k:Nat) (n:Int),0<=n->n<10 ^ (d+1)->n<=1000000000->d<=100->d<k->Tot (Q0.f k (n,())) λr=>r.1.1.size<=d+1:=by
 intro d;induction d with
 |zero =>
  intro k n h0 h1 h2 hd hk;obtain⟨k,rfl⟩:∃ m,k=m+1:=⟨k-1,by omega⟩;show Tot (Q0.step (Q0.f k) (n,())) _;simp only[Q0.step];refine Tot.not (decide_eq_false (show ¬ n< -9223372036854775807 by omega)) (Tot.not (decide_eq_false (show ¬ n<0 by omega)) (Tot.must (decide_eq_true (show n<10 by exact h1)) (Tot.ret ?_)));show (fT _).size<=1;rw[hX];exact AZ _
 |succ d ih =>
  intro k n h0 h1 h2 hd hk;obtain⟨k,rfl⟩:∃ m,k=m+1:=⟨k-1,by omega⟩;show Tot (Q0.step (Q0.f k) (n,())) _;simp only[Q0.step];refine Tot.not (decide_eq_false (show ¬ n< -9223372036854775807 by omega)) (Tot.not (decide_eq_false (show ¬ n<0 by omega)) (Tot.cnd (λ_=>Tot.ret ?_) λh=>?_))
  ·show (fT _).size<=_;rw[hX];exact Nat.succ_le_succ (Ah _)
  ·have h:¬ n<10:=of_decide_eq_false h;have e:BA n 10=n / 10:=by rw[Ab h0]
   have e10:(10:Int) ^ (d+1+1)=10 ^ (d+1)*10:=Int.pow_succ ..;have hq:n / 10<10 ^ (d+1):=Int.ediv_lt_of_lt_mul (by omega) (by rw[<- e10];exact h1);rw[e,aL (by omega) (by omega)];refine Tot.bind (ih k (n / 10) (by omega) hq (by omega) (by omega) (by omega)) λv hv=>Tot.cat hv (b:=1) (by rw[hX];exact AZ _) (λz hz=>Tot.ret hz) (by omega)
theorem kc (K:Nat)(n:Int)(h0:0<=n)(h1:n<=999999)(hK:1048577<K):Tot (Q0.f K (n,())) λr=>r.1.1.size<=6 :=
 dec_t 5 K n h0 (by show n<1000000;omega) (by omega) (by omega) (by omega)
theorem rQ (K:Nat)(i:Int)(h0:0<=i)(h1:i<=4):Tot (Q19.f K (i,())) λr=>r.1.1.size<=7:=by
 have:i=0\/i=1\/i=2\/i=3\/i=4:=by omega
 rcases this with rfl|rfl|rfl|rfl|rfl <;> exact⟨_,rfl,by decide⟩
theorem rR (K:Nat)(i:Int)(h0:0<=i)(h1:i<=6):Tot (Q17.f K (i,())) λr=>r.1.1.size<=4:=by
 have:i=0\/i=1\/i=2\/i=3\/i=4\/i=5\/i=6:=by omega
 rcases this with rfl|rfl|rfl|rfl|rfl|rfl|rfl <;> exact⟨_,rfl,by decide⟩
theorem wX (K:Nat)(t:List ag)(hT:aA t)(hK:1048577<K):Tot (Q20.f K (t,())) λr=>r.1.1.size<=240:=by
 have hl:=gZ hT.2 (λg hg=>(hT.1 g hg).1);refine Tot.iter (step:=λrec a=>Q20.l0.step K (t,()) rec a) (λa=>0<=a.2/\a.2<=t.length/\(a.1.size:Int)<=30*a.2) (λa=>t.length-a.2.toNat) ?_ K _ (by show t.length-AC 0<K;omega) ⟨by show (0:Int)<=0;omega,by show (0:Int)<=_;omega,by show (0:Int)<=30*0;omega⟩;rintro rec ⟨s,i⟩ ⟨h0,h1,h2⟩ ih;simp only at h0 h1 h2 ih ⊢;simp only[Q20.l0.step];refine Tot.cnd (λh=>?_) λh=>?_
 ·have h:=of_decide_eq_true h;obtain⟨n,rfl⟩:=AE h0;have hn:n<t.length:=by omega
  obtain⟨⟨f1,f2⟩,⟨f3,f4⟩,f5,f6⟩:=hT.1 t[n] (AD hn);rw[ai hn,av n (by omega)];simp only[AA];have go:∀ z:ByteArray,z.size<=s.size+29->Tot (rec (z,((n+1:Nat):Int))) λr=>r.1.1.size<=240:=λz hz=>ih _ ⟨by show (0:Int)<=((n+1:Nat):Int);omega,by show ((n+1:Nat):Int)<=_;omega,by show (z.size:Int)<=30*((n+1:Nat):Int);omega⟩ (by show t.length-AC ((n+1:Nat):Int)<t.length-AC (n:Int);omega)
  have body:∀ z0:ByteArray,z0.size<=s.size+1->Tot ((Q0.f K (t[n].1,())).bind λy3=>aT z0 y3.1.1 λy4=>aT y4 (ByteArray.mk #[58]) λy5=>(Q0.f K (t[n].2.1,())).bind λy7=>aT y5 y7.1.1 λy8=>aT y8 (ByteArray.mk #[58]) λy9=>(Q19.f K (t[n].2.2.1,())).bind λy11=>aT y9 y11.1.1 λy12=>bif t[n].2.2.2 then (aT y12 (ByteArray.mk #[42]) λy14=>rec (y14,((n+1:Nat):Int))) else (rec (y12,((n+1:Nat):Int)))) λr=>r.1.1.size<=240:=λz0 hz0 =>
   Tot.bind (kc K _ f1 (by omega) hK) λv1 s1=>Tot.cat hz0 s1 λz1 hz1=>Tot.cat hz1 (b:=1) (by decide) λz2 hz2 =>
   Tot.bind (kc K _ f3 (by omega) hK) λv2 s2=>Tot.cat hz2 s2 λz3 hz3=>Tot.cat hz3 (b:=1) (by decide) λz4 hz4 =>
   Tot.bind (rQ K _ (by omega) f6) λv3 s3=>Tot.cat hz4 s3 λz5 hz5 =>
   Tot.cnd (λ_=>Tot.cat hz5 (b:=1) (by decide) λz6 hz6=>go z6 (by omega)) λ_=>go z5 (by omega)
  exact Tot.cnd (λ_=>Tot.cat (AZ _) (b:=1) (by decide) λz hz=>body z hz) λ_=>body s (by omega)
 ·have h:=of_decide_eq_false h;exact Tot.ret (by show s.size<=240;omega)
theorem mT (K:Nat)(t:List ag)(ht:t.length<=1048576)(hK:1048577<K):Tot (Q21.f K (t,())) λr=>r.1.1.size<=240:=by
 simp only[Q21.f];refine Tot.bind (fG K t ht hK).tot λv hv=>Tot.cnd (λ_=>Tot.ret (by show (0:Nat)<=240;omega)) λh=>?_
 have hT:=hv.1 (by simpa using h);exact Tot.cnd (λ_=>Tot.ret (by show (1:Nat)<=240;omega)) λ_=>Tot.bind (wX K t hT hK) λv h=>Tot.ret h
theorem oD (K:Nat)(n:Int)(h0:-999999<=n)(h1:n<=999999)(hK:1048577<K):Tot (Q18.f K (n,())) λr=>r.1.1.size<=7:=by
 simp only[Q18.f];refine Tot.cnd (λh=>?_) λh=>?_
 ·have h:n<0:=of_decide_eq_true h;rw[aL (by omega) (by omega)];exact Tot.bind (kc K _ (by omega) (by omega) hK) λv s=>Tot.cat (a:=1) (by decide) s λz hz=>Tot.ret hz
 ·have h:¬ n<0:=of_decide_eq_false h;exact Tot.bind (kc K _ (by omega) (by omega) hK) λv s=>Tot.cat (a:=1) (by decide) s λz hz=>Tot.ret hz
theorem wY (K:Nat)(w:au)(hw:gY w)(hK:1048577<K):Tot (Q22.f K (w,())) λr=>r.1.1.size<=400:=by
 obtain⟨_,⟨a1,a2⟩,⟨b1,b2⟩,⟨c1,c2⟩,⟨d1,d2⟩,⟨e1,e2⟩,⟨⟨x1,x2⟩,⟨y1,y2⟩,⟨z1,z2⟩,⟨u1,u2⟩⟩,hT,_⟩:=hw;have ht:=cI hT;simp only[Q22.f];have sp:(ByteArray.mk #[32]).size<=1:=by decide
 refine Tot.cnd (λ_=>?_) λ_=>?_ <;>
 exact Tot.cat (a:=3) (by decide) sp λ_ h=>Tot.bind (rR K _ (by omega) a2) λ_ s=>Tot.cat h s λ_ h=>Tot.cat h sp λ_ h =>
  Tot.bind (kc K _ b1 (by omega) hK) λ_ s=>Tot.cat h s λ_ h=>Tot.cat h sp λ_ h =>
  Tot.bind (kc K _ c1 (by omega) hK) λ_ s=>Tot.cat h s λ_ h=>Tot.cat h sp λ_ h =>
  Tot.bind (kc K _ d1 (by omega) hK) λ_ s=>Tot.cat h s λ_ h=>Tot.cat h sp λ_ h =>
  Tot.bind (kc K _ e1 (by omega) hK) λ_ s=>Tot.cat h s λ_ h=>Tot.cat h sp λ_ h =>
  Tot.bind (oD K _ (by show -999999<=(au.coord w).1;omega) (by show (au.coord w).1<=999999;omega) hK) λ_ s=>Tot.cat h s λ_ h=>Tot.cat h sp λ_ h =>
  Tot.bind (oD K _ (by show -999999<=(au.coord w).2.1;omega) (by show (au.coord w).2.1<=999999;omega) hK) λ_ s=>Tot.cat h s λ_ h=>Tot.cat h sp λ_ h =>
  Tot.bind (kc K _ z1 (by show (au.coord w).2.2.1<=999999;omega) hK) λ_ s=>Tot.cat h s λ_ h=>Tot.cat h sp λ_ h =>
  Tot.bind (kc K _ (by show 0<=(au.coord w).2.2.2;omega) (by show (au.coord w).2.2.2<=999999;omega) hK) λ_ s=>Tot.cat h s λ_ h=>Tot.cat h sp λ_ h =>
  Tot.bind (mT K _ ht hK) λ_ s=>Tot.cat h s λ_ h=>Tot.ret (Al h (by decide))
theorem wZ (K:Nat)(n:Int)(hK:1048577<K):Tot (Q24.f K (n,())) λ_=>True:=by
 refine Tot.iter (step:=λrec a=>Q24.l0.step K (n,()) rec a) (λa=>0<=a.2/\a.2<=8) (λa=>8-a.2.toNat) ?_ K _ (by show 8-AC 0<K;omega) ⟨by show (0:Int)<=0;omega,by show (0:Int)<=8;omega⟩;rintro rec ⟨s,i⟩ ⟨h0,h1⟩ ih;simp only at h0 h1 ih ⊢;simp only[Q24.l0.step];obtain⟨i,rfl⟩:=AE h0;refine Tot.cnd (λh=>?_) λ_=>Tot.ret trivial
 have h:=of_decide_eq_true h;rw[av i (by omega)];have go:∀ z:Int,Tot (rec (z,((i+1:Nat):Int))) λ_=>True:=λz=>ih _ ⟨by show (0:Int)<=((i+1:Nat):Int);omega,by show ((i+1:Nat):Int)<=8;omega⟩ (by show 8-AC ((i+1:Nat):Int)<8-AC (i:Int);omega)
 exact Tot.cnd (λ_=>go _) λ_=>go _
theorem ya (K:Nat)(s:ByteArray)(hs:s.size<=1000000)(hK:1048577<K):Tot (Q25.f K (s,())) λ_=>True:=by
 refine Tot.iter (step:=λrec a=>Q25.l0.step K (s,()) rec a) (λa=>0<=a.2/\a.2<=s.size) (λa=>s.size-a.2.toNat) ?_ K _ (by show s.size-AC 0<K;omega) ⟨by show (0:Int)<=0;omega,by show (0:Int)<=_;omega⟩;rintro rec ⟨z,i⟩ ⟨h0,h1⟩ ih;simp only at h0 h1 ih ⊢;simp only[Q25.l0.step];obtain⟨i,rfl⟩:=AE h0;refine Tot.cnd (λh=>?_) λ_=>Tot.ret trivial
 have h:=of_decide_eq_true h;rw[av i (by omega)];exact Tot.ix h0 (by rw[ff];exact h) λy _ _=>Tot.bind (wZ K _ hK) λv _=>ih _ ⟨by show (0:Int)<=((i+1:Nat):Int);omega,by show ((i+1:Nat):Int)<=_;omega⟩ (by show s.size-AC ((i+1:Nat):Int)<s.size-AC (i:Int);omega)
theorem hex_t (K:Nat)(n:Int)(hK:1048577<K):Tot (Q23.f K (n,())) λr=>r.1.1.size<=8:=by
 refine Tot.iter (step:=λrec a=>Q23.l0.step K (n,()) rec a) (λa=>-1<=a.2/\a.2<=7/\a.1.length=7-a.2) (λa=>(a.2+1).toNat) ?_ K _ (by show AC 8<K;omega) ⟨by show (-1:Int)<=7;omega,by show (7:Int)<=7;omega,by show (0:Int)=7-7;omega⟩;rintro rec ⟨z,i⟩ ⟨h0,h1,h2⟩ ih;simp only at h0 h1 h2 ih ⊢;simp only[Q23.l0.step];refine Tot.cnd (λh=>?_) λh=>?_
 ·have h:=of_decide_eq_true h;rw[aL (n:=4*i) (by omega) (by omega),aL (n:=i-1) (by omega) (by omega)];obtain⟨b0,b1⟩:=kF (a:=Aa n (2 ^ min (AC (4*i)) 64)) (m:=15) (by omega);refine Tot.not (decide_eq_false (by omega)) (Tot.ix b0 (Int.lt_of_le_of_lt b1 (by decide)) λy _ _=>Tot.fit ?_ (by omega) (by simp only[AI,AO];omega));exact ih _ ⟨by show -1<=i-1;omega,by show i-1<=7;omega,by show ((z++[_]).length:Int)=7-(i-1);rw[AN,A0];omega⟩ (by show AC (i-1+1)<AC (i+1);omega)
 ·have h:=of_decide_eq_false h;refine Tot.ret ?_;show (fT z).size<=8;rw[hX];omega
theorem mU (K:Nat)(w:au)(hw:(au.table w).length<=1048576)(hK:1048577<K):Tot (Q26.f K (w,())) λr=>r.1.1.size<=409/\(¬ gY w->r.1.1=ByteArray.mk #[]):=by
 simp only[Q26.f];refine Tot.bind (rx K w hw hK).tot λv hv=>Tot.cnd (λ_=>Tot.ret ⟨by show (0:Nat)<=409;omega,λ_=>rfl⟩) λh=>?_
 have hP:=hv.1 (by simpa using h);exact Tot.bind (wY K w hP hK) λb hb=>Tot.cat hb (b:=1) (by decide) λz hz=>Tot.bind (ya K _ (by omega) hK) λs _=>Tot.bind (hex_t K _ hK) λx hx=>Tot.cat hz hx λz hz=>Tot.ret ⟨hz,λh=>absurd hP h⟩
theorem uo (K:Nat)(s:ByteArray)(c:Int)(hs:s.size<=100000)(hK:1048577<K):Tot (Q35.f K (s,c,())) λr=>r.1.1.length<=s.size+1/\∀ p∈r.1.1,p.size<=s.size:=by
 have hex:∀ i j:Nat,(s.extract i j).size<=s.size:=λi j=>by rw[BD];omega
 refine Tot.iter (step:=λrec a=>Q35.l0.step K (s,c,()) rec a) (λa=>0<=a.2.1/\a.2.1<=a.2.2/\a.2.2<=s.size/\a.1.length<=a.2.2/\∀ p∈a.1,p.size<=s.size) (λa=>s.size-a.2.2.toNat) ?_ K _ (by show s.size-AC 0<K;omega) ⟨by show (0:Int)<=0;omega,by show (0:Int)<=0;omega,by show (0:Int)<=_;omega,by show (0:Int)<=0;omega,λp hp=>by cases hp⟩;rintro rec ⟨out,from_,i⟩ ⟨h0,h1,h2,h3,h4⟩ ih;simp only at h0 h1 h2 h3 h4 ih ⊢;simp only[Q35.l0.step];obtain⟨i,rfl⟩:=AE (BC h0 h1);have app:∀ x:ByteArray,x.size<=s.size->∀ p∈out++[x],p.size<=s.size:=λx hx p hp=>by
  rcases Af.1 hp with h|h
  ·exact h4 p h
  ·rw[AS.1 h];exact hx
 refine Tot.cnd (λh=>?_) λh=>?_
 ·have h:=of_decide_eq_true h;rw[av i (by omega)];refine Tot.ix (BC h0 h1) (by rw[ff];exact h) λy _ _=>Tot.cnd (λ_=>Tot.must (by rw[decide_eq_true h0,decide_eq_true h1,decide_eq_true h2];rfl) (Tot.fit (ih _ ⟨?_,?_,?_,?_,app _ (hex _ _)⟩ ?_) (by omega) (by simp only[AI,AO];omega))) λ_=>ih _ ⟨h0,?_,?_,?_,h4⟩ ?_
  ·show (0:Int)<=((i+1:Nat):Int);omega
  ·show ((i+1:Nat):Int)<=((i+1:Nat):Int);omega
  ·show ((i+1:Nat):Int)<=s.size;omega
  ·show ((out++[_]).length:Int)<=((i+1:Nat):Int);rw[AN,A0];omega
  ·show s.size-AC ((i+1:Nat):Int)<s.size-AC (i:Int);omega
  ·show from_<=((i+1:Nat):Int);omega
  ·show ((i+1:Nat):Int)<=s.size;omega
  ·show (out.length:Int)<=((i+1:Nat):Int);omega
  ·show s.size-AC ((i+1:Nat):Int)<s.size-AC (i:Int);omega
 ·refine Tot.must (by rw[decide_eq_true h0,decide_eq_true (by omega),decide_eq_true (Ad _)];rfl) (Tot.fit (Tot.ret ⟨?_,app _ (hex _ _)⟩) (by omega) (by simp only[AI,AO];omega));show (out++[_]).length<=_;rw[AN,A0];omega
theorem ja (K:Nat)(s:ByteArray)(hs:s.size<=100000)(hK:1048577<K):Tot (Q36.f K (s,())) λ_=>True:=by
 simp only[Q36.f,Q36.pre];have loop:((s.size:Int)<=6)->Tot (Q36.l0 K (s,()) (0,0)) λ_=>True:=λh6=>by
  refine Tot.iter (step:=λrec a=>Q36.l0.step K (s,()) rec a) (λa=>0<=a.2/\a.2<=s.size) (λa=>s.size-a.2.toNat) ?_ K _ (by show s.size-AC 0<K;omega) ⟨by show (0:Int)<=0;omega,by show (0:Int)<=_;omega⟩;rintro rec ⟨z,i⟩ ⟨h0,h1⟩ ih;simp only at h0 h1 ih ⊢;simp only[Q36.l0.step];obtain⟨i,rfl⟩:=AE h0;refine Tot.cnd (λh=>?_) λ_=>Tot.ret trivial
  have h:=of_decide_eq_true h;have hd:((i:Nat):Int)<s.data.toList.length:=by rw[ff];exact h
  rw[av i (by omega)];exact Tot.ix h0 hd λy _ _=>Tot.cnd (λ_=>Tot.ret trivial) λ_=>Tot.ix h0 hd λy _ _=>Tot.cnd (λ_=>Tot.ret trivial) λ_=>Tot.ix h0 hd λy _ _=>ih _ ⟨by show (0:Int)<=((i+1:Nat):Int);omega,by show ((i+1:Nat):Int)<=_;omega⟩ (by show s.size-AC ((i+1:Nat):Int)<s.size-AC (i:Int);omega)
 refine Tot.bind (cq K _ _ _).tot λv hv=>Tot.cnd (λ_=>Tot.ret trivial) λh=>?_
 have h16:=hv.1 (by simpa using h);exact Tot.cnd (λh=>Tot.ix (by omega) (by rw[ff];have:=of_decide_eq_true h;omega) λy _ _=>Tot.cnd (λ_=>Tot.ret trivial) λ_=>loop h16.2) λ_=>loop h16.2
theorem tt (K:Nat)(s:ByteArray)(hs:s.size<=100000)(hK:1048577<K):Tot (Q37.f K (s,())) λ_=>True:=by
 simp only[Q37.f];refine Tot.cnd (λ_=>Tot.ret trivial) λh=>?_
 have h:=of_decide_eq_false h;have hd:(0:Int)<s.data.toList.length:=by rw[ff];omega
 have rest:Tot (bif decide ((0:Int)<=1)&&decide ((1:Int)<=(s.size:Int))&&decide ((s.size:Int)<=(s.size:Int)) then ((Q36.f K (s.extract (AC 1) (AC (s.size:Int)),())).bind λy5=>bif decide (y5.1.1<0) then (some (((-1),false,()),())) else (bif s.toList==(ByteArray.mk #[45,48]).toList then (some (((-1),false,()),())) else ((idx s.data.toList 0).bind λy6=>bif (y6.toNat:Int)==45 then (some ((wr .i64 (0-y5.1.1),true,()),())) else (some ((y5.1.1,true,()),()))))) else none) λ (_:(Int×Bool×Unit)×Unit)=>True :=
  Tot.must (by rw[decide_eq_true (by omega:(0:Int)<=1),decide_eq_true (by omega:(1:Int)<=s.size),decide_eq_true (Ad _)];rfl) (Tot.bind (ja K _ (by rw[BD];omega) hK) λv _=>Tot.cnd (λ_=>Tot.ret trivial) λ_=>Tot.cnd (λ_=>Tot.ret trivial) λ_=>Tot.ix (by omega) hd λy _ _=>Tot.cnd (λ_=>Tot.ret trivial) λ_=>Tot.ret trivial)
 exact Tot.ix (by omega) hd λy _ _=>Tot.cnd (λ_=>Tot.ix (by omega) hd λy _ _=>Tot.cnd (λ_=>Tot.ret trivial) λ_=>rest) λ_=>rest
theorem yb (K:Nat)(s:ByteArray)(hs:s.size<=100000)(hK:1048577<K):Tot (Q38.f K (s,())) λ_=>True:=by
 simp only[Q38.f,Q38.pre];have loop:∀ (xs:List ByteArray) (n1 n2:Int) (b:Bool),xs.length=3->Tot (Q38.l0 K (s,()) (xs,1,n1,n2,0,b)) λ_=>True:=λxs n1 n2 b hx=>by
  refine Tot.iter (step:=λrec a=>Q38.l0.step K (s,()) rec a) (λa=>a.1.length=3/\1<=a.2.1/\a.2.1<=5) (λa=>5-a.2.1.toNat) ?_ K _ (by show 5-AC 1<K;omega) ⟨hx,by show (1:Int)<=1;omega,by show (1:Int)<=5;omega⟩;rintro rec ⟨ys,i,m1,m2,m3,m4⟩ ⟨h0,h1,h2⟩ ih;simp only at h0 h1 h2 ih ⊢;simp only[Q38.l0.step];refine Tot.cnd (λh=>?_) λ_=>Tot.bind (nu K _).tot λ_ _=>Tot.ret trivial
  have h:=of_decide_eq_true h;rw[aL (n:=i+1) (by omega) (by omega)];have go:∀ m:Int,Tot (rec (ys,i+1,m1,m2,m,m4)) λ_=>True:=λm=>ih _ ⟨h0,by show 1<=i+1;omega,by show i+1<=5;omega⟩ (by show 5-AC (i+1)<5-AC i;omega)
  exact Tot.bind (rQ K i (by omega) h) λv _=>Tot.ix2 (by omega) (by omega) λy _ _=>Tot.cnd (λ_=>go _) λ_=>go _
 have rest:∀ (z:ByteArray) (b:Bool),z.size<=s.size->Tot ((Q35.f K (z,58,())).bind λy13=>bif (AB y13.1.1:Int) != 3 then (some (((0,(0,(0,b))),false,()),())) else ((idx y13.1.1 0).bind λ_=>(idx y13.1.1 (AC 0:Nat)).bind λy15=>(Q36.f K (y15,())).bind λy16=>(idx y13.1.1 1).bind λ_=>(idx y13.1.1 (AC 1:Nat)).bind λy18=>(Q36.f K (y18,())).bind λy19=>Q38.l0 K (s,()) (y13.1.1,1,y16.1.1,y19.1.1,0,b))) λ_=>True:=λz b hz =>
  Tot.bind (uo K z 58 (by omega) hK) λv ⟨_,hp⟩=>Tot.cnd (λ_=>Tot.ret trivial) λh=>by
   have h3:(v.1.1.length:Int)=3:=by simpa using h
   exact Tot.ix2 (by omega) (by omega) λy hy _=>Tot.bind (ja K y (by have:=hp y hy;omega) hK) λ_ _=>Tot.ix2 (by omega) (by omega) λy hy _=>Tot.bind (ja K y (by have:=hp y hy;omega) hK) λ_ _=>loop _ _ _ _ (by omega)
 refine Tot.cnd (λh=>?_) λ_=>rest s false (AZ _)
 have h:=of_decide_eq_true h;rw[aL (n:=(s.size:Int)-1) (by omega) (by omega)];exact Tot.ix (by omega) (by rw[ff];omega) λy _ _=>Tot.cnd (λ_=>Tot.must (by simp only[Ai,decide_eq_true_eq];omega) (rest _ true (by rw[BD];omega))) λ_=>rest s false (AZ _)
theorem yc (K:Nat)(s:ByteArray)(hs:s.size<=100000)(hK:1048577<K):Tot (Q39.f K (s,())) λr=>r.1.1.length<=100001:=by
 simp only[Q39.f,Q39.pre];refine Tot.cnd (λ_=>Tot.ret (by show (0:Nat)<=_;omega)) λ_=>Tot.bind (uo K s 44 hs hK) ?_
 rintro⟨⟨xs,⟨⟩⟩,⟨⟩⟩ ⟨hl,hp⟩;dsimp only at hl hp ⊢;refine Tot.iter (step:=λrec a=>Q39.l0.step K (s,()) rec a) (λa=>a.2.1=xs/\0<=a.2.2/\a.2.2<=xs.length/\(a.1.length:Int)<=a.2.2) (λa=>xs.length-a.2.2.toNat) ?_ K _ (by show xs.length-AC 0<K;omega) ⟨rfl,by show (0:Int)<=0;omega,by show (0:Int)<=_;omega,by show (0:Int)<=0;omega⟩;rintro rec ⟨out,ys,i⟩ ⟨rfl,h0,h1,h2⟩ ih;simp only at h0 h1 h2 hl hp ih ⊢;simp only[Q39.l0.step];obtain⟨i,rfl⟩:=AE h0;refine Tot.cnd (λh=>?_) λ_=>Tot.ret (by show out.length<=_;omega)
 have h:=of_decide_eq_true h;rw[av i (by omega)];exact Tot.ix2 h0 h λy hy _=>Tot.bind (yb K y (by have:=hp y hy;omega) hK) λv _=>Tot.cnd (λ_=>Tot.ret (by show (0:Nat)<=_;omega)) λ_=>Tot.fit (ih _ ⟨rfl,by show (0:Int)<=((i+1:Nat):Int);omega,by show ((i+1:Nat):Int)<=_;omega,by show ((out++[_]).length:Int)<=((i+1:Nat):Int);rw[AN,A0];omega⟩ (by show ys.length-AC ((i+1:Nat):Int)<ys.length-AC (i:Int);omega)) (by omega) (by simp only[AI,AO];omega)
theorem yd (K:Nat)(s:ByteArray)(hs:s.size<=100000)(hK:1048577<K):Tot (Q40.f K (s,())) λr=>r.1.1.length<=100001:=by
 simp only[Q40.f];exact Tot.bind (yc K s hs hK) λv hv=>Tot.cnd (λ_=>Tot.ret (by show (0:Nat)<=_;omega)) λ_=>Tot.bind (mT K _ (by omega) hK) λx _=>Tot.cnd (λ_=>Tot.ret (by show (0:Nat)<=_;omega)) λ_=>Tot.ret hv
theorem oE (K:Nat)(s:ByteArray)(hs:s.size<=100000)(hK:1048577<K):Tot (Q41.f K (s,())) λr=>r.1.2.1=true->gY r.1.1:=by
 simp only[Q41.f,Q41.pre];refine Tot.bind (uo K s 32 hs hK) ?_;rintro⟨⟨xs,⟨⟩⟩,⟨⟩⟩ ⟨hl,hp⟩;dsimp only at hl hp ⊢;refine Tot.cnd (λ_=>Tot.ret λh=>by cases h) λ_=>Tot.cnd (λ_=>Tot.ret λh=>by cases h) λh=>?_
 have h12:(xs.length:Int)=12:=by simpa using h
 have hsz:∀ y∈xs,y.size<=100000:=λy hy=>Al (hp y hy) hs
 have loop:∀ p:Int,Tot (Q41.l0 K (s,()) (xs,1,p,0)) λr=>r.1.2.1=true->gY r.1.1:=λp=>by
  refine Tot.iter (step:=λrec a=>Q41.l0.step K (s,()) rec a) (λa=>a.1=xs/\1<=a.2.1/\a.2.1<=7) (λa=>7-a.2.1.toNat) ?_ K _ (by show 7-AC 1<K;omega) ⟨rfl,by show (1:Int)<=1;omega,by show (1:Int)<=7;omega⟩;rintro rec ⟨ys,i,p,k⟩ ⟨rfl,h1,h2⟩ ih;simp only at h1 h2 hl h12 hsz ih ⊢;simp only[Q41.l0.step];refine Tot.cnd (λh=>?_) λ_=>?_
  ·have h:=of_decide_eq_true h;rw[aL (n:=i+1) (by omega) (by omega)];have go:∀ m:Int,Tot (rec (ys,i+1,p,m)) λr=>r.1.2.1=true->gY r.1.1:=λm=>ih _ ⟨rfl,by show 1<=i+1;omega,by show i+1<=7;omega⟩ (by show 7-AC (i+1)<7-AC i;omega)
   exact Tot.bind (rR K i (by omega) h) λv _=>Tot.ix2 (by omega) (by omega) λy _ _=>Tot.cnd (λ_=>go _) λ_=>go _
  ·refine Tot.ix2 (by omega) (by omega) λy hy _=>Tot.bind (ja K y (hsz y hy) hK) λ_ _=>Tot.ix2 (by omega) (by omega) λy hy _=>Tot.bind (ja K y (hsz y hy) hK) λ_ _=>Tot.ix2 (by omega) (by omega) λy hy _=>Tot.bind (ja K y (hsz y hy) hK) λ_ _=>Tot.ix2 (by omega) (by omega) λy hy _=>Tot.bind (ja K y (hsz y hy) hK) λ_ _ =>
    Tot.ix2 (by omega) (by omega) λy hy _=>Tot.bind (tt K y (hsz y hy) hK) λ_ _=>Tot.ix2 (by omega) (by omega) λy hy _=>Tot.bind (tt K y (hsz y hy) hK) λ_ _=>Tot.ix2 (by omega) (by omega) λy hy _=>Tot.bind (yd K y (hsz y hy) hK) λt ht=>Tot.ix2 (by omega) (by omega) λy hy _=>Tot.bind (ja K y (hsz y hy) hK) λ_ _=>Tot.ix2 (by omega) (by omega) λy hy _=>Tot.bind (ja K y (hsz y hy) hK) λ_ _ =>
    Tot.cnd (λ_=>Tot.ret λh=>by cases h) λ_=>Tot.cnd (λ_=>Tot.ret λh=>by cases h) λ_=>Tot.cnd (λ_=>Tot.ret λh=>by cases h) λ_=>Tot.bind (mU K _ (by show t.1.1.length<=1048576;omega) hK) λx ⟨_,hx⟩=>Tot.cnd (λ_=>Tot.ret λh=>by cases h) λhne=>Tot.ret λ_=>?_
   refine Classical.byContradiction λhn=>?_
   rw[hx hn]at hne;have he:(ByteArray.mk #[]).toList=s.toList:=by
    have:((ByteArray.mk #[]).toList != s.toList)=false:=hne;simpa using this
   rw[BY,BY]at he;have h0:=congrArg AB he;rw[ff,ff]at h0;have h1:(ByteArray.mk #[]).size=0:=rfl;omega
 exact Tot.ix2 (by omega) (by omega) λy _ _=>Tot.cnd (λ_=>loop 2) λ_=>loop 1
def Rt (v r:Nat):Prop:=r*r<=v/\v<(r+1)*(r+1)
theorem Rt.eq {v r s:Nat}(h1:Rt v r)(h2:Rt v s):r=s:=by
 obtain⟨a1,a2⟩:=h1;obtain⟨b1,b2⟩:=h2;rcases Be r s with h|h|h
 ·have:=Au (show r+1<=s by omega) (show r+1<=s by omega);omega
 ·exact h
 ·have:=Au (show s+1<=r by omega) (show s+1<=r by omega);omega
theorem vD (K:Nat)(v:Nat)(hv:v<1500000001*1500000001)(hK:1048577<K):∃ r,Rt v r/\Q66.f K ((v:Int),())=some (((r:Int),()),()):=by
 have key:∀ (e k l h:Nat),h-l<2 ^ e->e<k->l<=h->h<=1500000000->l*l<=v->v<(h+1)*(h+1)->∃ r,Rt v r/\ae (λrec a=>Q66.l0.step K ((v:Int),()) rec a) k ((l:Int),(h:Int))=some (((r:Int),()),()):=by
  intro e;induction e with
  |zero =>
   intro k l h h1 hk hlh hh h2 h3;obtain⟨k,rfl⟩:∃ k',k=k'+1:=⟨k-1,by omega⟩;have:l=h:=by omega
   subst this;refine⟨l,⟨h2,h3⟩,?_⟩;show Q66.l0.step K _ _ _=_;simp only[Q66.l0.step];rw[decide_eq_false (by omega)];rfl
  |succ e ih =>
   intro k l h h1 hk hlh hh h2 h3;obtain⟨k,rfl⟩:∃ k',k=k'+1:=⟨k-1,by omega⟩;show ∃ r,Rt v r/\Q66.l0.step K _ _ _=_;simp only[Q66.l0.step];by_cases hl:l<h
   ·rw[decide_eq_true (show (l:Int)<(h:Int) by omega)];have e1:wr .i64 ((l:Int)+(h:Int))=(l:Int)+h:=aL (by omega) (by omega);have e2:wr .i64 ((l:Int)+(h:Int)+1)=((l+h+1:Nat):Int):=(aL (by omega) (by omega)).trans (by omega);have e3:BA ((l+h+1:Nat):Int) 2=(((l+h+1) / 2:Nat):Int):=by
     rw[Ab (by omega)];omega
    rw[e1,e2,e3];have hm:l<(l+h+1) / 2/\(l+h+1) / 2<=h:=by omega
    have hw:h-(l+h+1) / 2<2 ^ e/\(l+h+1) / 2-1-l<2 ^ e:=by
     rw[Nat.pow_succ]at h1;omega
    generalize (l+h+1) / 2=m at *;have e4:wr .i64 (m:Int)=m:=aL (by omega) (by omega);have e5:BA (v:Int) (m:Int)=((v / m:Nat):Int):=by
     rw[Ab (by omega)];rfl
    have hvm:v / m<=v:=Nat.div_le_self _ _;have hq:m<=v / m<->m*m<=v:=Nat.le_div_iff_mul_le (by omega);generalize v / m=q at *;have e6:wr .i64 (q:Int)=(q:Int):=aL (by omega) (by omega);rw[e4,e5,e6,decide_eq_false (show ¬ (m:Int)=0 by omega)];simp only[cond_true,cond_false];by_cases hc:m<=q
    ·rw[decide_eq_true (by omega)];exact ih k m h hw.1 (by omega) (by omega) hh (hq.1 hc) h3
    ·rw[decide_eq_false (by omega)];have hc2:¬ m*m<=v:=λh4=>hc (hq.2 h4)
     have e7:wr .i64 ((m:Int)-1)=((m-1:Nat):Int):=dS m (by omega) (by omega);rw[e7];exact ih k l (m-1) hw.2 (by omega) (by omega) (by omega) h2 (by rw[show m-1+1=m by omega];omega)
   ·have:l=h:=by omega
    subst this;refine⟨l,⟨h2,h3⟩,?_⟩;rw[decide_eq_false (by omega)];rfl
 exact key 31 K 0 1500000000 (by decide) (by omega) (by omega) (by omega) (by omega) hv
theorem zf (K:Nat)(v:Nat)(hv:v<1500000001*1500000001)(hK:1048577<K):∃ r,Rt v r/\Q163.f K ((v:Int),())=some (((r:Int),()),()):=by
 have key:∀ (e k l h:Nat),h-l<=2 ^ e->e<k->l<h->h<=2147483648->l*l<=v->v<h*h->∃ r,Rt v r/\ae (λrec a=>Q163.l0.step K ((v:Int),()) rec a) k ((l:Int),(h:Int))=some (((r:Int),()),()):=by
  intro e;induction e with
  |zero =>
   intro k l h h1 hk hlh hh h2 h3;obtain⟨k,rfl⟩:∃ k',k=k'+1:=⟨k-1,by omega⟩;have:h=l+1:=by omega
   subst this;refine⟨l,⟨h2,h3⟩,?_⟩;show Q163.l0.step K _ _ _=_;simp only[Q163.l0.step];have e0:wr .i64 (((l+1:Nat):Int)-(l:Int))=((l+1:Nat):Int)-(l:Int):=aL (by omega) (by omega);rw[e0,decide_eq_false (by omega)];rfl
  |succ e ih =>
   intro k l h h1 hk hlh hh h2 h3;obtain⟨k,rfl⟩:∃ k',k=k'+1:=⟨k-1,by omega⟩;show ∃ r,Rt v r/\Q163.l0.step K _ _ _=_;simp only[Q163.l0.step];have e0:wr .i64 ((h:Int)-(l:Int))=(h:Int)-(l:Int):=aL (by omega) (by omega);rw[e0];by_cases hl:l+1<h
   ·rw[decide_eq_true (show (h:Int)-(l:Int)>1 by omega)];have e1:wr .i64 ((l:Int)+(h:Int))=((l+h:Nat):Int):=(aL (by omega) (by omega)).trans (by omega);have e3:BA ((l+h:Nat):Int) 2=(((l+h) / 2:Nat):Int):=by
     rw[Ab (by omega)];omega
    rw[e1,e3];have hm:l<(l+h) / 2/\(l+h) / 2<h:=by omega
    have hw:h-(l+h) / 2<=2 ^ e/\(l+h) / 2-l<=2 ^ e:=by
     rw[Nat.pow_succ]at h1;omega
    generalize (l+h) / 2=m at *;have e4:wr .i64 (m:Int)=m:=aL (by omega) (by omega);have hmm:m*m<=2147483648*2147483648:=Au (by omega) (by omega);have e5:(m:Int)*(m:Int)=((m*m:Nat):Int):=(Int.natCast_mul m m).symm;have e6:wr .i64 ((m*m:Nat):Int)=((m*m:Nat):Int):=aL (by omega) (by omega);rw[e4,e5,e6];simp only[cond_true];by_cases hc:m*m<=v
    ·rw[decide_eq_true (by omega)];exact ih k m h hw.1 (by omega) (by omega) hh hc h3
    ·rw[decide_eq_false (by omega)];exact ih k l m hw.2 (by omega) (by omega) (by omega) h2 (by omega)
   ·have:h=l+1:=by omega
    subst this;refine⟨l,⟨h2,h3⟩,?_⟩;rw[decide_eq_false (by omega)];rfl
 exact key 31 K 0 2147483648 (by decide) (by omega) (by omega) (by omega) (by omega) (by omega)
def dZ (x:Int):Int:=if x< -1000000000 then -1000000000 else if x>1000000000 then 1000000000 else x
theorem jj (K:Nat)(x:Int):Q65.f K (x,())=some ((dZ x,()),()):=by
 simp only[Q65.f,Q62.f,dZ];by_cases h:x< -1000000000
 ·rw[decide_eq_true h,if_pos h];rfl
 ·rw[decide_eq_false h,if_neg h];by_cases h2:x>1000000000
  ·rw[decide_eq_true h2,if_pos h2];rfl
  ·rw[decide_eq_false h2,if_neg h2];rfl
theorem pm (K:Nat)(x:Int):Q162.f K (x,())=some ((dZ x,()),()):=by
 simp only[Q162.f,Q161.f,dZ,AA];by_cases h2:x>1000000000
 ·rw[decide_eq_true (show (1000000000:Int)<x by omega),if_neg (by omega:¬ x< -1000000000),if_pos h2];rfl
 ·rw[decide_eq_false (show ¬ (1000000000:Int)<x by omega)];simp only[cond_false];by_cases h:x< -1000000000
  ·rw[decide_eq_false (show ¬ -1000000000<x by omega),if_pos h];rfl
  ·rw[if_neg h,if_neg h2];by_cases h3:-1000000000<x
   ·rw[decide_eq_true h3];rfl
   ·rw[decide_eq_false h3];have:x=-1000000000:=by omega
    rw[this];rfl
theorem li (x:Int):-1000000000<=dZ x/\dZ x<=1000000000:=by
 unfold dZ;split
 ·omega
 ·split <;> omega
theorem qO {a:Int}(h:-1000000000<=a/\a<=1000000000):0<=a*a/\a*a<=1000000000000000000:=by
 have e:∃ b:Nat,b<=1000000000/\a*a=((b*b:Nat):Int):=by
  refine⟨a.natAbs,by omega,?_⟩;exact (Int.natAbs_mul_self).symm
 obtain⟨b,h1,h2⟩:=e;have:=Au h1 h1;omega
theorem vE (K:Nat)(x y:Int)(hK:1048577<K):∃ r,Q67.f K (x,y,())=some ((r,()),())/\Q164.f K (x,y,())=some ((r,()),()):=by
 simp only[Q67.f,Q164.f];rw[jj K x,jj K y,pm K x,pm K y];simp only[AA];have h1:=qO (li x);have h2:=qO (li y);generalize dZ x*dZ x=a at *;generalize dZ y*dZ y=b at *;have e1:wr .i64 a=a:=aL (by omega) (by omega);have e2:wr .i64 b=b:=aL (by omega) (by omega);have e3:wr .i64 (a+b)=(((a+b).toNat:Nat):Int):=(aL (by omega) (by omega)).trans (by omega);rw[e1,e2,e3];obtain⟨r,r1,r2⟩:=vD K (a+b).toNat (by omega) hK;obtain⟨s,s1,s2⟩:=zf K (a+b).toNat (by omega) hK;have:r=s:=r1.eq s1;subst this;rw[r2,s2];simp only[AA];rw[jj K r,pm K r];exact⟨_,rfl,rfl⟩
theorem vF (K:Nat)(c d:cF)(hK:1048577<K):∃ r,Q68.f K (c,d,())=some ((r,()),())/\Q165.f K (c,d,())=some ((r,()),()):=by
 simp only[Q68.f,Q165.f];obtain⟨b,h1,h2⟩:=fk K c;obtain⟨b',h3,h4⟩:=kA K c;have:b=b':=by rw[Aw,h2,h4]
 subst this;rw[h1,h3];cases b with
 |false=>exact⟨_,rfl,rfl⟩
 |true =>
  simp only[AA,AJ,cond_false];obtain⟨b,h1,h2⟩:=fk K d;obtain⟨b',h3,h4⟩:=kA K d;have:b=b':=by rw[Aw,h2,h4]
  subst this;rw[h1,h3];cases b with
  |false=>exact⟨_,rfl,rfl⟩
  |true =>
   simp only[AA,AJ,cond_false];obtain⟨r,h5,h6⟩:=vE K (wr .i64 (c.1-d.1)) (wr .i64 (c.2.1-d.2.1)) hK;rw[h5,h6];exact⟨_,rfl,rfl⟩
theorem vG (K:Nat)(x y:Int)(hK:1048577<K):Tot (Q67.f K (x,y,())) λ_=>True:=by
 simp only[Q67.f];rw[jj K x,jj K y];simp only[AA];have h1:=qO (li x);have h2:=qO (li y);generalize dZ x*dZ x=a at *;generalize dZ y*dZ y=b at *;have e1:wr .i64 a=a:=aL (by omega) (by omega);have e2:wr .i64 b=b:=aL (by omega) (by omega);have e3:wr .i64 (a+b)=(((a+b).toNat:Nat):Int):=(aL (by omega) (by omega)).trans (by omega);rw[e1,e2,e3];obtain⟨r,_,r2⟩:=vD K (a+b).toNat (by omega) hK;rw[r2];simp only[AA];rw[jj K r];exact⟨_,rfl,trivial⟩
theorem zg (K:Nat)(c d:cF)(hK:1048577<K):Tot (Q68.f K (c,d,())) λ_=>True:=by
 simp only[Q68.f];exact Tot.bind (fk K c).tot λ_ _=>Tot.cnd (λ_=>Tot.ret trivial) λ_=>Tot.bind (fk K d).tot λ_ _=>Tot.cnd (λ_=>Tot.ret trivial) λ_=>Tot.bind (vG K _ _ hK) λ_ _=>Tot.ret trivial
theorem jW (K:Nat)(n lo hi:Int)(h:lo<=hi):Tot (Q62.f K (n,lo,hi,())) λr=>InP r.1.1 lo hi:=by
 simp only[Q62.f];exact Tot.cnd (λ_=>Tot.ret ⟨Ad _,h⟩) λh1=>Tot.cnd (λ_=>Tot.ret ⟨h,Ad _⟩) λh2=>Tot.ret ⟨Int.not_lt.1 (of_decide_eq_false h1),Int.not_lt.1 (of_decide_eq_false h2)⟩
theorem zh (K:Nat)(c b:cF)(t s:Int)(hc:cr c)(hK:1048577<K):Tot (Q73.f K (c,b,t,s,())) λr=>cr r.1.1:=by
 simp only[Q73.f];refine Tot.bind (fk K c).tot λv hv=>Tot.cnd (λh=>?_) λ_=>Tot.bind (fk K b).tot λv hv=>Tot.cnd (λ_=>Tot.ret hc) λh2=>Tot.bind (cq K _ _ _).tot λv' hv'=>Tot.cnd (λ_=>Tot.ret hc) λh3=>?_
 ·rw[hv.2 hc]at h;cases h
 have hb:=hv.1 (by simpa using h2);have ht:=hv'.1 (by simpa using h3);obtain⟨_,_,_,⟨c1,c2⟩⟩:=hc;obtain⟨_,_,_,⟨b1,b2⟩⟩:=hb;obtain⟨t1,t2⟩:=ht;have hs:¬ wr .i64 (c.2.2.2+b.2.2.2)=0:=by rw[aL (by omega) (by omega)];omega
 have err:∀ w:Int,Tot (Q72.f K (c,b,w,t,())) λr=>InP r.1.1 1 1500:=λw=>by
  simp only[Q72.f,Q71.f];refine Tot.bind (P:=λ_=>True) (Tot.cnd (λ_=>Tot.ret trivial) λ_=>Tot.ret trivial) λ_ _=>Tot.not (decide_eq_false (show ¬ t=0 by omega)) (Tot.bind (jW K _ _ _ (by omega)) λ_ _=>Tot.not (decide_eq_false hs) (Tot.bind (jW K _ _ _ (by omega)) λ_ h=>Tot.ret h))
 refine Tot.bind (zg K c b hK) λ_ _=>?_
 simp only[Q69.f];refine Tot.bind (P:=λ_=>True) (Tot.not (decide_eq_false hs) (Tot.ret trivial)) λ_ _=>Tot.bind (vG K _ _ hK) λn _=>Tot.cnd (λ_=>?_) λh=>?_
 ·simp only[Q70.f];refine Tot.bind (P:=λ_=>True) (Tot.cnd (λ_=>Tot.ret trivial) λ_=>Tot.cnd (λ_=>Tot.ret trivial) λ_=>Tot.cnd (λ_=>Tot.ret trivial) λ_=>Tot.ret trivial) λ_ _=>Tot.cnd (λ_=>?_) λ_=>?_ <;>
  exact Tot.bind (jW K _ _ _ (by omega)) λ_ h1=>Tot.bind (jW K _ _ _ (by omega)) λ_ h2=>Tot.bind (jW K _ _ _ (by omega)) λ_ h3=>Tot.bind (err _) λ_ h4=>Tot.ret ⟨h1,h2,h3,h4⟩
 ·have hn:¬ n.1.1=0:=by simpa using h
  refine Tot.cnd (λ_=>?_) λ_=>?_ <;>
  exact Tot.not (decide_eq_false hn) (Tot.bind (jW K _ _ _ (by omega)) λ_ h1=>Tot.not (decide_eq_false hn) (Tot.bind (jW K _ _ _ (by omega)) λ_ h2=>Tot.bind (jW K _ _ _ (by omega)) λ_ h3=>Tot.bind (err _) λ_ h4=>Tot.ret ⟨h1,h2,h3,h4⟩))
noncomputable def oF (K:Nat)(c b:cF)(t s:Int):cF:=((Q73.f K (c,b,t,s,())).getD (((0,0,0,0),()),())).1.1
noncomputable def qP (K:Nat)(l:List Int):Int:=((Q74.f K (l,())).getD ((0,()),())).1.1
theorem vH (K:Nat)(c b:cF)(t s:Int)(hc:cr c)(hK:1048577<K):Q73.f K (c,b,t,s,())=some ((oF K c b t s,()),())/\cr (oF K c b t s):=by
 obtain⟨⟨⟨v,⟨⟩⟩,⟨⟩⟩,e,h⟩:=zh K c b t s hc hK;unfold oF;rw[e];exact⟨rfl,h⟩
theorem med_t (K:Nat)(l:List Int)(hl:l.length<=100)(hK:1048577<K):Tot (Q74.f K (l,())) λ_=>True:=by
 simp only[Q74.f,Q74.pre];have loop:∀ xs:List Int,xs.length<=100->Tot (Q74.l0 K (l,()) (xs,[],0)) λ_=>True:=λxs hx=>by
  refine Tot.iter (step:=λrec a=>Q74.l0.step K (l,()) (Q74.l1 K (l,()) rec) rec a) (λa=>a.1=xs/\0<=a.2.2/\a.2.2<=xs.length/\(a.2.1.length:Int)=a.2.2) (λa=>xs.length-a.2.2.toNat) ?_ K _ (by show xs.length-AC 0<K;omega) ⟨rfl,by show (0:Int)<=0;omega,by show (0:Int)<=_;omega,rfl⟩;rintro rec ⟨ys,zs,i⟩ ⟨rfl,h0,h1,h2⟩ ih;simp only at h0 h1 h2 hx ih ⊢;simp only[Q74.l0.step];obtain⟨i,rfl⟩:=AE h0;refine Tot.cnd (λh=>?_) λ_=>Tot.cnd (λ_=>Tot.ret trivial) λh=>?_
  ·have hlt:=of_decide_eq_true h;clear h;refine Tot.iter (step:=λrec1 a=>Q74.l1.step K (l,()) rec rec1 a) (λa=>a.1=ys/\a.2.1=zs/\a.2.2.1=i/\0<=a.2.2.2/\a.2.2.2<=zs.length) (λa=>zs.length-a.2.2.2.toNat) ?_ K _ (by show zs.length-AC 0<K;omega) ⟨rfl,rfl,rfl,by show (0:Int)<=0;omega,by show (0:Int)<=_;omega⟩;rintro rec1 ⟨us,vs,j,k⟩ ⟨rfl,rfl,e,k0,k1⟩ ih1;simp only at e k0 k1 hlt h1 h2 hx ih1 ih ⊢;subst e;simp only[Q74.l1.step];obtain⟨k,rfl⟩:=AE k0;have ins:∀ y:Int,Tot (rec (us,(([]++((vs.take (AC (k:Int))).drop (AC 0)))++([y]))++((vs.take (AC (AB vs:Int))).drop (AC (k:Int))),wr .i64 ((i:Int)+1))) λ_=>True:=λy=>by
    rw[av i (by omega)];refine ih _ ⟨rfl,by show (0:Int)<=((i+1:Nat):Int);omega,by show ((i+1:Nat):Int)<=_;omega,?_⟩ (by show us.length-AC ((i+1:Nat):Int)<us.length-AC (i:Int);omega);simp only[AH,A3,AW,AQ,AN,Ac,Ag,AI,AO];omega
   have fin:Tot (bif decide (0<=0)&&decide ((0:Int)<=(k:Int))&&decide ((k:Int)<=(AB vs:Int))&&true then (bif decide ((AB ([]:List (Ty.den (.int .i64)))+AB ((vs.take (AC (k:Int))).drop (AC 0)))*8<=ah) then ((idx us (i:Int)).bind λy3=>bif decide ((AB ([]++((vs.take (AC (k:Int))).drop (AC 0)))+AB ([y3]))*8<=ah) then (bif decide ((0:Int)<=(k:Int))&&decide ((k:Int)<=(AB vs:Int))&&decide ((AB vs:Int)<=(AB vs:Int))&&true then (bif decide ((AB (([]++((vs.take (AC (k:Int))).drop (AC 0)))++([y3]))+AB ((vs.take (AC (AB vs:Int))).drop (AC (k:Int))))*8<=ah) then (rec (us,(([]++((vs.take (AC (k:Int))).drop (AC 0)))++([y3]))++((vs.take (AC (AB vs:Int))).drop (AC (k:Int))),wr .i64 ((i:Int)+1))) else none) else none) else none) else none) else none) λ_=>True:=by
    refine Tot.must (by simp only[Ai,decide_eq_true_eq,BO];omega) (Tot.fit (Tot.ix h0 hlt λy _ _=>Tot.fit (Tot.must (by simp only[Ai,decide_eq_true_eq,BO];omega) (Tot.fit (ins y) (by omega) ?_)) (by omega) ?_) (by omega) ?_) <;>
    simp only[AH,A3,AW,AQ,AN,Ac,Ag,AI,AO] <;> omega
   refine Tot.cnd (λh4=>?_) λ_=>fin
   have h4:=of_decide_eq_true h4;refine Tot.ix k0 h4 λy1 _ _=>Tot.ix h0 hlt λy2 _ _=>Tot.cnd (λ_=>?_) λ_=>fin
   rw[av k (by omega)];exact ih1 _ ⟨rfl,rfl,rfl,by show (0:Int)<=((k+1:Nat):Int);omega,by show ((k+1:Nat):Int)<=_;omega⟩ (by show vs.length-AC ((k+1:Nat):Int)<vs.length-AC (k:Int);omega)
  ·have h:¬ (zs.length:Int)=0:=by simpa using h
   rw[aL (n:=(zs.length:Int)-1) (by omega) (by omega)];have e:BA ((zs.length:Int)-1) 2=((zs.length:Int)-1) / 2:=by rw[Ab (by omega)]
   rw[e,aL (by omega) (by omega)];exact Tot.ix (by omega) (by omega) λy _ _=>Tot.ret trivial
 refine Tot.cnd (λh=>?_) λ_=>loop l hl
 have h:=of_decide_eq_true h;rw[aL (n:=(l.length:Int)-3) (by omega) (by omega)];exact Tot.must (by simp only[Ai,decide_eq_true_eq,BO];omega) (loop _ (by simp only[Ag,Ac];omega))
theorem med_s (K:Nat)(l:List Int)(hl:l.length<=100)(hK:1048577<K):Q74.f K (l,())=some ((qP K l,()),()):=by
 obtain⟨⟨⟨v,⟨⟩⟩,⟨⟩⟩,e,_⟩:=med_t K l hl hK;unfold qP;rw[e];rfl
theorem pY {α A R:Type}(k:α->Int)(x:α)(t:List α)(hA:Asc k t)(S0 S1:List α->Nat->A)(fin:List α->Option R){step:(A->Option R)->A->Option R}
  (h0:∀ (rec:A->Option R) (acc:List α) (i:Nat) (hi:i<t.length),acc.length=i->(∀ y∈t.take i,k y<k x)->step rec (S0 acc i)=if k t[i]<k x then rec (S0 (acc++[t[i]]) (i+1)) else if k t[i]=k x then rec (S1 (acc++[x]) (i+1)) else rec (S1 (acc++[x]++[t[i]]) (i+1)))
  (h1:∀ (rec:A->Option R) (acc:List α) (i:Nat) (hi:i<t.length),acc.length<=i+1->k x<k t[i]->step rec (S1 acc i)=rec (S1 (acc++[t[i]]) (i+1)))
  (e0:∀ (rec:A->Option R) (acc:List α),acc.length=t.length->(∀ y∈t,k y<k x)->step rec (S0 acc t.length)=fin (acc++[x]))
  (e1:∀ (rec:A->Option R) (acc:List α),acc.length<=t.length+1->step rec (S1 acc t.length)=fin acc) {K:Nat} (hK:t.length<K):ae step K (S0 [] 0)=fin (bP k x t):=by
 have r1:∀ (n i K:Nat) (acc:List α),i+n=t.length->n<K->acc.length<=i+1->(∀ y∈t.drop i,k x<k y)->ae step K (S1 acc i)=fin (acc++t.drop i):=by
  intro n;induction n with
  |zero =>
   intro i K acc hi hK ha _;obtain⟨K,rfl⟩:∃ k',K=k'+1:=⟨K-1,by omega⟩;have:i=t.length:=by omega
   subst this;show step (ae step K) _=_;rw[e1 _ _ ha,BF,AP]
  |succ n ih =>
   intro i K acc hi hK ha hg;obtain⟨K,rfl⟩:∃ k',K=k'+1:=⟨K-1,by omega⟩;have hlt:i<t.length:=by omega
   rw[AL hlt]at hg;show step (ae step K) _=_;rw[h1 _ _ _ hlt ha (hg _ (.head _)),ih (i+1) K _ (by omega) (by omega) (by simp;omega) (λy hy=>hg y (.tail _ hy)),AL hlt];simp
 have above:∀ i (hi:i<t.length),∀ y∈t.drop (i+1),k t[i]<k y:=λi hi y hy=>by
  have:=List.Pairwise.drop (i:=i) hA;rw[AL hi]at this;exact (AT.1 this).1 y hy
 have r0:∀ (n i K:Nat) (acc:List α),i+n=t.length->n<K->acc=t.take i->(∀ y∈t.take i,k y<k x)->ae step K (S0 acc i)=fin (bP k x t):=by
  intro n;induction n with
  |zero =>
   intro i K acc hi hK ha hl;obtain⟨K,rfl⟩:∃ k',K=k'+1:=⟨K-1,by omega⟩;have:i=t.length:=by omega
   subst this;rw[At]at ha hl;subst ha;show step (ae step K) _=_;rw[e0 _ _ rfl hl];unfold bP;rw[AU.2 (by simpa using hl),AV.2 (λy hy=>by have:=hl y hy;simp;omega)]
  |succ n ih =>
   intro i K acc hi hK ha hl;obtain⟨K,rfl⟩:∃ k',K=k'+1:=⟨K-1,by omega⟩;have hlt:i<t.length:=by omega
   subst ha;have htl:(t.take i).length=i:=by rw[Ac];omega
   show step (ae step K) _=_;rw[h0 _ _ _ hlt htl hl];have hput:k x<=k t[i]->bP k x t=t.take i++x::(t.drop i).filter (λy=>decide (k x<k y)):=λhc=>by
    unfold bP;conv=>lhs;rw[<- BE i t]
    rw[Am,Am,AU.2 (by simpa using hl),(AV (l:=t.take i)).2 (λy hy=>by have:=hl y hy;simp;omega),AQ];rw[AL hlt,AY,if_neg (by simp;omega),AV.2 (λy hy=>by have:=above i hlt y hy;simp;omega),AP]
   by_cases hc:k t[i]<k x
   ·rw[if_pos hc];refine ih (i+1) K _ (by omega) (by omega) (by rw[Bf,AM hlt];rfl) λy hy=>?_
    rw[Bf,AM hlt]at hy;rcases Af.1 hy with hy|hy
    ·exact hl y hy
    ·simp at hy;rw[hy];exact hc
   ·rw[if_neg hc,hput (by omega),AL hlt];by_cases he:k t[i]=k x
    ·rw[if_pos he,r1 n (i+1) K _ (by omega) (by omega) (by simp;omega) (λy hy=>by have:=above i hlt y hy;omega),AY,if_neg (by simp;omega),AU.2 (λy hy=>by have:=above i hlt y hy;simp;omega)];simp
    ·rw[if_neg he,r1 n (i+1) K _ (by omega) (by omega) (by simp;omega) (λy hy=>by have:=above i hlt y hy;omega),AY,if_pos (by simp;omega),AU.2 (λy hy=>by have:=above i hlt y hy;simp;omega)];simp
 exact r0 t.length 0 K [] (by omega) hK rfl (by simp)
theorem vI {t:List ag}{f:ag}(h:∀ g∈t,g.1<f.1):(b8 t f).1=t++[f]:=by
 rw[im (λg hg e=>by have:=h g hg;omega)];unfold bP;rw[AU.2 (by simpa using h),AV.2 (λy hy=>by have:=h y hy;simp;omega)]
theorem oG:∀ {fs t:List ag},Asc (λf:ag=>f.1) fs->(∀ g∈t,∀ f∈fs,g.1<f.1)->eP t fs=t++fs
 |[],t,_,_=>by simp[eP]
 |f::fs,t,hA,h=>by
  show eP (b8 t f).1 fs=_;rw[vI (λg hg=>h g hg f (by simp)),oG (AT.1 hA).2 ?_]
  ·simp
  ·intro g hg e he;rcases Af.1 hg with hg|hg
   ·exact h g hg e (by simp[he])
   ·rw[AS.1 hg];exact (AT.1 hA).1 e he
theorem uq {fs:List ag}(h:aA fs):eP [] fs=fs:=by
 rw[oG h.2 (by simp)];rfl
theorem ye (K:Nat)(a b:List ag)(hA:aA a)(hB:aA b)(hK:1048577<K):Q54.f K (a,b,())=some ((eP a b,()),()):=by
 simp only[Q54.f,Q54.pre];obtain⟨b1,s1,s2⟩:=fG K a (cI hA) hK;obtain⟨b2,s3,s4⟩:=fG K b (cI hB) hK;have:=cI hA;have:=cI hB;rw[s1,s3,s2.2 hA,s4.2 hB];simp only[AA,AJ,cond_false];rw[szb _ _ _ (by omega) (by show (AB ([]:List ag))+a.length<=_;simp;omega)];simp only[cond_true,AQ];refine sK a b hA hB.1 (step:=λrec x=>Q54.l0.step K (a,b,()) rec x) (λt=>some ((t,()),())) ?_ ?_ (by omega)
 ·intro rec t i hi ht;simp only[Q54.l0.step];rw[bM (by omega:(i:Int)<(AB b:Int)),ai hi,av i (by omega)];simp only[cond_true,AA];rw[uh K t _ (cI ht) ht.2 hK];rfl
 ·intro rec t;simp only[Q54.l0.step,bq];rfl
theorem rS {me:Int}{l:List cD}(h:cP me l)(s:Int):aA (eF l s):=by
 rcases pN (l:=l) (s:=s) with e|⟨x,hx,_,e⟩ <;> rw[e]
 ·exact⟨by simp,List.Pairwise.nil⟩
 ·exact (h.1 x hx).2.2.2.1
theorem olen {me:Int}{l:List cD}(h:cP me l):l.length<=1048576:=Al (gZ h.2 λx hx=>⟨(h.1 x hx).1.1,BC (h.1 x hx).1.2 (by decide)⟩) (by decide)
theorem vJ (K:Nat)(n:aa)(s:Int)(t:List ag)(h:cP n.1 (aa.others n))(ht:aA t)(hK:1048577<K):Q55.f K (n,s,t,())=some ((eP (eF (aa.others n) s) t,()),()):=by
 have hl:=olen h;refine ua (step:=λrec a=>Q55.l0.step K (n,s,t,()) rec a) (aa.others n) s (λl=>some ((eP l t,()),())) ?_ ?_ (aa.others n).length 0 K (by omega) (by omega)
 ·intro rec i hi;simp only[Q55.l0.step];rw[bM (by omega:(i:Int)<(AB (aa.others n):Int)),ai hi,av i (by omega)];simp only[cond_true,AA];cases (aa.others n)[i].1==s with
  |false=>rfl
  |true=>exact (congrArg (λo=>AG o _) (ye K _ t (h.1 _ (AD hi)).2.2.2.1 ht hK)).trans rfl
 ·intro rec;simp only[Q55.l0.step,bq,cond_false];rw[uq ht];refine (congrArg (λb=>bif b then _ else _) (szb (AB ([]:List ag)) t.length 32 (by omega) ?_)).trans rfl;have:=cI ht;simp;omega
theorem sum_s (K:Nat)(n:aa)(s:Int)(t:List ag)(h:cP n.1 (aa.others n))(hK:1048577<K):Q56.f K (n,s,t,())=some ((setO n (bP (λx:cD=>x.1) (s,t) (aa.others n)),()),()):=by
 have hl:=olen h;refine pY (step:=λrec a=>Q56.l0.step K (n,s,t,()) rec a) (λx:cD=>x.1) (s,t) (aa.others n) h.2 (λacc i=>(acc,false,(i:Int))) (λacc i=>(acc,true,(i:Int))) (λo=>some ((setO n o,()),())) ?_ ?_ ?_ ?_ (by omega)
 ·intro rec acc i hi ha _;simp only[Q56.l0.step];rw[bM (by omega:(i:Int)<(AB (aa.others n):Int)),ai hi,av i (by omega)];simp only[cond_true,AA,Ae];have z1:=szb acc.length 1 32 (by omega) (by omega);have z2:=szb (acc++[(s,t)]).length 1 32 (by omega) (by simp;omega);generalize (aa.others n)[i]=y at *;by_cases c1:y.1<s
  ·rw[if_pos c1,show decide (y.1>=s)=false from decide_eq_false (by omega),show (y.1 != s)=true by simp;omega];exact (congrArg (λb=>bif b then _ else _) z1).trans rfl
  ·rw[if_neg c1,show decide (y.1>=s)=true from decide_eq_true (by omega)];refine (congrArg (λb=>bif b then _ else _) z1).trans ?_;by_cases c2:y.1=s
   ·rw[if_pos c2,show (y.1 != s)=false by simpa using c2];rfl
   ·rw[if_neg c2,show (y.1 != s)=true by simpa using c2];exact (congrArg (λb=>bif b then _ else _) z2).trans rfl
 ·intro rec acc i hi ha hc;simp only[Q56.l0.step];rw[bM (by omega:(i:Int)<(AB (aa.others n):Int)),ai hi,av i (by omega)];simp only[cond_true,AA,AJ,cond_false];have z1:=szb acc.length 1 32 (by omega) (by omega);rw[show ((aa.others n)[i].1 != s)=true by simp;have:s<_:=hc;omega];exact (congrArg (λb=>bif b then _ else _) z1).trans rfl
 ·intro rec acc ha _;simp only[Q56.l0.step,bq,cond_false,Ae,cond_true];exact (congrArg (λb=>bif b then _ else _) (szb acc.length 1 32 (by omega) (by omega))).trans rfl
 ·intro rec acc ha;simp only[Q56.l0.step,bq,cond_false,AJ];rfl
theorem w8 (K:Nat)(a b:List ag)(ha:a.length<=1048576)(hK:1048577<K):Q57.f K (a,b,())=rb (decide (a≠b)):=by
 simp only[Q57.f,Q57.pre];by_cases hl:a.length=b.length
 ·rw[show ((AB a:Int) != (AB b:Int))=false by simp;omega];have:=cK (step:=λrec x=>Q57.l0.step K (a,b,()) rec x) a.length (λi=>(i:Int)) (λj=>∃ (h:j<a.length) (h':j<b.length),a[j]≠b[j]) (rb false) (λ_=>rb true) ?_ ?_ a.length K 0 (by omega) (by omega)
  ·rcases this with ⟨h1,h2⟩|⟨j,_,h1,⟨h3,h4,h5⟩,_,h2⟩
   ·refine (h2:Q57.l0 K (a,b,()) 0=_).trans ?_;rw[decide_eq_false];rintro hne;exact hne (BQ hl λi h3 h4=>Ao.1 λhx=>h1 i (Ah _) h3 ⟨h3,h4,hx⟩)
   ·refine (h2:Q57.l0 K (a,b,()) 0=_).trans ?_;rw[decide_eq_true];rintro rfl;exact h5 rfl
  ·intro rec i hi;simp only[Q57.l0.step];rw[bM (by omega:(i:Int)<(AB a:Int)),ai hi,av i (by omega),ai (show i<b.length by omega)];simp only[cond_true,AA];rw[show Ty.eqv t2 a[i] (b[i]'(by omega))=decide (a[i]=b[i]'(by omega)) from lL _ _];by_cases hc:a[i]=b[i]'(by omega)
   ·exact .inl ⟨λ⟨_,_,h⟩=>h hc,by rw[decide_eq_true hc];rfl⟩
   ·exact .inr ⟨⟨hi,by omega,hc⟩,by rw[decide_eq_false hc];rfl⟩
  ·intro rec;simp only[Q57.l0.step,bq];rfl
 ·rw[show ((AB a:Int) != (AB b:Int))=true by simp;omega,decide_eq_true (show a≠b from λe=>hl (by rw[e]))];rfl
theorem pn (K:Nat)(l:List Int)(t:Int)(hl:l.length<=1048576):Q63.f K (l,t,())=some ((gp l t,()),()):=by
 simp only[Q63.f];rw[szb _ _ _ (by omega) (by show (AB ([]:List Int))+l.length<=_;simp;omega)];simp only[cond_true,AQ];rw[szb _ _ _ (by omega) (by show l.length+[t].length<=_;simp;omega)];simp only[cond_true];have hlen:(l++[t]).length=l.length+1:=by simp
 show (bif decide (((l++[t]).length:Int)>3) then (bif decide (0<=wr .i64 (((l++[t]).length:Int)-3))&&decide (wr .i64 (((l++[t]).length:Int)-3)<=((l++[t]).length:Int))&&decide (((l++[t]).length:Int)<=((l++[t]).length:Int))&&true then some ((((l++[t]).take (AC ((l++[t]).length:Int))).drop (AC (wr .i64 (((l++[t]).length:Int)-3))),()),()) else none) else some ((l++[t],()),()))=_;by_cases h:l.length+1>3
 ·rw[aL (by omega) (by omega),decide_eq_true (by omega:((l++[t]).length:Int)>3),decide_eq_true (by omega:(0:Int)<=((l++[t]).length:Int)-3),decide_eq_true (by omega:((l++[t]).length:Int)-3<=((l++[t]).length:Int)),decide_eq_true (Ad _)];simp only[Ax,cond_true,gp];rw[show AC (((l++[t]).length:Int)-3)=(l++[t]).length-3 by omega,AH,At]
 ·rw[decide_eq_false (by omega:¬ ((l++[t]).length:Int)>3)];simp only[cond_false,gp];rw[show (l++[t]).length-3=0 by omega,AW]
theorem plen {me:Int}{l:List bf}(h:dT me l):l.length<=1048576:=Al (gZ h.2 λx hx=>(h.1 x hx).1) (by decide)
theorem sN {me:Int}{l:List bf}(h:dT me l)(node:Int):(dm l node).length<=3:=by
 unfold dm;cases hf:l.find? λp=>p.1==node with
 |none=>simp
 |some p =>
  have:=(h.1 p (Aq hf)).2.2.2.2.1.2;show p.2.2.length<=3;omega
theorem yf (K:Nat)(l:List bf)(node:Int)(c:cF)(t:Int)(me:Int)(h:dT me l)(hK:1048577<K):Q64.f K (l,node,c,t,())=some ((nG l node c t,()),()):=by
 have hl:=plen h;have h3:=sN h node;refine pY (step:=λrec a=>Q64.l0.step K (l,node,c,t,()) rec a) (λx:bf=>x.1) (node,c,gp (dm l node) t) l h.2 (λacc i=>(acc,false,(i:Int),[])) (λacc i=>(acc,true,(i:Int),gp (dm l node) t)) (λo=>some ((o,()),())) ?_ ?_ ?_ ?_ (by omega)
 ·intro rec acc i hi ha hlow;simp only[Q64.l0.step];rw[bM (by omega:(i:Int)<(AB l:Int)),ai hi,av i (by omega)];simp only[cond_true,AA,Ae];have z1:=szb acc.length 1 64 (by omega) (by omega);have z2:=szb (acc++[(node,c,gp (dm l node) t)]).length 1 64 (by omega) (by simp;omega);have hat:l[i].1=node->dm l node=l[i].2.2:=λe=>by unfold dm;rw[nD h.2 hi e];rfl
  have hno:node<l[i].1->dm l node=[]:=λe=>by
   unfold dm;rw[mB (k:=λp:bf=>p.1)]
   ·rfl
   intro y hy;obtain⟨j,hj,rfl⟩:=AK hy;by_cases hij:j<i
   ·have:=hlow l[j] (by rw[BL];exact⟨j,by omega,rfl⟩);show l[j].1≠node;have:l[j].1<node:=this;omega
   ·have:l[i].1<=l[j].1:=by
     by_cases e:i=j
     ·subst e;exact Ad _
     ·exact BH (ek.1 h.2 i j hi hj (by omega))
    show l[j].1≠node;omega
  have htl:=(h.1 _ (AD hi)).2.2.2.2.1.2;generalize l[i]=y at *;by_cases c1:y.1<node
  ·rw[if_pos c1,show decide (y.1>=node)=false from decide_eq_false (by omega),show (y.1 != node)=true by simp;omega,show (y.1==node)=false by simp;omega];exact (congrArg (λb=>bif b then _ else _) z1).trans rfl
  ·rw[if_neg c1,show decide (y.1>=node)=true from decide_eq_true (by omega)];by_cases c2:y.1=node
   ·rw[if_pos c2,show (y.1 != node)=false by simpa using c2,show (y.1==node)=true by simpa using c2];simp only[cond_true,cond_false];rw[<- hat c2];refine (congrArg (λo=>AG o _) (pn K _ t (by omega))).trans ?_;exact (congrArg (λb=>bif b then _ else _) z1).trans rfl
   ·rw[if_neg c2,show (y.1 != node)=true by simpa using c2,show (y.1==node)=false by simpa using c2];simp only[cond_true,cond_false];have e:=hno (by omega);rw[e]at z2 ⊢;refine (congrArg (λo=>AG o _) (pn K [] t (by simp))).trans ?_;refine (congrArg (λb=>bif b then _ else _) z1).trans ?_;exact (congrArg (λb=>bif b then _ else _) z2).trans rfl
 ·intro rec acc i hi ha hc;simp only[Q64.l0.step];rw[bM (by omega:(i:Int)<(AB l:Int)),ai hi,av i (by omega)];have hc:node<l[i].1:=hc;simp only[cond_true,AA,AJ,cond_false];rw[show (l[i].1 != node)=true by simp;omega,show (l[i].1==node)=false by simp;omega];exact (congrArg (λb=>bif b then _ else _) (szb acc.length 1 64 (by omega) (by omega))).trans rfl
 ·intro rec acc ha hlow;simp only[Q64.l0.step,bq,cond_false,Ae,cond_true];have e:dm l node=[]:=by
   unfold dm;rw[mB (k:=λp:bf=>p.1) (λy hy=>by have:y.1<node:=hlow y hy;show y.1≠node;omega)];rfl
  rw[e];refine (congrArg (λo=>AG o _) (pn K [] t (by simp))).trans ?_;exact (congrArg (λb=>bif b then _ else _) (szb acc.length 1 64 (by omega) (by omega))).trans rfl
 ·intro rec acc ha;simp only[Q64.l0.step,bq,cond_false,AJ]
def rT (n lo hi:Int):Int:=if n<lo then lo else if n>hi then hi else n
theorem xD (K:Nat)(n lo hi:Int):Q62.f K (n,lo,hi,())=some ((rT n lo hi,()),()):=by
 simp only[Q62.f,rT];by_cases h1:n<lo
 ·rw[decide_eq_true h1,if_pos h1];rfl
 ·rw[decide_eq_false h1,if_neg h1];by_cases h2:n>hi
  ·rw[decide_eq_true h2,if_pos h2];rfl
  ·rw[decide_eq_false h2,if_neg h2];rfl
theorem yg {n lo hi:Int}(h:lo<=hi):InP (rT n lo hi) lo hi:=by
 unfold rT;split
 ·exact⟨Ad _,h⟩
 ·split
  ·exact⟨h,Ad _⟩
  ·exact⟨by omega,by omega⟩
def vK (n:aa):Int:=rT ((ca n-(aa.probe n).2.1)*1000+500) 1 60000
noncomputable def po (K:Nat)(w:au)(c:cF)(p:bf):cF:=bif p.1==w.2.2.1 then oF K c (au.coord w) (qP K p.2.2) w.2.2.2.2.1 else c
def jA (n:aa)(w:au):List bf:=nG (aa.places n) w.2.2.1 (au.coord w) (vK n)
def pq (n:aa)(w:au):Bool:=!decide ((aa.probe n).1<0)&&(aa.probe n).1==w.2.2.1&&(aa.probe n).2.2.1==w.2.2.2.2.1&&w.2.2.2.2.2.1==w.2.2.1
noncomputable def eH (K:Nat)(n:aa)(w:au):aa:=bif pq n w then oC n ((jA n w).foldl (po K w) (aa.coord n)) (jA n w) else n
theorem tu {K:Nat}{w:au}{c:cF}{p:bf}(hc:cr c)(hK:1048577<K):cr (po K w c p):=by
 unfold po;cases p.1==w.2.2.1 with
 |false=>exact hc
 |true=>exact (vH K c _ _ _ hc hK).2
theorem rU {n:aa}(h:UpX n)(hp:¬ (aa.probe n).1<0):(aa.probe n).1≠n.1/\InP (aa.probe n).1 0 7/\aq (aa.probe n).1=aq n.1/\InP (aa.probe n).2.1 0 (ca n):=by
 have h1:=h.probe;unfold cO at h1;rw[if_neg (by omega)]at h1;obtain⟨h2,⟨f,hf,e⟩,h3,_⟩:=h1;exact⟨h2,e ▸ (h.table.1 f hf).1,e ▸ h.site f hf,h3⟩
theorem tv {n:aa}{w:au}(h:UpX n)(hw:cr (au.coord w))(hb:pq n w=true):dT n.1 (jA n w):=by
 simp only[pq,Ai,Bg,decide_eq_false_iff_not,beq_iff_eq]at hb;obtain⟨⟨⟨h1,h2⟩,h3⟩,h4⟩:=hb;obtain⟨p1,p2,p3,_⟩:=rU h h1;rw[h2]at p1 p2 p3;exact un h.places p2 p3 p1 hw (yg (by decide))
theorem ack_s (K:Nat)(n:aa)(w:au)(h:UpN n)(hw:cr (au.coord w))(hK:1048577<K):Q75.f K (n,w,())=some ((eH K n w,()),()):=by
 simp only[Q75.f,Q75.pre];have hb:pq n w=(!decide ((aa.probe n).1<0)&&(aa.probe n).1==w.2.2.1&&(aa.probe n).2.2.1==w.2.2.2.2.1&&w.2.2.2.2.2.1==w.2.2.1):=rfl;by_cases h1:(aa.probe n).1<0
 ·rw[show decide (n.2.2.2.2.2.2.2.2.2.2.1.1<0)=true from decide_eq_true h1];rw[show eH K n w=n by unfold eH;rw[hb,decide_eq_true h1];rfl];rfl
 ·rw[show decide (n.2.2.2.2.2.2.2.2.2.2.1.1<0)=false from decide_eq_false h1];cases h2:(aa.probe n).1==w.2.2.1 with
  |false =>
   rw[show eH K n w=n by unfold eH;rw[hb,decide_eq_false h1,h2];rfl];rw[show (n.2.2.2.2.2.2.2.2.2.2.1.1 != w.2.2.1)=true by unfold bne;rw[show (n.2.2.2.2.2.2.2.2.2.2.1.1==w.2.2.1)=false from h2];rfl];rfl
  |true =>
   rw[show (n.2.2.2.2.2.2.2.2.2.2.1.1 != w.2.2.1)=false by unfold bne;rw[show (n.2.2.2.2.2.2.2.2.2.2.1.1==w.2.2.1)=true from h2];rfl];cases h3:(aa.probe n).2.2.1==w.2.2.2.2.1 with
   |false =>
    rw[show eH K n w=n by unfold eH;rw[hb,decide_eq_false h1,h2,h3];rfl];rw[show (n.2.2.2.2.2.2.2.2.2.2.1.2.2.1 != w.2.2.2.2.1)=true by unfold bne;rw[show (n.2.2.2.2.2.2.2.2.2.2.1.2.2.1==w.2.2.2.2.1)=false from h3];rfl];rfl
   |true =>
    rw[show (n.2.2.2.2.2.2.2.2.2.2.1.2.2.1 != w.2.2.2.2.1)=false by unfold bne;rw[show (n.2.2.2.2.2.2.2.2.2.2.1.2.2.1==w.2.2.2.2.1)=true from h3];rfl];cases h4:w.2.2.2.2.2.1==w.2.2.1 with
    |false =>
     rw[show eH K n w=n by unfold eH;rw[hb,decide_eq_false h1,h2,h3,h4];rfl];rw[show (w.2.2.2.2.2.1 != w.2.2.1)=true by unfold bne;rw[h4];rfl];rfl
    |true =>
     have hB:pq n w=true:=by rw[hb,decide_eq_false h1,h2,h3,h4];rfl
     rw[show (w.2.2.2.2.2.1 != w.2.2.1)=false by unfold bne;rw[h4];rfl];have hp:=(rU h.x h1).2.2.2;have hn:=h.now1;have hP:=tv h.x hw hB;simp only[cond_false];rw[show wr .i64 (wr .i64 (wr .i64 (n.2.2.2.2.2.1-n.2.2.2.2.2.2.2.2.2.2.1.2.1)*1000)+500)=(ca n-(aa.probe n).2.1)*1000+500 by
      obtain⟨p1,p2⟩:=hp;show wr .i64 (wr .i64 (wr .i64 (ca n-(aa.probe n).2.1)*1000)+500)=_;rw[aL (n:=ca n-_) (by omega) (by omega),aL (n:=_*1000) (by omega) (by omega),aL (by omega) (by omega)]]
     rw[xD];simp only[AA];refine (congrArg (λo=>AG o _) (yf K (aa.places n) w.2.2.1 (au.coord w) (vK n) n.1 h.x.places hK)).trans ?_;simp only[AA];rw[show eH K n w=oC n ((jA n w).foldl (po K w) (aa.coord n)) (jA n w) by unfold eH;rw[hB];rfl];show Q75.l0 K (n,w,()) (0,(aa.coord n).1,(aa.coord n).2.1,(aa.coord n).2.2.1,(aa.coord n).2.2.2,jA n w)=_;have hl:=plen hP;refine lQ (step:=λrec a=>Q75.l0.step K (n,w,()) rec a) (jA n w) (po K w) cr (λc i=>((i:Int),c.1,c.2.1,c.2.2.1,c.2.2.2,jA n w)) (λc=>some ((oC n c (jA n w),()),())) (aa.coord n) h.x.coord ?_ ?_ (by omega)
     ·intro rec c i hi hc;refine⟨?_,tu hc hK⟩;simp only[Q75.l0.step];rw[bM (by omega:(i:Int)<(AB (jA n w):Int)),AH,ai hi,av i (by omega)];simp only[cond_true,AA];have htl:=(hP.1 _ (AD hi)).2.2.2.2.1.2;generalize (jA n w)[i]=y at *;unfold po;cases y.1==w.2.2.1 with
      |false=>rfl
      |true =>
       simp only[cond_true];refine (congrArg (λo=>AG o _) (med_s K y.2.2 (by omega) hK)).trans ?_;refine (congrArg (λo=>AG o _) (vH K c (au.coord w) (qP K y.2.2) w.2.2.2.2.1 hc hK).1).trans ?_;rfl
     ·intro rec c hc;simp only[Q75.l0.step,bq,cond_false];rfl
theorem zi {K:Nat}{n:aa}{w:au}(h:UpN n)(hw:cr (au.coord w))(hK:1048577<K):UpN (eH K n w)/\(eH K n w).1=n.1/\(eH K n w).2.2.1=n.2.2.1:=by
 unfold eH;cases hb:pq n w with
 |false=>exact⟨h,rfl,rfl⟩
 |true=>exact⟨h.heard (kZ (Inv:=cr) h.x.coord λc p _ hc=>tu hc hK) (tv h.x hw hb),rfl,rfl⟩
def oH (n:aa)(w:au):Prop:=n.2.1=true/\n.2.2.1=false/\w.2.2.2.1=n.1/\w.2.2.1≠n.1 /\
 (if w.1=2 then w.2.1=6/\aq w.2.2.1≠aq n.1/\(b7 (au.table w) (aq n.1)\/b7 (au.table w) (aq w.2.2.1)) else aq w.2.2.1=aq n.1/\(w.2.1≠6\/¬ b7 (au.table w) (aq n.1)))
theorem yh (K:Nat)(n:aa)(w:au)(hw:(au.table w).length<=1048576)(hK:1048577<K):Ret (Q43.f K (n,w,())) (oH n w):=by
 refine (Ret.cndN (P:=¬ n.2.1=true) (b:=!n.2.1) (by simp) λ_=>Ret.cndN (P:=n.2.2.1=true) (b:=n.2.2.1) Iff.rfl λ_=>Ret.cndN (P:=w.2.2.2.1≠n.1) (b:=w.2.2.2.1 != n.1) (by simp) λ_=>Ret.cndN (P:=w.2.2.1=n.1) (b:=w.2.2.1==n.1) (by simp) λ_ =>
  (?_:Ret _ (if w.1=2 then w.2.1=6/\aq w.2.2.1≠aq n.1/\(b7 (au.table w) (aq n.1)\/b7 (au.table w) (aq w.2.2.1)) else aq w.2.2.1=aq n.1/\(w.2.1≠6\/¬ b7 (au.table w) (aq n.1))))).iff ?_
 ·refine Ret.vl (dE K n.1) ?_;obtain⟨b1,e1,h1⟩:=fH K (au.table w) (aq n.1) hw hK;obtain⟨b2,e2,h2⟩:=fH K (au.table w) (aq w.2.2.1) hw hK;by_cases hp:w.1=2
  ·rw[show (w.1==2)=true by simpa using hp,if_pos hp];refine Ret.cnd (P:=w.2.1=6) (b:=w.2.1==6) (by simp) λ_=>?_
   refine Ret.cnd (P:=aq w.2.2.1≠aq n.1) (b:=aq w.2.2.1 != aq n.1) (by simp) λ_=>Ret.vl e1 ?_
   cases b1 with
   |true=>exact Ret.yes (.inl (h1.1 rfl))
   |false =>
    refine Ret.vl e2 ?_;exact Ret.of (b:=b2) (h2.trans ⟨.inr,λh=>h.resolve_left λh=>by have:=h1.2 h;cases this⟩)
  ·rw[show (w.1==2)=false by simpa using hp,if_neg hp];refine Ret.cnd (P:=aq w.2.2.1=aq n.1) (b:=aq w.2.2.1==aq n.1) (by simp) λ_=>?_
   by_cases hk:w.2.1=6
   ·show Ret (bif w.2.1 != 6 then _ else _) _;rw[show (w.2.1 != 6)=false by simpa using hk];refine Ret.vl e1 (Ret.of (b:=!b1) ?_);rw[Bg,<- Bl,h1];exact⟨.inr,λh=>h.resolve_left λh=>h hk⟩
   ·show Ret (bif w.2.1 != 6 then _ else _) _;rw[show (w.2.1 != 6)=true by simpa using hk];exact Ret.yes (.inl hk)
 ·unfold oH;rw[Ao,Bl,Ao]
def qQ (kind:Int)(n:aa)(to seq about:Int)(t:List ag):au:=(1,kind,n.1,to,seq,about,aa.coord n,t)
theorem oI (K:Nat)(n:aa)(kind to seq about:Int)(t:List ag)(ht:t.length<=1048576):Q44.f K (n,kind,to,seq,about,t,())=some ((qQ kind n to seq about t,()),()):=by
 simp only[Q44.f];rw[szb _ _ _ (by omega) (by show (AB ([]:List ag))+t.length<=_;simp;omega)];rfl
def mE (t:List ag)(s:Int):Bool:=t.all λf=>aq f.1==s
theorem lU {t:List ag}{s:Int}:mE t s=true<->b7 t s:=by simp[mE,b7]
def iB (t:List ag):ag:=(t.head?).getD (0,0,0,false)
def fh (n:aa)(w:au):List ag:=eP (eF (aa.others n) (aq (iB (au.table w)).1)) (au.table w)
def backW (n:aa)(w:au):au:=(2,6,n.1,w.2.2.1,0,n.1,aa.coord n,fh n w)
def sumN (n:aa)(w:au):aa:=setO n (bP (λx:cD=>x.1) (aq (iB (au.table w)).1,fh n w) (aa.others n))
def fX (n:aa)(w:au):aa×List au:=bif mE (au.table w) (aq n.1) then (iq n (au.table w) n.1,[]) else
 (sumN n w,bif w.1==2&&decide (au.table w≠fh n w) then [backW n w] else [])
theorem oJ:∀ {fs t:List ag} {g:ag},g∈eP t fs->g∈t\/g∈fs
 |[],_,_,h=>.inl h
 |f::fs,t,g,h=>by
  rcases oJ (fs:=fs) h with h|h
  ·have h:g∈(b8 t f).1:=h;rcases gl t f with e|e
   ·rw[e]at h;exact .inl h
   ·rw[e]at h;rcases aY.1 h with rfl|⟨h,_⟩
    ·exact .inr (by simp)
    ·exact .inl h
  ·exact .inr (by simp[h])
theorem oK:∀ {fs t:List ag} {g:ag},g∈t->∃ g'∈eP t fs,g'.1=g.1
 |[],_,g,h=>⟨g,h,rfl⟩
 |f::fs,t,g,h=>by
  obtain⟨g1,h1,e1⟩:=lR (f:=f) h;obtain⟨g2,h2,e2⟩:=oK (fs:=fs) h1;exact⟨g2,h2,e2.trans e1⟩
theorem sO {t:List ag}(hA:Asc (λg:ag=>g.1) t)(f:ag):∃ g∈(b8 t f).1,g.1=f.1:=by
 by_cases h:∃ g∈t,g.1=f.1
 ·obtain⟨g,hg,e⟩:=h;obtain⟨g',h1,h2⟩:=lR (f:=f) hg;exact⟨g',h1,h2.trans e⟩
 ·rw[im λg hg e=>h ⟨g,hg,e⟩];exact⟨f,aY.2 (.inl rfl),rfl⟩
theorem lV {n:aa}{w:au}(h:cP n.1 (aa.others n))(hw:aA (au.table w))(hh:oh (au.table w)):aA (fh n w)/\fh n w≠[]/\b7 (fh n w) (aq (iB (au.table w)).1):=by
 have hk:=rS h (aq (iB (au.table w)).1);refine⟨pS hk hw.1,?_,?_⟩
 ·unfold fh;cases ht:au.table w with
  |nil=>rw[ht]at hh;exact hh.elim
  |cons f l =>
   obtain⟨g,h1,_⟩:=sO (f:=f) (t:=eF (aa.others n) (aq (iB (f::l)).1)) (by rw[ht]at hk;exact hk.2);obtain⟨g',h2,_⟩:=oK (fs:=l) h1;exact Ba h2
 ·intro g hg;rcases oJ hg with hg|hg
  ·rcases pN (l:=aa.others n) (s:=aq (iB (au.table w)).1) with e|⟨x,hx,e1,e⟩
   ·rw[e]at hg;cases hg
   ·rw[e]at hg;rw[<- e1];exact (h.1 x hx).2.2.2.2 g hg
  ·cases ht:au.table w with
   |nil=>rw[ht]at hh;exact hh.elim
   |cons f l =>
    rw[ht]at hh hg;exact hh g hg
theorem yi {x:Int}(h:InP x 0 7):InP (aq x) 0 1:=by
 rw[gD h];obtain⟨h1,h2⟩:=h;constructor <;> omega
theorem xa {t:List ag}(hh:oh t)(ht:aA t):InP (iB t).1 0 7:=by
 cases t with
 |nil=>exact hh.elim
 |cons f l=>exact (ht.1 f (by simp)).1
theorem vL (K:Nat)(n:aa)(w:au)(h:UpN n)(hw:aA (au.table w))(hh:oh (au.table w))(hK:1048577<K):Q58.f K (n,w,())=some (((fX n w).1,(fX n w).2,()),()):=by
 simp only[Q58.f];rw[dE K n.1];simp only[AA];obtain⟨b1,e1,h1⟩:=fH K (au.table w) (aq n.1) (cI hw) hK;have hb:mE (au.table w) (aq n.1)=b1:=by rw[Aw,lU,h1]
 unfold fX;rw[hb];refine (congrArg (λo=>AG o _) e1).trans ?_;simp only[rb,AA];cases b1 with
 |true =>
  simp only[cond_true];refine (congrArg (λo=>AG o _) (tp K n (au.table w) n.1 h.learns hw.1 (cI hw) h.x.me hK)).trans rfl
 |false =>
  simp only[cond_false];obtain⟨a1,a2,a3⟩:=lV (n:=n) h.x.others hw hh;have hidx:idx (au.table w) 0=some (iB (au.table w)):=by
   cases ht:au.table w with
   |nil=>rw[ht]at hh;exact hh.elim
   |cons f l=>rfl
  refine (congrArg (λo=>AG o _) hidx).trans ?_;simp only[AA];rw[dE K];simp only[AA];refine (congrArg (λo=>AG o _) (vJ K n (aq (iB (au.table w)).1) (au.table w) h.x.others hw hK)).trans ?_;simp only[AA];refine (congrArg (λo=>AG o _) (sum_s K n (aq (iB (au.table w)).1) (fh n w) h.x.others hK)).trans ?_;simp only[AA];cases w.1==2 with
  |false=>rfl
  |true =>
   simp only[cond_true,Ap];refine (congrArg (λo=>AG o _) (w8 K (au.table w) (fh n w) (cI hw) hK)).trans ?_;simp only[rb,AA];cases decide (au.table w≠fh n w) with
   |false=>rfl
   |true =>
    simp only[cond_true];refine (congrArg (λo=>AG o _) (oI K (sumN n w) 6 w.2.2.1 0 n.1 (fh n w) (cI a1))).trans rfl
theorem ur {n:aa}{w:au}(h:UpN n)(hg:n.2.2.1=false)(hw:aA (au.table w))(hh:oh (au.table w)):UpN (fX n w).1/\(fX n w).1.1=n.1/\(fX n w).1.2.2.1=false:=by
 unfold fX;cases hb:mE (au.table w) (aq n.1) with
 |true=>exact lh h hg hw (lU.1 hb) (eR.me h.x.me)
 |false =>
  obtain⟨a1,a2,a3⟩:=lV (n:=n) h.x.others hw hh;refine⟨h.setOthers (um h.x.others (yi (xa hh hw)) (λe=>?_) a2 a1 a3),rfl,hg⟩;have:b7 (au.table w) (aq n.1):=by
   cases ht:au.table w with
   |nil=>rw[ht]at hh;exact hh.elim
   |cons f l=>rw[ht]at hh e;rw[<- e];exact hh
  rw[lU.2 this]at hb;cases hb
noncomputable def fg (K:Nat)(n:aa)(w:au):aa×List au :=
 bif w.2.1==1 then (bif aq w.2.2.2.2.2.1 != aq n.1 then (n,[]) else bif w.2.2.2.2.2.1==n.1 then (n,[]) else (jz n,[qQ 2 (jz n) w.2.2.2.2.2.1 w.2.2.2.2.1 n.1 (jy n w.2.2.2.2.2.1)]))
 else bif w.2.1==3 then (bif aq w.2.2.2.2.2.1 != aq n.1 then (n,[]) else bif w.2.2.2.2.2.1==n.1 then (n,[]) else bif w.2.2.2.2.2.1==w.2.2.1 then (n,[]) else (jz n,[qQ 1 (jz n) w.2.2.2.2.2.1 w.2.2.2.2.1 w.2.2.1 (jy n w.2.2.2.2.2.1)]))
 else bif w.2.1==4 then (n,[qQ 5 n w.2.2.1 0 n.1 (aa.table n)]) else bif w.2.1==2 then (eH K n w,[]) else (n,[])
theorem xb (K:Nat)(n:aa)(w:au)(h:UpN n)(hw:cr (au.coord w))(hK:1048577<K):Q76.f K (n,w,())=some (((fg K n w).1,(fg K n w).2,()),()):=by
 simp only[Q76.f];rw[dE K n.1];simp only[AA];have hf:=tq K n w.2.2.2.2.2.1 h.x.say hK;have ht:=cI (mD h.x.say w.2.2.2.2.2.1);unfold fg;cases w.2.1==1 with
 |true =>
  simp only[cond_true];rw[dE K];simp only[AA];cases aq w.2.2.2.2.2.1 != aq n.1 with
  |true=>rfl
  |false =>
   simp only[cond_false];cases w.2.2.2.2.2.1==n.1 with
   |true=>rfl
   |false =>
    simp only[cond_false];refine (congrArg (λo=>AG o _) hf).trans ?_;simp only[AA];refine (congrArg (λo=>AG o _) (oI K (jz n) 2 w.2.2.2.2.2.1 w.2.2.2.2.1 n.1 _ ht)).trans rfl
 |false =>
  simp only[cond_false];cases w.2.1==3 with
  |true =>
   simp only[cond_true];rw[dE K];simp only[AA];cases aq w.2.2.2.2.2.1 != aq n.1 with
   |true=>rfl
   |false =>
    simp only[cond_false];cases w.2.2.2.2.2.1==n.1 with
    |true=>rfl
    |false =>
     simp only[cond_false];cases w.2.2.2.2.2.1==w.2.2.1 with
     |true=>rfl
     |false =>
      simp only[cond_false];refine (congrArg (λo=>AG o _) hf).trans ?_;simp only[AA];refine (congrArg (λo=>AG o _) (oI K (jz n) 1 w.2.2.2.2.2.1 w.2.2.2.2.1 w.2.2.1 _ ht)).trans rfl
  |false =>
   simp only[cond_false];cases w.2.1==4 with
   |true=>exact (congrArg (λo=>AG o _) (oI K n 5 w.2.2.1 0 n.1 (aa.table n) (cI h.x.table))).trans rfl
   |false =>
    simp only[cond_false];cases w.2.1==2 with
    |true=>exact (congrArg (λo=>AG o _) (ack_s K n w h hw hK)).trans rfl
    |false=>rfl
theorem vM {K:Nat}{n:aa}{w:au}(h:UpN n)(hw:cr (au.coord w))(hK:1048577<K):UpN (fg K n w).1/\(fg K n w).1.1=n.1/\(fg K n w).1.2.2.1=n.2.2.1:=by
 unfold fg;cases w.2.1==1 <;> cases w.2.1==3 <;> cases w.2.1==4 <;> cases w.2.1==2 <;> cases aq w.2.2.2.2.2.1 != aq n.1 <;> cases w.2.2.2.2.2.1==n.1 <;> cases w.2.2.2.2.2.1==w.2.2.1 <;> first|exact⟨h,rfl,rfl⟩|exact⟨h.way,rfl,rfl⟩|exact zi h hw hK
open Classical in
noncomputable def dj (K:Nat)(n:aa)(w:au):aa×List au :=
 if gY w/\oH n w then (if w.2.1=6 then fX n w else fg K (iq n (au.table w) w.2.2.1) w) else (n,[])
theorem lj {n:aa}{w:au}(hW:gY w)(h:oH n w)(hk:w.2.1≠6):b7 (au.table w) (aq n.1)/\eR n w.2.2.1:=by
 obtain⟨_,_,w3,_,_,_,_,_,w9⟩:=hW;rw[if_neg hk]at w9;obtain⟨_,_,_,_,h5⟩:=h;by_cases hp:w.1=2
 ·rw[if_pos hp]at h5;exact absurd h5.1 hk
 ·rw[if_neg hp]at h5;exact⟨h5.1 ▸ w9,w3,h5.1⟩
theorem zj (K:Nat)(n:aa)(w:au)(h:n.2.1=true->UpN n)(hw:(au.table w).length<=1048576)(hK:1048577<K):Q77.f K (n,w,())=some (((dj K n w).1,(dj K n w).2,()),()):=by
 simp only[Q77.f];obtain⟨b1,e1,h1⟩:=rx K w hw hK;obtain⟨b2,e2,h2⟩:=yh K n w hw hK;rw[e1];cases b1 with
 |false =>
  unfold dj;rw[if_neg λh=>by have:=h1.2 h.1;cases this];rfl
 |true =>
  have hW:=h1.1 rfl;simp only[rb,AA,AJ,cond_false];refine (congrArg (λo=>AG o _) e2).trans ?_;cases b2 with
  |false =>
   unfold dj;rw[if_neg λh=>by have:=h2.2 h.2;cases this];rfl
  |true =>
   have hT:=h2.1 rfl;have hu:=h hT.1;simp only[rb,AA,AJ,cond_false];unfold dj;rw[if_pos ⟨hW,hT⟩];have hWt:=hW.2.2.2.2.2.2.2.1;by_cases hk:w.2.1=6
   ·rw[if_pos hk,show (w.2.1==6)=true by simpa using hk];have hh:=hW.2.2.2.2.2.2.2.2;rw[if_pos hk]at hh;exact (congrArg (λo=>AG o _) (vL K n w hu hWt hh hK)).trans rfl
   ·rw[if_neg hk,show (w.2.1==6)=false by simpa using hk];obtain⟨hs,hb⟩:=lj hW hT hk;have hl:=(lh hu hT.2.1 hWt hs hb).1;refine (congrArg (λo=>AG o _) (tp K n (au.table w) w.2.2.1 hu.learns hWt.1 hw hb.1 hK)).trans ?_;exact (congrArg (λo=>AG o _) (xb K _ w hl hW.2.2.2.2.2.2.1 hK)).trans rfl
theorem tw {K:Nat}{n:aa}{w:au}(h:UpN n)(hK:1048577<K):UpN (dj K n w).1/\(dj K n w).1.1=n.1/\(dj K n w).1.2.2.1=n.2.2.1:=by
 unfold dj;split
 ·rename_i hc;obtain⟨hW,hT⟩:=hc;have hWt:=hW.2.2.2.2.2.2.2.1;split
  ·rename_i hk;have hh:=hW.2.2.2.2.2.2.2.2;rw[if_pos hk]at hh;rw[hT.2.1];exact ur h hT.2.1 hWt hh
  ·rename_i hk;obtain⟨hs,hb⟩:=lj hW hT hk;have hl:=lh h hT.2.1 hWt hs hb;have ha:=vM (w:=w) hl.1 hW.2.2.2.2.2.2.1 hK;exact⟨ha.1,ha.2.1.trans hl.2.1,ha.2.2.trans (hl.2.2.trans hT.2.1.symm)⟩
 ·exact⟨h,rfl,rfl⟩
theorem oL {K:Nat}{n:aa}{w:au}(h:UpN n)(hK:1048577<K):(dj K n w).2.length<=1/\∀ x∈(dj K n w).2,InP x.2.2.2.1 0 7/\(au.table x).length<=1048576:=by
 unfold dj;split
 ·rename_i hc;obtain⟨hW,hT⟩:=hc;have hWt:=hW.2.2.2.2.2.2.2.1;split
  ·rename_i hk;have hh:=hW.2.2.2.2.2.2.2.2;rw[if_pos hk]at hh;obtain⟨a1,a2,a3⟩:=lV (n:=n) h.x.others hWt hh;unfold fX;cases mE (au.table w) (aq n.1) with
   |true=>exact⟨by simp,by simp⟩
   |false =>
    simp only[cond_false];cases w.1==2&&decide (au.table w≠fh n w) with
    |false=>exact⟨by simp,by simp⟩
    |true=>exact⟨by simp,λx hx=>by rw[AS.1 hx];exact⟨hW.2.2.1,cI a1⟩⟩
  ·rename_i hk;obtain⟨hs,hb⟩:=lj hW hT hk;have hl:=lh h hT.2.1 hWt hs hb;have ht:=cI (mD hl.1.x.say w.2.2.2.2.2.1);have htt:=cI hl.1.x.table;have w3:=hW.2.2.1;have w6:=hW.2.2.2.2.2.1;generalize iq n (au.table w) w.2.2.1=m at *;unfold fg;cases w.2.1==1 <;> cases w.2.1==3 <;> cases w.2.1==4 <;> cases w.2.1==2 <;> cases aq w.2.2.2.2.2.1 != aq m.1 <;> cases w.2.2.2.2.2.1==m.1 <;> cases w.2.2.2.2.2.1==w.2.2.1 <;>
    first|exact⟨AZ _,λx hx=>by rw[AS.1 hx];exact⟨w6,ht⟩⟩|exact⟨AZ _,λx hx=>by rw[AS.1 hx];exact⟨w3,htt⟩⟩|exact⟨Ah _,λx hx=>nomatch hx⟩
 ·exact⟨by simp,by simp⟩
theorem sP {n:aa}(h:∀ k,k<8->¬ gr n k):hM n=none:=by
 unfold hM;rw[BI];intro x hx;obtain⟨k,hk,rfl⟩:=AR.1 hx;have:=h k (by simpa using hk);unfold gr at this;simpa using this
theorem sQ {n:aa}{k:Nat}(hk:k<8)(hc:gr n k)(h:∀ j,j<k->¬ gr n j):hM n=some (ct n k):=by
 unfold hM;rw[List.find?_map,List.find?_range_eq_some.2 ⟨?_,by simpa using hk,λj hj=>?_⟩]
 ·rfl
 ·unfold gr at hc;simpa using hc
 ·have:=h j hj;unfold gr at this;simpa[Classical.or_iff_not_imp_left]using this
theorem tx (K:Nat)(n:aa)(h:cL n)(hq:rN n)(hK:1048577<K):Q88.f K (n,())=some (((du n).1,(du n).2,()),()):=by
 obtain⟨⟨q0,q1⟩,⟨t0,t1⟩⟩:=hq;obtain⟨to,es,hto⟩:=x8 K n h t0 t1 hK;simp only[Q88.f];rw[es];simp only[AA,du];by_cases hmax:iP n>=999999
 ·rw[decide_eq_true hmax,show decide (n.2.2.2.2.2.2.1>=999999)=true from decide_eq_true hmax];cases decide (to<0) <;> rfl
 ·rw[decide_eq_false hmax,show decide (n.2.2.2.2.2.2.1>=999999)=false from decide_eq_false hmax];simp only[cond_false];rcases hto with ⟨rfl,hno⟩|⟨k,hk,hkc,hkf,rfl⟩
  ·rw[sP hno];rfl
  ·rw[sQ hk hkc hkf];have hk0:0<=ct n k/\ct n k<8:=⟨BV _ (by omega),BJ _ (by omega)⟩;rw[decide_eq_false (by omega:¬ ct n k<0)];simp only[cond_false];rw[tq K n _ h hK];simp only[AA];have hwr:wr .i64 (iP n+1)=iP n+1:=aL (by omega) (by omega);rw[show wr .i64 ((jz n).2.2.2.2.2.2.1+1)=n.2.2.2.2.2.2.1+1 from hwr,aL (n:=ct n k+1) (by omega) (by omega)];simp only[Q44.f];rw[szb _ _ _ (by omega) (by have:=cI (mD h (ct n k));simp;omega)];rfl
def gu (w:au):Prop:=InP w.2.2.2.1 0 7/\(au.table w).length<=1048576
theorem rV {n:aa}(hT:aA (aa.table n)):(c5 n).2.length<=2/\∀ w∈(c5 n).2,gu w:=by
 have nope:([]:List au).length<=2/\∀ w∈([]:List au),gu w:=⟨by simp,by simp⟩;unfold c5;cases (aa.probe n).1==-1 with
 |true=>exact nope
 |false =>
  cases !dY (aW (aa.table n) (aa.probe n).1) with
  |true=>exact nope
  |false =>
   cases decide (n.2.2.2.2.2.1-(aa.probe n).2.1>=4) with
   |true=>exact nope
   |false =>
    cases decide (n.2.2.2.2.2.1-(aa.probe n).2.1>=2) with
    |false=>exact nope
    |true =>
     cases !(aa.probe n).2.2.2 with
     |false=>exact nope
     |true =>
      simp only[cond_true,cond_false];refine⟨by rw[AX];exact A8 _ _,λw hw=>?_⟩;obtain⟨to,hto,rfl⟩:=AR.1 hw;obtain⟨f,hf,rfl⟩:=AR.1 (BW hto);exact⟨(hT.1 f (AF.1 hf).1).1,Ah _⟩
theorem xE {n:aa}(h:cL n):(du n).2.length<=1/\∀ w∈(du n).2,gu w:=by
 have nope:([]:List au).length<=1/\∀ w∈([]:List au),gu w:=⟨by simp,by simp⟩;unfold du;cases decide (iP n>=999999) with
 |true=>exact nope
 |false =>
  simp only[cond_false];cases hx:hM n with
  |none=>exact nope
  |some to =>
   refine⟨by simp,λw hw=>?_⟩;rw[AS.1 hw];obtain⟨g1,g2,g3⟩:=ey h.table (gm (pV hx).2);exact⟨g2 ▸ g1.1,cI (mD h to)⟩
theorem zk {n:aa}(hO:cP n.1 (aa.others n)){s d:Int}(hs:InP s 0 1):InP (lb n s d) 0 7:=by
 unfold lb;cases hc:decide (e9 (eF (aa.others n) s)≠[])&&bh .i64 d 4==0 with
 |true =>
  rw[Ai,decide_eq_true_eq]at hc;have:=(gE (d:=Aa d (2 ^ 3)) hc.1).2.2;unfold e9 at this;obtain⟨f,hf,e⟩:=AR.1 (BW this);simp only[cond_true];show InP (fW (e9 (eF (aa.others n) s)) (Aa d (2 ^ 3))) 0 7;unfold e9;rw[<- e];exact ((rS hO s).1 f (AF.1 hf).1).1
 |false =>
  obtain⟨b0,b1⟩:=kF (a:=Aa d (2 ^ 3)) (m:=3) (by omega);have b0:0<=bh .i64 (Aa d (2 ^ 3)) 3:=b0;have b1:bh .i64 (Aa d (2 ^ 3)) 3<=3:=b1;obtain⟨s0,s1⟩:=hs;simp only[cond_false];exact⟨by omega,by omega⟩
theorem tz {n:aa}(hT:aA (aa.table n))(hO:cP n.1 (aa.others n))(draw:Int):(ji n draw).length<=2/\∀ w∈ji n draw,gu w:=by
 have nope:([]:List au).length<=2/\∀ w∈([]:List au),gu w:=⟨by simp,by simp⟩;unfold ji;cases bh .i64 draw 3==1 with
 |true =>
  simp only[cond_true,lf];cases kG n with
  |false=>exact nope
  |true =>
   refine⟨?_,λw hw=>?_⟩
   ·show ((([0,1]:List Int).filter (λs=>s != aq n.1)).map _).length<=2;rw[AX];exact Ay _ _
   ·obtain⟨s,hs,rfl⟩:=AR.1 hw;refine⟨zk hO ?_,cI hT⟩;have:=(AF.1 hs).1;simp at this;rcases this with rfl|rfl <;> exact⟨by decide,by decide⟩
 |false =>
  simp only[cond_false];by_cases hth:eQ n=[]
  ·rw[decide_eq_true hth,Bd];exact nope
  ·rw[decide_eq_false hth,Bq];obtain⟨f,hf,e⟩:=AR.1 (gE (d:=Aa draw (2 ^ 2)) hth).2.2;have hto:InP (fW (eQ n) (Aa draw (2 ^ 2))) 0 7:=by
    rw[<- e];exact (hT.1 f (AF.1 hf).1).1
   cases bh .i64 draw 3==3 with
   |true=>exact nope
   |false =>
    simp only[cond_false];cases bh .i64 draw 3==0 with
    |true=>exact⟨by simp,λw hw=>by rw[AS.1 hw];exact⟨hto,cI hT⟩⟩
    |false =>
     simp only[cond_false,rM]
     match ho:aa.others n with
     |[]=>exact nope
     |x::_=>exact⟨by simp,λw hw=>by rw[AS.1 hw];exact⟨hto,cI (hO.1 x (by rw[ho];simp)).2.2.2.1⟩⟩
theorem UpX.far {n:aa}(h:UpX n):qN n:=⟨by rcases rK h.me h.others with e|⟨x,e⟩ <;> rw[e] <;> simp,λx hx=>⟨(h.others.1 x hx).2.2.2.1,cI (h.others.1 x hx).2.2.2.1⟩⟩
theorem pZ {n:aa}(h:UpX n)(hn:ca n<=1000000):((aa.probe n).1=-1\/0<=(aa.probe n).1)/\0<=(aa.probe n).2.1/\(aa.probe n).2.1<=1000000:=by
 have hPr:=h.probe;have hnn:ca n=n.2.2.2.2.2.1:=rfl;unfold cO at hPr;split at hPr
 ·rename_i h1;rw[hPr];exact⟨.inl rfl,by show (0:Int)<=0;omega,by show (0:Int)<=1000000;omega⟩
 ·obtain⟨_,⟨f,hf,e⟩,⟨s0,s1⟩,_⟩:=hPr;have:=(h.table.1 f hf).1.1;exact⟨.inr (e ▸ this),s0,by omega⟩
theorem zl {n:aa}(h:UpN n)(hm:ca n<999999)(draw:Int):(oA n draw).length<=5/\∀ w∈oA n draw,gu w:=by
 have hT:=(lS h.x.later (show cS (dG n) from h.self)).1.table;obtain⟨f1,f2⟩:=rV hT;obtain⟨h1,_,_⟩:=oB h hm;have h2:=(pj h hm).1;obtain⟨d1,d2⟩:=tz h2.x.table h2.x.others draw;have ha:(eS (eT n).1).2.length<=1/\∀ w∈(eS (eT n).1).2,gu w:=by
  unfold eS;cases (aa.probe (eT n).1).1==-1 with
  |true=>exact xE h1.x.say
  |false=>exact⟨by simp,by simp⟩
 unfold oA;have f1:(eT n).2.length<=2:=f1;refine⟨by rw[AN,AN];omega,λw hw=>?_⟩;rcases Af.1 hw with hw|hw
 ·rcases Af.1 hw with hw|hw
  ·exact f2 w hw
  ·exact ha.2 w hw
 ·exact d2 w hw
theorem zm (K:Nat)(n:aa)(draw:Int)(h:UpN n)(hg:n.2.2.1=false)(hm:ca n<999999)(hK:1048577<K):Q95.f K (n,draw,())=some ((jV n,oA n draw,()),()):=by
 have hn0:=h.x.now0;simp only[Q95.f];refine (congrArg (λb=>bif !b then _ else _) h.up).trans ?_;refine (congrArg (λb=>bif b then _ else _) hg).trans ?_;refine (congrArg (λb=>bif b then _ else _) (decide_eq_false (show ¬ n.2.2.2.2.2.1>=999999 by have:ca n=n.2.2.2.2.2.1:=rfl;omega))).trans ?_;simp only[cond_false];rw[show wr .i64 (n.2.2.2.2.2.1+1)=n.2.2.2.2.2.1+1 from aL (by have:ca n=n.2.2.2.2.2.1:=rfl;omega) (by have:ca n=n.2.2.2.2.2.1:=rfl;omega)];have hl:UpX (dG n):=h.x.later;have hdd:∀ d∈aa.doubts (dG n),0<=d.2.2.1/\d.2.2.1<=(dG n).2.2.2.2.2.1/\d.2.2.2.length<=1048576:=λd hd=>by
  obtain⟨_,⟨s0,s1⟩,_,h4⟩:=hl.doubts.1 d hd;exact⟨s0,s1,Al (gZ (k:=λx=>x) h4.2 λx hx=>(h4.1 x hx).1) (by decide)⟩
 have hkey:∀ d∈aa.doubts (dG n),∃ f∈aa.table (dG n),f.1=d.1:=λd hd=>by
  obtain⟨⟨f,hf,e,_⟩,_⟩:=hl.doubts.1 d hd;exact⟨f,hf,e⟩
 have hnow:(dG n).2.2.2.2.2.1<=1000000:=by show ca n+1<=1000000;omega
 refine (congrArg (λo=>AG o _) (yW K (dG n) ⟨hl.say,hkey,rfl⟩ hdd hnow hK)).trans ?_;simp only[AA];obtain⟨b1,b2,t,c,ds,eb⟩:=lS hl (show cS (dG n) from h.self);have hseq:rN (eT n).1:=(oB h hm).1.seq;have hmnow:ca (jv (dG n))=ca n+1:=by rw[eb];rfl
 have hp:=pZ b1 (by omega);obtain⟨fw1,_⟩:=rV b1.table;have h2:=(pj h hm).1;have hmore:=zd K (jV n) draw h2.x.far h2.x.table (cI h2.x.table) hK;have hmid:=(oB h hm).1;obtain⟨aw1,_⟩:=xE hmid.x.say;obtain⟨dw1,_⟩:=tz h2.x.table h2.x.others draw;unfold jV eS eT at hmore h2 dw1;unfold eT at hseq hmid aw1;unfold oA jV eS eT;generalize jv (dG n)=m at *;rcases hp.1 with hp1|hp1
 ·have e0:c5 m=(m,[]):=by unfold c5;rw[show ((aa.probe m).1==-1)=true by simpa using hp1];rfl
  rw[e0]at hmore hseq hmid aw1 dw1 ⊢;refine (congrArg (λb=>bif b then _ else _) (decide_eq_false (show ¬ m.2.2.2.2.2.2.2.2.2.2.1.1>=0 by have:(aa.probe m).1=m.2.2.2.2.2.2.2.2.2.2.1.1:=rfl;omega))).trans ?_;refine (congrArg (λb=>bif b then _ else _) (decide_eq_true (show m.2.2.2.2.2.2.2.2.2.2.1.1<0 by have:(aa.probe m).1=m.2.2.2.2.2.2.2.2.2.2.1.1:=rfl;omega))).trans ?_;refine (congrArg (λo=>AG o _) (tx K m hmid.x.say hseq hK)).trans ?_;simp only[AA];rw[show ((aa.probe m).1==-1)=true by simpa using hp1]at hmore dw1 ⊢;simp only[cond_true]at hmore dw1 aw1 ⊢;rw[szw _ _ _ (by omega) (by simp;omega)];simp only[cond_true];refine (congrArg (λo=>AG o _) hmore).trans ?_;simp only[AA];rw[szw _ _ _ (by omega) (by simp;omega)];rfl
 ·refine (congrArg (λb=>bif b then _ else _) (decide_eq_true (show m.2.2.2.2.2.2.2.2.2.2.1.1>=0 from hp1))).trans ?_;refine (congrArg (λo=>AG o _) (yX K m b1.say (by omega) hp.2.1 hp.2.2 b1.now0 (by have:ca m=m.2.2.2.2.2.1:=rfl;omega) hK)).trans ?_;simp only[AA];generalize c5 m=fo at *;obtain⟨m2,ws⟩:=fo;simp only at hmore hseq hmid aw1 dw1 fw1 ⊢;have hp2:=(pZ hmid.x (by have:=hmid.now1;omega)).1;rcases hp2 with hp2|hp2
  ·refine (congrArg (λb=>bif b then _ else _) (decide_eq_true (show m2.2.2.2.2.2.2.2.2.2.2.1.1<0 by have:(aa.probe m2).1=m2.2.2.2.2.2.2.2.2.2.2.1.1:=rfl;omega))).trans ?_;refine (congrArg (λo=>AG o _) (tx K m2 hmid.x.say hseq hK)).trans ?_;simp only[AA];rw[show ((aa.probe m2).1==-1)=true by simpa using hp2]at hmore dw1 ⊢;simp only[cond_true]at hmore dw1 ⊢;rw[szw _ _ _ (by omega) (by omega)];simp only[cond_true];refine (congrArg (λo=>AG o _) hmore).trans ?_;simp only[AA];rw[szw _ _ _ (by omega) (by rw[AN];omega)];rfl
  ·refine (congrArg (λb=>bif b then _ else _) (decide_eq_false (show ¬ m2.2.2.2.2.2.2.2.2.2.2.1.1<0 by have:(aa.probe m2).1=m2.2.2.2.2.2.2.2.2.2.2.1.1:=rfl;omega))).trans ?_;rw[show ((aa.probe m2).1==-1)=false by simp;omega]at hmore dw1 ⊢;simp only[cond_false]at hmore dw1 ⊢;refine (congrArg (λo=>AG o _) hmore).trans ?_;simp only[AA,AP];rw[szw _ _ _ (by omega) (by omega)];rfl
theorem rW (K:Nat)(l:List ag)(f:ag)(hl:l.length<=1048576)(hK:1048577<K):Ret (Q28.f K (l,f,())) (f∈l):=by
 have:=cK (step:=λrec a=>Q28.l0.step K (l,f,()) rec a) l.length (λi=>(i:Int)) (λj=>∃ h:j<l.length,l[j]=f) (rb false) (λ_=>rb true) ?_ ?_ l.length K 0 (by omega) (by omega)
 ·rcases this with ⟨h1,h2⟩|⟨j,_,_,⟨h3,h4⟩,_,h2⟩
  ·refine⟨false,h2,?_⟩;refine⟨λh=>absurd h (by decide),λhf=>?_⟩;obtain⟨i,hi,e⟩:=AK hf;exact absurd ⟨hi,e⟩ (h1 i (Ah _) hi)
  ·exact⟨true,h2,λ_=>h4 ▸ AD h3,λ_=>rfl⟩
 ·intro rec i hi;simp only[Q28.l0.step];rw[bM (by omega:(i:Int)<(AB l:Int)),ai hi,av i (by omega)];simp only[cond_true,AA];rw[lL];by_cases h:l[i]=f
  ·rw[decide_eq_true h];exact .inr ⟨⟨hi,h⟩,rfl⟩
  ·rw[decide_eq_false h];exact .inl ⟨λ⟨_,h2⟩=>h h2,rfl⟩
 ·intro rec;simp only[Q28.l0.step,bq];rfl
end Go.Proofs.YtmcbmojdeikcdaaGreatEv
