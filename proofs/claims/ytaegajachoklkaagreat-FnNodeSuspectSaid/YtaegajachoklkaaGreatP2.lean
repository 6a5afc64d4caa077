/- The marks that a law writes into what was answered, and the look whether they still stand. -/
import Derived.Test.YtaegajachoklkaaGreatP1
import Derived.Test.YtaegajachoklkaaGreatE0
import Derived.Laws.Strings
set_option linter.unusedVariables false
set_option linter.unusedSimpArgs false
open Bool renaming not_true->BM,not_false->B8,and_eq_true->CK,eq_iff_iff->CO,true_and->CS,and_self->CX,false_and->Cb,false_or->Cq,and_true->Cy,true_or->C4,and_false->DB,or_true->DR
open ByteArray renaming size_extract->Cm
open Classical renaming not_not->Cj
open Eq renaming trans->Ct
open Go.ByteArray renaming toList_eq->DD
open Go.IntKind renaming wrap_i64->DM
open Int renaming toNat->BG,toNat_natCast->BH,eq_ofNat_of_zero_le->BI,fdiv->B4,tdiv_eq_ediv_of_nonneg->CC,tmod->CG,le_refl->CJ,toNat_zero->Ca,tdiv->Cl,le_trans->Cs,tmod_lt_of_pos->Cu,tmod_eq_emod_of_nonneg->Cv,le_of_lt->C3,tmod_nonneg->C8,tdiv_le_self->DN,tdiv_nonneg->DP
open List renaming length->BE,getElem_mem->BF,length_cons->BJ,mem_filter->BK,getElem_of_mem->BL,length_nil->BN,append_nil->BO,getElem?_eq_getElem->BP,nil_append->BQ,length_map->BR,length_append->BS,length_take->BV,mem_map->BX,drop_zero->BY,pairwise_cons->BZ,reverse_reverse->B3,drop_eq_getElem_cons->B5,pairwise_map->B6,length_filter_le->B7,filter_cons->B9,length_drop->CA,take_of_length_le->CB,mem_singleton->CD,append_assoc->CE,filter_eq_self->CF,mem_cons->CH,pairwise_iff_getElem->CM,mem_append->CN,pairwise_append->CP,take_succ_eq_append_getElem->CQ,reverse_cons->CR,length_take_le->CT,length_pos_iff->CU,filter_append->CV,filter_eq_nil_iff->CW,getElem?_eq_none->CY,length_singleton->CZ,replicate->Cd,take_length->Ce,mem_of_find?_eq_some->Cf,length_reverse->Cg,getElem_take->Ch,length_replicate->Cn,not_mem_nil->Co,ext_getElem->Cp,map_append->Cr,filter_congr->Cw,map_cons->Cx,drop_length->Cz,pairwise_singleton->C0,find?_cons->C5,find?_some->C6,length_set->C7,take_append_drop->C9,set_append_right->DA,mem_of_mem_take->DC,find?_eq_none->DE,mem_cons_self->DF,getElem_drop->DG,getElem_map->DH,perm_middle->DI,cons_append->DJ,getElem_set->DK,mem_range->DQ,map_nil->DS
open List.Pairwise renaming filter->Cc
open Nat renaming le_refl->BT,zero_le->BU,le_trans->BW,lt_or_eq_of_le->CL,mul_le_mul->Ci,lt_trichotomy->Ck
open Option renaming bind_some->BD,bind->CI,getD_some->DL,map_some->DO
namespace Go.Proofs.YtaegajachoklkaaGreatEv
open Go
theorem la {α β R:Type}(t:List α)(p:α->Bool)(g:α->β)(n:Nat)(y:List β->Option R){step:(List β×Int->Option R)->List β×Int->Option R}
  (h:∀ (rec:List β×Int->Option R) (r:List β) (i:Nat) (J:i<t.length),r.length<=i->r.length<n->step rec (r,(i:Int))=rec (bif p t[i] then r++[g t[i]] else r,((i+1:Nat):Int)))
  (Y:∀ (rec:List β×Int->Option R) (r:List β) (i:Nat),i<t.length->r.length<=i->n<=r.length->step rec (r,(i:Int))=y r)
  (z:∀ (rec:List β×Int->Option R) (r:List β),r.length<=t.length->step rec (r,(t.length:Int))=y r) :
  ∀ (d i k:Nat) (r:List β),i+d=t.length->d<k->r.length<=i->r.length<=n->ae step k (r,(i:Int))=y (r++(((t.drop i).filter p).map g).take (n-r.length)):=by
 intro d;induction d with
 |zero =>
  intro i k r J O H _;obtain⟨k,rfl⟩:∃ I,k=I+1:=⟨k-1,by omega⟩;have:i=t.length:=by omega
  subst this;show step (ae step k) _=_;rw[z _ _ H];simp
 |succ d M =>
  intro i k r J O H X;obtain⟨k,rfl⟩:∃ I,k=I+1:=⟨k-1,by omega⟩;have u:i<t.length:=by omega
  show step (ae step k) _=_;by_cases hc:r.length<n
  ·rw[h _ _ _ u H hc,B5 u,B9];cases hp:p t[i] with
   |true =>
    simp only[cond_true,if_true,Cx];rw[M (i+1) k _ (by omega) (by omega) (by simp;omega) (by simp;omega)];congr 1;obtain⟨m,Z⟩:∃ m,n-r.length=m+1:=⟨n-r.length-1,by omega⟩;rw[Z,List.take_succ_cons,CE];simp only[BS,BJ,BN];rw[show n-(r.length+(0+1))=m by omega];rfl
   |false =>
    simp only[cond_false];rw[M (i+1) k _ (by omega) (by omega) (by omega) (by omega)];rfl
  ·rw[Y _ _ _ u H (by omega)];rw[show n-r.length=0 by omega];simp
theorem pC {α β R:Type}(t:List α)(p:α->Bool)(g:α->β)(u:List β->Option R){step:(List β×Int->Option R)->List β×Int->Option R}
  (h:∀ (rec:List β×Int->Option R) (r:List β) (i:Nat) (z:i<t.length),r.length<=i->step rec (r,(i:Int))=rec (bif p t[i] then r++[g t[i]] else r,((i+1:Nat):Int)))
  (y:∀ (rec:List β×Int->Option R) (r:List β),r.length<=t.length->step rec (r,(t.length:Int))=u r) {k:Nat} (I:t.length<k) :
  ae step k ([],0)=u ((t.filter p).map g):=by
 have:=la t p g (t.length+1) u (λrec r i z H _=>h rec r i z H) (λrec r i z H J=>by omega) y t.length 0 k [] (by omega) I (BT _) (by simp);refine this.trans ?_;congr 1;simp only[BQ,BN,BY];exact CB (by have:=B7 p t;simp;omega)
theorem dY {e:Ty}{b:Nat}{xs:List e.den}(h:xs.length*b<=140737488355328):e8 e b xs=some ((xs,()),()):=by
 unfold e8;rw[decide_eq_true (by simpa[ak]using h)];rfl
theorem xf {α β:Type}{xs r:List α}{b:Nat}{x y:β}(h:(xs.length+r.length)*b<=140737488355328):(bif decide ((BE xs+BE r)*b<=ak) then x else y)=x:=by
 rw[decide_eq_true (by simpa[ak]using h)];rfl
theorem qv (K:Nat)(xs:List Int)(n:Int)(H:xs.length<=1048576):Q76.f K (xs,n,())=some ((xs.take n.toNat,()),()):=by
 simp only[Q76.f,Q75.f,BD,Q8.f];obtain⟨c,z,y,u,r⟩:∃ c:Int,(bif decide (0<(bif decide ((xs.length:Int)<n) then (xs.length:Int) else n)) then bif decide ((xs.length:Int)<n) then (xs.length:Int) else n else 0)=c/\0<=c/\c<=xs.length/\xs.take c.toNat=xs.take n.toNat:=by
  by_cases h:(xs.length:Int)<n
  ·rw[decide_eq_true h];simp only[cond_true];by_cases r:0<(xs.length:Int)
   ·rw[decide_eq_true r];refine⟨_,rfl,by simp,by simp,?_⟩;simp only[cond_true];rw[CB (by omega),CB (by omega)]
   ·rw[decide_eq_false r];refine⟨_,rfl,by simp,by simp,?_⟩;have:xs=[]:=List.eq_nil_of_length_eq_zero (by omega);subst this;simp
  ·rw[decide_eq_false h];simp only[cond_false];by_cases r:0<n
   ·rw[decide_eq_true r];exact⟨_,rfl,by simp;omega,by simp;omega,rfl⟩
   ·rw[decide_eq_false r];refine⟨_,rfl,by simp,by simp,?_⟩;simp only[cond_false];rw[show n.toNat=0 by omega];rfl
 rw[z,decide_eq_true y,decide_eq_true u];simp only[Ca,BY,decide_true,CX,cond_true];rw[dY (by
  have:=CT c.toNat xs;have I:(List.take c.toNat xs).length<=1048576:=by omega
  omega)]
 simp only[BD];rw[r];rfl
theorem qw (K:Nat)(t:List af)(u:af×Unit->Option Bool)(p:af->Bool)(I:t.length<=1048576)(J:1048577<K)(hφ:∀ f∈t,u (f,())=some (p f)) :
  Q77.f K (t,u,())=some (((t.filter p).map (·.1),()),()):=by
 refine pC (step:=λrec a=>Q77.s0 K (t,u,()) rec a) t p (λf=>f.1) (λz=>some ((z,()),())) ?_ ?_ (by omega)
 ·intro rec r i y H;simp only[Q77.s0];rw[bq (by omega:(i:Int)<(BE t:Int)),ag y,ar i (by omega)];simp only[cond_true,BD];rw[hφ _ (BF y)];simp only[BD];cases p t[i] with
  |true=>simp only[cond_true];rw[xf (by simp;omega)]
  |false=>rfl
 ·intro rec r _;simp only[Q77.s0,aQ];rfl
def iF (f:af):Bool:=f.2.2.2&&f.2.2.1==1
def dI (t:List af):List Int:=((t.filter iF).map (·.1)).take 2
theorem uS (K:Nat)(t:List af)(J:t.length<=1048576)(I:1048577<K):Q203.f K (t,2,())=some ((dI t,()),()):=by
 have:=la (step:=λrec a=>Q203.s0 K (t,2,()) rec a) t iF (λf=>f.1) 2 (λy=>some ((y,()),())) ?_ ?_ ?_ t.length 0 K [] (by omega) (by omega) (BT _) (by simp)
 ·exact this
 ·intro rec r i u z H;simp only[Q203.s0];rw[bq (by omega:(i:Int)<(BE t:Int)),ag u,ar i (by omega),decide_eq_true (by omega:(BE r:Int)<2)];simp only[cond_true,BD,iF];cases t[i].2.2.2 with
  |true =>
   simp only[cond_true,CS];cases t[i].2.2.1==1 with
   |true=>simp only[cond_true];rw[xf (by simp;omega)]
   |false=>rfl
  |false=>rfl
 ·intro rec r i u z H;simp only[Q203.s0];rw[bq (by omega:(i:Int)<(BE t:Int)),decide_eq_false (by omega:¬ (BE r:Int)<2)];rfl
 ·intro rec r _;simp only[Q203.s0,aQ];rfl
theorem uT (K:Nat)(t:List af)(u:t.length<=1048576)(r:1048577<K)(H:ax t):Q103.f K (t,2,())=some ((dI t,()),()):=by
 obtain⟨b,z,y⟩:=jF K t u r;simp only[Q103.f];rw[z];simp only[BD,y.2 H,BM,cond_false];rw[qw K t _ iF u r (λf _=>by
  simp only[Q102.f,iF];cases f.2.2.2 <;> rfl)]
 simp only[BD];rw[qv K _ 2 (by have:=B7 iF t;simp;omega)];rfl
theorem qY (t:List af):(dI t).length<=2:=by
 unfold dI;exact CT _ _
def dj (l:List cV)(s:Int):List af:=((l.find? λx=>x.1==s).map (·.2)).getD []
theorem pD {R:Type}(l:List cV)(s:Int)(r:List af->Option R){step:(Int->Option R)->Int->Option R}
  (h:∀ (rec:Int->Option R) (i:Nat) (H:i<l.length),step rec (i:Int)=bif l[i].1==s then r l[i].2 else rec ((i+1:Nat):Int))
  (y:∀ rec:Int->Option R,step rec (l.length:Int)=r []) :
  ∀ (d i k:Nat),i+d=l.length->d<k->ae step k (i:Int)=r (dj (l.drop i) s):=by
 intro d;induction d with
 |zero =>
  intro i k H I;obtain⟨k,rfl⟩:∃ z,k=z+1:=⟨k-1,by omega⟩;have:i=l.length:=by omega
  subst this;show step (ae step k) _=_;rw[y];simp[dj]
 |succ d J =>
  intro i k H I;obtain⟨k,rfl⟩:∃ z,k=z+1:=⟨k-1,by omega⟩;have u:i<l.length:=by omega
  show step (ae step k) _=_;rw[h _ _ u,B5 u];simp only[dj,C5];cases l[i].1==s with
  |true=>rfl
  |false=>exact J (i+1) k (by omega) (by omega)
theorem z7 (K:Nat)(n:aa)(s:Int)(r:NB n)(y:1048577<K):Q104.f K (n,s,())=some ((dj (aa.others n) s,()),()):=by
 have z:=r.others;refine pD (step:=λrec a=>Q104.s0 K (n,s,()) rec a) (aa.others n) s (λt=>some ((t,()),())) ?_ ?_ (aa.others n).length 0 K (by omega) (by omega)
 ·intro rec i u;simp only[Q104.s0];rw[bq (by omega:(i:Int)<(BE (aa.others n):Int)),ag u,ar i (by omega)];rfl
 ·intro rec;simp only[Q104.s0,aQ];rfl
theorem mS {l:List cV}{s:Int}:dj l s=[]\/∃ x∈l,x.1=s/\dj l s=x.2:=by
 unfold dj;cases h:l.find? λx=>x.1==s with
 |none=>exact .inl rfl
 |some x=>exact .inr ⟨x,Cf h,by simpa using C6 h,rfl⟩
def bD {α:Type}(k:α->Int)(x:α)(xs:List α):List α:=xs.filter (λy=>decide (k y<k x))++x::xs.filter (λy=>decide (k x<k y))
theorem qZ {α:Type}{k:α->Int}{xs:List α}{v:Int}{m:Nat}(J:m<=xs.length)(H:∀ i,(z:i<xs.length)->i<m->k xs[i]<v)(z:∀ i,(h:i<xs.length)->m<=i->v<=k xs[i]):xs.filter (λy=>decide (k y<v))=xs.take m:=by
 conv=>lhs;rw[<- C9 m xs]
 rw[CV];have r:(xs.take m).filter (λy=>decide (k y<v))=xs.take m:=by
  rw[CF];intro y u;obtain⟨i,r,rfl⟩:=BL u;rw[BV]at r;rw[Ch];exact decide_eq_true (H i (by omega) (by omega))
 have I:(xs.drop m).filter (λy=>decide (k y<v))=[]:=by
  rw[CW];intro y u;obtain⟨i,r,rfl⟩:=BL u;rw[CA]at r;rw[DG];have:=z (m+i) (by omega) (by omega);simp only[decide_eq_true_eq];omega
 rw[r,I,BO]
theorem q8 {α:Type}{k:α->Int}{xs:List α}{v:Int}{m:Nat}(J:m<=xs.length)(H:∀ i,(z:i<xs.length)->i<m->k xs[i]<=v)(z:∀ i,(h:i<xs.length)->m<=i->v<k xs[i]):xs.filter (λy=>decide (v<k y))=xs.drop m:=by
 conv=>lhs;rw[<- C9 m xs]
 rw[CV];have r:(xs.take m).filter (λy=>decide (v<k y))=[]:=by
  rw[CW];intro y u;obtain⟨i,r,rfl⟩:=BL u;rw[BV]at r;rw[Ch];have:=H i (by omega) (by omega);simp only[decide_eq_true_eq];omega
 have I:(xs.drop m).filter (λy=>decide (v<k y))=xs.drop m:=by
  rw[CF];intro y u;obtain⟨i,r,rfl⟩:=BL u;rw[CA]at r;rw[DG];exact decide_eq_true (z (m+i) (by omega) (by omega))
 rw[r,I,BQ]
theorem ku {α:Type}{k:α->Int}{xs:List α}{x:α}{m:Nat}(h:Asc k xs)(H:m<xs.length)(e:k xs[m]=k x):xs.set m x=bD k x xs:=by
 have I:=dn.1 h;have M:∀ i,(r:i<xs.length)->i<m->k xs[i]<k x:=λi r y=>by rw[<- e];exact I i m r H y
 have J:∀ i,(r:i<xs.length)->m<i->k x<k xs[i]:=λi r y=>by rw[<- e];exact I m i H r y
 rw[bD,qZ (m:=m) (by omega) M (λi r u=>by
   rcases CL u with z|z
   ·exact C3 (J i r z)
   ·subst z;omega),
  q8 (m:=m+1) (by omega) (λi r u=>by
   rcases CL (Nat.le_of_lt_succ u) with z|z
   ·exact C3 (M i r z)
   ·subst z;omega) (λi r u=>J i r u),
  List.set_eq_take_append_cons_drop,if_pos H]
theorem jh {α:Type}{k:α->Int}{xs:List α}{x:α}{m:Nat}(H:m<=xs.length)(z:∀ i,(y:i<xs.length)->i<m->k xs[i]<k x)(y:∀ i,(h:i<xs.length)->m<=i->k x<k xs[i]):xs.take m++[x]++xs.drop m=bD k x xs:=by
 rw[bD,qZ H z (λi u r=>C3 (y i u r)),q8 H (λi u r=>C3 (z i u r)) y,CE];rfl
theorem aX {α:Type}{k:α->Int}{xs:List α}{x y:α}:y∈bD k x xs<->y=x\/(y∈xs/\k y≠k x):=by
 simp only[bD,CN,CH,BK,decide_eq_true_eq];constructor
 ·rintro (⟨r,u⟩|rfl|⟨r,u⟩)
  ·exact .inr ⟨r,by omega⟩
  ·exact .inl rfl
  ·exact .inr ⟨r,by omega⟩
 ·rintro (rfl|⟨r,u⟩)
  ·exact .inr (.inl rfl)
  ·rcases Int.lt_or_gt_of_ne u with z|z
   ·exact .inl ⟨r,z⟩
   ·exact .inr (.inr ⟨r,z⟩)
theorem fh {α:Type}{k:α->Int}{xs:List α}{x:α}(h:Asc k xs):Asc k (bD k x xs):=by
 unfold Asc bD;rw[CP,BZ];refine⟨h.filter _,⟨λy r=>?_,h.filter _⟩,λy r z u=>?_⟩
 ·simpa using (BK.1 r).2
 ·have H:k y<k x:=by simpa using (BK.1 r).2
  rcases CH.1 u with rfl|u
  ·exact H
  ·have I:k x<k z:=by simpa using (BK.1 u).2
   omega
theorem yJ {α:Type}{k:α->Int}{xs:List α}{x:α}:(bD k x xs).length<=xs.length+1:=by
 have:∀ l:List α,(l.filter (λy=>decide (k y<k x))).length+(l.filter (λy=>decide (k x<k y))).length<=l.length:=by
  intro l;induction l with
  |nil=>simp
  |cons y l u =>
   simp only[B9,BJ];by_cases r:k y<k x
   ·rw[if_pos (decide_eq_true r),if_neg (by simp;omega)];simp only[BJ];omega
   ·rw[if_neg (by simpa using r)];split <;> (try simp only[BJ]) <;> omega
 have:=this xs;simp only[bD,BS,BJ];omega
theorem oY {α:Type}{k:α->Int}{xs:List α}(h:Asc k xs){i:Nat}(u:i<xs.length){v:Int}(e:k xs[i]=v):xs.find? (λy=>k y==v)=some xs[i]:=by
 cases r:xs.find? (λy=>k y==v) with
 |none =>
  have:=DE.1 r xs[i] (BF u);simp[e]at this
 |some y =>
  have H:k y=v:=by simpa using C6 r
  obtain⟨j,z,rfl⟩:=BL (Cf r);have:=oR h z u (by rw[H,e]);subst this;rfl
theorem nQ {α:Type}{k:α->Int}{xs:List α}{v:Int}(h:∀ y∈xs,k y≠v):xs.find? (λy=>k y==v)=none:=by
 rw[DE];intro y r;simpa using h y r
def kc {α:Type}(k:α->Int)(x:α):Bool->List α->List α
 |d,[]=>bif d then [] else [x]
 |d,y::r=>(bif !d&&decide (k x<=k y) then [x] else [])++((bif k y != k x then [y] else [])++kc k x (d||decide (k x<=k y)) r)
theorem pE {α:Type}{k:α->Int}{x:α}:∀ {r:List α},(∀ y∈r,k x<k y)->kc k x true r=r
 |[],_=>rfl
 |y::r,h=>by
  have H:=h y (by simp);simp only[kc,BM,Cb,cond_false,C4,BQ];rw[pE (λz u=>h z (by simp[u])),show (k y != k x)=true by simp;omega];rfl
theorem lf {α:Type}{k:α->Int}{x:α}:∀ {xs:List α},Asc k xs->kc k x false xs=bD k x xs
 |[],_=>rfl
 |y::r,h=>by
  have O:Asc k r:=(BZ.1 h).2;have H:∀ z∈r,k y<k z:=(BZ.1 h).1;simp only[kc,B8,CS,Cq];by_cases I:k x<=k y
  ·rw[decide_eq_true I,pE (λz u=>by have:=H z u;omega)];simp only[cond_true,bD,B9];have R:r.filter (λz=>decide (k z<k x))=[]:=by
    rw[CW];intro z u;have:=H z u;simp;omega
   have M:r.filter (λz=>decide (k x<k z))=r:=by
    rw[CF];intro z u;have:=H z u;simp;omega
   rw[R,M,if_neg (by simp;omega)];by_cases J:k y=k x
   ·rw[if_neg (by simp;omega),show (k y != k x)=false by simpa using J];rfl
   ·rw[if_pos (by simp;omega),show (k y != k x)=true by simpa using J];rfl
  ·rw[decide_eq_false I,lf O,show (k y != k x)=true by simp;omega];simp only[cond_false,cond_true,bD,B9,BQ];rw[if_pos (by simp;omega),if_neg (by simp;omega)];rfl
theorem sL {α A R:Type}(k:α->Int)(x:α)(t:List α)(q:α->Bool)(X:Option R)(H:List α->Option R)(S:List α->Bool->Nat->A){step:(A->Option R)->A->Option R}
  (h:∀ (rec:A->Option R) (r:List α) (d:Bool) (i:Nat) (O:i<t.length),r.length<=i+1->(d=false->r.length<=i)->step rec (S r d i)=bif q t[i] then X else rec (S ((r++(bif !d&&decide (k x<=k t[i]) then [x] else []))++(bif k t[i] != k x then [t[i]] else [])) (d||decide (k x<=k t[i])) (i+1)))
  (z:∀ (rec:A->Option R) (r:List α) (d:Bool),r.length<=t.length+1->(d=false->r.length<=t.length)->step rec (S r d t.length)=H (r++(bif d then [] else [x]))) :
  ∀ (n i K:Nat) (r:List α) (d:Bool),i+n=t.length->n<K->r.length<=i+1->(d=false->r.length<=i)->ae step K (S r d i)=bif (t.drop i).any q then X else H (r++kc k x d (t.drop i)):=by
 intro n;induction n with
 |zero =>
  intro i K r d O Z J u;obtain⟨K,rfl⟩:∃ M,K=M+1:=⟨K-1,by omega⟩;have:i=t.length:=by omega
  subst this;show step (ae step K) _=_;rw[z _ _ _ J u,Cz];rfl
 |succ n ih =>
  intro i K r d O Z J u;obtain⟨K,rfl⟩:∃ M,K=M+1:=⟨K-1,by omega⟩;have y:i<t.length:=by omega
  show step (ae step K) _=_;rw[h _ _ _ _ y J u,B5 y,List.any_cons];cases hq:q t[i] with
  |true=>rfl
  |false =>
   simp only[cond_false,Cq,kc];rw[ih (i+1) K _ _ (by omega) (by omega) ?_ ?_]
   ·simp only[CE]
   ·cases d with
    |true =>
     simp only[BM,Cb,cond_false,BO];cases k t[i] != k x <;> simp <;> omega
    |false =>
     have:=u rfl;cases Y:decide (k x<=k t[i]) <;> cases k t[i] != k x <;> simp <;> omega
   ·intro I;rw[Bool.or_eq_false_iff]at I;obtain⟨rfl,Y⟩:=I;have:=u rfl;rw[Y];cases k t[i] != k x <;> simp <;> omega
theorem jx (K:Nat)(n:aa)(u:NB n)(r:1048577<K):∃ b,Q26.f K (n,())=rb b/\Q64.f K (n,())=rb b/\(b=true<->hX n):=by
 obtain⟨b,I,y⟩:=yH K n u r;obtain⟨H,J,z⟩:=yI K n u r;have:b=H:=by rw[CO,y,z]
 subst this;exact⟨b,I,J,y⟩
theorem hX.up {n:aa}(h:hX n)(r:n.2.1=true):UpP n:=by
 have:=h.2.2.2.2.2
 rwa [if_pos r]at this
abbrev aq:=Int×Int×Int×Int×Int×Int×dw×List af
abbrev aq.table (w:aq):List af:=w.2.2.2.2.2.2.2
abbrev aq.coord (w:aq):dw:=w.2.2.2.2.2.2.1
def pF:List af->Prop
 |[]=>False
 |f::l=>ce (f::l) (ao f.1)
def iS (w:aq):Prop:=InP w.1 1 2/\InP w.2.1 1 6/\InP w.2.2.1 0 7/\InP w.2.2.2.1 0 7/\InP w.2.2.2.2.1 0 999999/\InP w.2.2.2.2.2.1 0 7/\cC (aq.coord w)/\ax (aq.table w) /\
 (if w.2.1=6 then pF (aq.table w) else ce (aq.table w) (ao w.2.2.1))
theorem sM (K:Nat)(w:aq)(r:(aq.table w).length<=1048576)(u:1048577<K):Ret (Q143.f K (w,())) (iS w):=by
 refine Ret.nx (cB K _ _ _) λ_=>Ret.nx (cB K _ _ _) λ_=>Ret.nx (cB K _ _ _) λ_=>Ret.nx (cB K _ _ _) λ_=>Ret.nx (cB K _ _ _) λ_=>Ret.nx (cB K _ _ _) λ_=>Ret.nx (iD K _) λ_=>Ret.nx (gp K _ r u) λ_=>?_
 dsimp only;by_cases h:w.2.1=6
 ·rw[show (w.2.1==6)=true by simpa using h,if_pos h];obtain⟨w1,w2,w3,w4,w5,y,z,t⟩:=w;cases t with
  |nil=>exact Ret.no (λh=>h)
  |cons f l =>
   rw[show decide ((BE (f::l):Int)>0)=true from decide_eq_true (by simp only[BJ];omega)];simp only[cond_true];exact Ret.vl (ag (xs:=f::l) (i:=0) (by simp)) (gq K _ _ r u).id
 ·rw[show (w.2.1==6)=false by simpa using h,if_neg h];exact (gq K _ _ r u).id
theorem iG {α A R:Type}(xs:List α)(S:List α->Nat->A)(r:Option R){step:(A->Option R)->A->Option R}
  (h:∀ (rec:A->Option R) (u:List α) (i:Nat) (z:i<xs.length),u.length=i->step rec (S u i)=rec (S (u++[xs[i]]) (i+1))) (y:∀ rec:A->Option R,step rec (S xs xs.length)=r) {k:Nat} (H:xs.length<k):ae step k (S [] 0)=r:=by
 refine eV (step:=step) xs.length (λi=>S (xs.take i) i) r ?_ ?_ H
 ·intro rec i z;show step rec (S (xs.take i) i)=rec (S (xs.take (i+1)) (i+1));rw[h rec (xs.take i) i z (by simp;omega),CQ z]
 ·intro rec;show step rec (S (xs.take xs.length) xs.length)=r;rw[Ce];exact y rec
theorem szb (a b c:Nat)(r:c<=64)(h:a+b<=2097152):decide ((a+b)*c<=ak)=true:=by
 have:=Ci h r;exact decide_eq_true (by unfold ak;omega)
theorem jH (K:Nat)(n:aa)(u:NB n)(J:1048577<K):Q118.f K (n,())=some ((n,()),()):=by
 have R:=u.table;have O:=u.cast;have H:=u.doubts;have M:=u.places;have I:=u.others;simp only[Q118.f,Q118.pre];rw[szb _ _ _ (by omega) (by show (BE ([]:List af))+(aa.table n).length<=_;simp;omega),szb _ _ _ (by omega) (by show (BE ([]:List aM))+(aa.cast n).length<=_;simp;omega)];simp only[cond_true];refine iG (aa.doubts n) (step:=λrec a=>Q118.s0 K (n,()) (Q118.l1 K (n,())) rec a) (λr i=>((i:Int),r)) _ ?_ ?_ (by omega)
 ·intro rec r i y z;have:=u.by_ _ (BF y);simp only[Q118.s0];rw[bq (by omega:(i:Int)<(BE (aa.doubts n):Int)),ag y,ar i (by omega)];simp only[cond_true,BD];rw[szb _ _ _ (by omega) (by simp;omega),szb _ _ _ (by omega) (by simp;omega)];rfl
 ·intro rec;simp only[Q118.s0,aQ,cond_false];refine iG (aa.places n) (step:=λrec a=>Q118.s1 K (n,()) (Q118.l2 K (n,())) rec a) (λr i=>((i:Int),aa.doubts n,r)) _ ?_ ?_ (by omega)
  ·intro rec r i y z;have:=u.trips _ (BF y);simp only[Q118.s1];rw[bq (by omega:(i:Int)<(BE (aa.places n):Int)),ag y,ar i (by omega)];simp only[cond_true,BD];rw[szb _ _ _ (by omega) (by simp;omega),szb _ _ _ (by omega) (by simp;omega)];rfl
  ·intro rec;simp only[Q118.s1,aQ,cond_false];refine iG (aa.others n) (step:=λrec a=>Q118.s2 K (n,()) rec a) (λr i=>((i:Int),aa.doubts n,aa.places n,r)) _ ?_ ?_ (by omega)
   ·intro rec r i y z;have:=u.facts _ (BF y);simp only[Q118.s2,zcp8];rw[bq (by omega:(i:Int)<(BE (aa.others n):Int)),ag y,ar i (by omega)];simp only[cond_true,BD];rw[szb _ _ _ (by omega) (by simp;omega),szb _ _ _ (by omega) (by simp;omega)];rfl
   ·intro rec;simp only[Q118.s2,zcp8,aQ,cond_false];rfl
theorem yK (K:Nat)(n:aa)(u:NB n)(J:1048577<K):Q112.f K (n,())=some ((n,()),()):=by
 have R:=u.table;have O:=u.cast;have H:=u.doubts;have M:=u.places;have I:=u.others;simp only[Q112.f,Q112.pre];refine iG (aa.doubts n) (step:=λrec a=>Q112.s0 K (n,()) (Q112.l1 K (n,())) rec a) (λr i=>(r,(i:Int))) _ ?_ ?_ (by omega)
 ·intro rec r i y z;have:=u.by_ _ (BF y);simp only[Q112.s0,Q8.f];rw[bq (by omega:(i:Int)<(BE (aa.doubts n):Int)),ag y,ar i (by omega)];simp only[cond_true,BD];rw[dY (by omega)];simp only[BD];rw[szb _ _ _ (by omega) (by simp;omega)];rfl
 ·intro rec;simp only[Q112.s0,aQ,cond_false];refine iG (aa.places n) (step:=λrec a=>Q112.s1 K (n,()) (Q112.l2 K (n,())) rec a) (λr i=>(aa.doubts n,r,(i:Int))) _ ?_ ?_ (by omega)
  ·intro rec r i y z;have:=u.trips _ (BF y);simp only[Q112.s1,Q8.f];rw[bq (by omega:(i:Int)<(BE (aa.places n):Int)),ag y,ar i (by omega)];simp only[cond_true,BD];rw[dY (by omega)];simp only[BD];rw[szb _ _ _ (by omega) (by simp;omega)];rfl
  ·intro rec;simp only[Q112.s1,aQ,cond_false];refine iG (aa.others n) (step:=λrec a=>Q112.s2 K (n,()) rec a) (λr i=>(aa.doubts n,aa.places n,r,(i:Int))) _ ?_ ?_ (by omega)
   ·intro rec r i y z;have:=u.facts _ (BF y);simp only[Q112.s2,zcp8,Q0.f];rw[bq (by omega:(i:Int)<(BE (aa.others n):Int)),ag y,ar i (by omega)];simp only[cond_true,BD];rw[dY (by omega)];simp only[BD];rw[szb _ _ _ (by omega) (by simp;omega)];rfl
   ·intro rec;simp only[Q112.s2,zcp8,aQ,cond_false,Q0.f,Q2.f];rw[dY (by show (aa.table n).length*_<=_;omega),dY (by show (aa.cast n).length*_<=_;omega)];rfl
instance (f g:af):Decidable (bR f g):=by unfold bR;infer_instance
theorem pG (K:Nat)(f g:af):Q19.f K (f,g,())=rb (decide (bR f g)):=by
 obtain⟨b,u,r⟩:=sK K f g;rw[u,show b=decide (bR f g) by rw[CO,r];simp]
def bS (t:List af)(f:af):List af×Bool :=
 match t.find? (λg=>g.1==f.1) with
 |some g=>if bR f g then (bD (λg=>g.1) f t,true) else (t,false)
 |none=>(bD (λg=>g.1) f t,true)
theorem kv {t:List af}{f:af}(r:Asc (λg:af=>g.1) t){i:Nat}(u:i<t.length)(e:t[i].1=f.1):bS t f=if bR f t[i] then (bD (λg=>g.1) f t,true) else (t,false):=by
 unfold bS;rw[show t.find? (λg=>g.1==f.1)=some t[i] from oY r u e]
theorem il {t:List af}{f:af}(h:∀ g∈t,g.1≠f.1):bS t f=(bD (λg=>g.1) f t,true):=by
 unfold bS;rw[show t.find? (λg=>g.1==f.1)=none from nQ h]
theorem mT {e:Ty}{b:Nat}{xs:List e.den}{m:Nat}{v:e.den}(y:m<=xs.length)(r:b<=64)(u:xs.length<=1048576):iz e b xs (m:Int) [v]=some ((xs.take m++[v]++xs.drop m,()),()):=by
 unfold iz;have:(xs.length+[v].length)*b<=140737488355328:=BW (Ci (show xs.length+[v].length<=1048577 by simp;omega) r) (by decide);rw[if_pos ⟨by omega,by omega,by simp,by simpa only[ak]using this⟩,BH]
theorem q9 {e:Ty}{xs:List e.den}{u:e.den×Unit->Option Bool}(p:e.den->Bool)(z:xs.length<=1048576)(h:∀ x∈xs,u (x,())=some (p x)):gG e xs u=some ((xs.filter (λx=>!p x),()),()):=by
 have:∀ r:List e.den,(∀ x∈r,u (x,())=some (p x))->l6 u r=some (r.filter (λx=>!p x)):=by
  intro r;induction r with
  |nil=>intro _;rfl
  |cons y r H =>
   intro h;simp only[l6,h y (by simp),BD,H (λx z=>h x (by simp[z])),DO,B9];cases p y <;> rfl
 unfold gG;rw[if_pos z,this xs h];rfl
theorem put_s (K:Nat)(t:List af)(f:af)(Z:t.length<=1048576)(R:Asc (λg:af=>g.1) t)(hK:1048577<K):Q154.f K (t,f,())=some (((bS t f).1,(bS t f).2,()),()):=by
 simp only[Q154.f,Q154.pre];obtain⟨o,H,I⟩:=fy K t f.1 Z hK;rw[I];simp only[BD];cases H with
 |at_ i r e =>
  simp only;rw[kv R r e,decide_eq_true (by omega:((i:Nat):Int)>=0),ag r];simp only[cond_true,BD];rw[show Q19.f K (f,t[i],())=_ from pG K f t[i]];simp only[BD];by_cases H:bR f t[i]
  ·rw[decide_eq_true H,if_pos H];simp only[BM,cond_false];rw[szb _ _ _ (by omega) (by show (BE ([]:List af))+t.length<=_;simp;omega)];simp only[cond_true,BQ,ag r,BD,BH];rw[ku (k:=λg:af=>g.1) R r e]
  ·rw[decide_eq_false H,if_neg H];rfl
 |no h =>
  simp only;rw[il h,decide_eq_false (by omega:¬ (-1:Int)>=0)];simp only[cond_false];have M:∀ m:Nat,m<=t.length->(bif decide ((0:Int)<=0)&&decide ((0:Int)<=(m:Int))&&decide ((m:Int)<=(BE t:Int))&&true then (bif decide ((BE ([]:List af)+BE ((t.take (BG (m:Int))).drop (BG 0)))*32<=ak) then (bif decide ((BE ([]++((t.take (BG (m:Int))).drop (BG 0)))+BE ([f]))*32<=ak) then (bif decide ((0:Int)<=(m:Int))&&decide ((m:Int)<=(BE t:Int))&&decide ((BE t:Int)<=(BE t:Int))&&true then (bif decide ((BE (([]++((t.take (BG (m:Int))).drop (BG 0)))++([f]))+BE ((t.take (BG (BE t:Int))).drop (BG (m:Int))))*32<=ak) then (some (((([]++((t.take (BG (m:Int))).drop (BG 0)))++([f]))++((t.take (BG (BE t:Int))).drop (BG (m:Int))),true,()),())) else none) else none) else none) else none) else (none:Option ((List af×Bool×Unit)×Unit)))=some ((t.take m++[f]++t.drop m,true,()),()):=by
   intro m X;rw[decide_eq_true (by omega:(0:Int)<=0),decide_eq_true (by omega:(0:Int)<=(m:Int)),decide_eq_true (by omega:(m:Int)<=(BE t:Int)),decide_eq_true (by omega:(BE t:Int)<=(BE t:Int))];simp only[BH,Ca,BY,BQ,Ce,CX,cond_true];have I:(t.take m).length=m:=by rw[BV];omega
   have z:(t.drop m).length=t.length-m:=CA;rw[szb _ _ _ (by omega) (by simp only[BN];omega),szb _ _ _ (by omega) (by simp only[BJ,BN];omega),szb _ _ _ (by omega) (by simp only[BS,BJ,BN];omega)];rfl
  have:=ch (step:=λrec a=>Q154.s0 K (t,f,()) rec a) t.length (λi=>(i:Int)) (λj=>∃ h:j<t.length,¬ t[j].1<f.1) (some ((t.take t.length++[f]++t.drop t.length,true,()),())) (λj=>some ((t.take j++[f]++t.drop j,true,()),())) ?_ ?_ t.length K 0 (by omega) (by omega)
  ·have J:∀ m,m<=t.length->(∀ i,(r:i<t.length)->i<m->t[i].1<f.1)->(∀ i,(r:i<t.length)->m<=i->f.1<t[i].1)->t.take m++[f]++t.drop m=bD (λg=>g.1) f t:=λm X Y r=>jh (k:=λg:af=>g.1) X Y r
   rcases this with ⟨I,z⟩|⟨j,_,I,⟨h3,h4⟩,h5,z⟩
   ·rw[J t.length (BT _) (λi r _=>by
     have:=I i (BU _) r;exact Cj.1 λh=>this ⟨r,h⟩) (λi r h=>by omega)]at z
    exact z
   ·rw[J j (by omega) (λi r y=>by
     have:=h5 i (BU _) y;exact Cj.1 λh=>this ⟨r,h⟩) (λi r y=>by
     have a0:=h t[i] (BF r);rcases CL y with O|O
     ·have:=dn.1 R j i h3 r O;omega
     ·subst O;omega)]at z
    exact z
  ·intro rec i r;simp only[Q154.s0];rw[bq (by omega:(i:Int)<(BE t:Int)),ag r,ar i (by omega)];simp only[cond_true,BD];by_cases u:t[i].1<f.1
   ·exact .inl ⟨λ⟨_,h⟩=>h u,by rw[decide_eq_true u];rfl⟩
   ·exact .inr ⟨⟨r,u⟩,by rw[decide_eq_false u];exact M i (by omega)⟩
  ·intro rec;simp only[Q154.s0,aQ,cond_false];exact M t.length (BT _)
theorem zI (K:Nat)(t:List af)(f:af)(R:t.length<=1048576)(H:Asc (λg:af=>g.1) t)(X:1048577<K):Q67.f K (t,f,())=some (((bS t f).1,(bS t f).2,()),()):=by
 simp only[Q67.f,Q0.f,Q1.f];rw[dY (by omega)];simp only[BD];obtain⟨m,u,Z⟩:=sJ K t f.1 R H X;rw[Z];simp only[BD];by_cases M:∃ h:m<t.length,t[m].1=f.1
 ·obtain⟨J,y⟩:=M;rw[decide_eq_true ⟨J,y⟩,kv H J y];simp only[BM,cond_false,ag J,BD,BH];rw[mR K f t[m] X];simp only[BD];by_cases O:bR f t[m]
  ·rw[decide_eq_true ((jG y.symm).2 O),if_pos O,ku (k:=λg:af=>g.1) H J y];rfl
  ·rw[decide_eq_false (λh=>O ((jG y.symm).1 h)),if_neg O];rfl
 ·rw[decide_eq_false M,il (λg hg e=>by
   obtain⟨i,r,rfl⟩:=BL hg;rcases Ck i m with h|h|h
   ·have:=u.lo i r h;omega
   ·subst h;exact M ⟨r,e⟩
   ·have Y:=u.hi m (by omega) (BT _);have I:=dn.1 H m i (by omega) r h;omega)]
  simp only[B8,cond_true];rw[mT u.le (by omega) R];simp only[BD];rw[jh (k:=λg:af=>g.1) u.le u.lo (λi r z=>by
   have:=u.hi i r z;rcases CL z with I|I
   ·have Y:=u.hi m (by omega) (BT _);have h7:=dn.1 H m i (by omega) r I;omega
   ·subst I;have:t[m].1≠f.1:=λe=>M ⟨r,e⟩
    omega)]
def dp (l:List aM)(f:af):List aM:=if ∃ x∈l,x.1.1=f.1/\¬ bR f x.1 then l else bD (λx=>x.1.1) (f,4) l
theorem uh {l:List aM}{f:af}:dp l f=bif l.any (λx=>x.1.1==f.1&&!decide (bR f x.1)) then l else bD (λx=>x.1.1) (f,4) l:=by
 unfold dp;have:(∃ x∈l,x.1.1=f.1/\¬ bR f x.1)<->l.any (λx=>x.1.1==f.1&&!decide (bR f x.1))=true:=by
  rw[List.any_eq_true];simp
 by_cases h:∃ x∈l,x.1.1=f.1/\¬ bR f x.1
 ·rw[if_pos h,this.1 h];rfl
 ·rw[if_neg h,show l.any (λx=>x.1.1==f.1&&!decide (bR f x.1))=false by rw[Bool.eq_false_iff];exact λr=>h (this.2 r)];rfl
theorem z8 (K:Nat)(l:List aM)(f:af)(X:l.length<=1048576)(M:Asc (λx:aM=>x.1.1) l)(Y:1048577<K):Q155.f K (l,f,())=some ((dp l f,()),()):=by
 have:=sL (step:=λrec a=>Q155.s0 K (l,f,()) rec a) (λx:aM=>x.1.1) (f,4) l (λx=>x.1.1==f.1&&!decide (bR f x.1)) (some ((l,()),())) (λR=>some ((R,()),())) (λr d i=>(r,d,(i:Int))) ?_ ?_ l.length 0 K [] false (by omega) (by omega) (by simp) (by simp)
 ·refine Ct (this:Q155.f K (l,f,())=_) ?_;rw[BY,uh,lf M];cases l.any (λx=>x.1.1==f.1&&!decide (bR f x.1)) <;> rfl
 ·intro rec r d i J I z;simp only[Q155.s0];rw[bq (by omega:(i:Int)<(BE l:Int)),ag J,ar i (by omega)];simp only[cond_true,BD];have u:decide ((r.length+[((f,4):af×Nat)].length)*40<=ak)=true:=szb _ _ _ (by omega) (by simp;omega);have O:decide (((r++[((f,4):aM)]).length+[l[i]].length)*40<=ak)=true:=szb _ _ _ (by omega) (by simp;omega);have H:decide ((r.length+[l[i]].length)*40<=ak)=true:=szb _ _ _ (by omega) (by simp;omega);by_cases y:l[i].1.1=f.1
  ·rw[show (l[i].1.1==f.1)=true by simpa using y,show (l[i].1.1 != f.1)=false by simpa using y,show decide (f.1<=l[i].1.1)=true from decide_eq_true (by omega)];simp only[cond_true,cond_false,CS,Cy,DR,BO];rw[show Q19.f K (f,l[i].1,())=_ from pG K f l[i].1];simp only[BD];cases decide (bR f l[i].1) with
   |false=>rfl
   |true =>
    simp only[BM,cond_false];cases d with
    |true=>simp only[BM,cond_false,BO]
    |false =>
     simp only[B8,cond_true];rw[u];rfl
  ·rw[show (l[i].1.1==f.1)=false by simpa using y,show (l[i].1.1 != f.1)=true by simpa using y];simp only[cond_true,cond_false,Cb];cases d with
   |true =>
    simp only[BM,cond_false,Cb,BO,C4];rw[H];rfl
   |false =>
    simp only[B8,cond_true,CS,Cq];cases decide (f.1<=l[i].1.1) with
    |true =>
     simp only[cond_true];rw[u];simp only[cond_true];rw[O];rfl
    |false =>
     simp only[cond_false,BO];rw[H];rfl
 ·intro rec r d I z;simp only[Q155.s0,aQ];cases d with
  |true=>simp only[BM,cond_false,cond_true,BO]
  |false =>
   have:=z rfl;have u:decide ((r.length+[((f,4):af×Nat)].length)*40<=ak)=true:=szb _ _ _ (by omega) (by simp;omega);simp only[B8,cond_true,cond_false];rw[u];rfl
theorem xg (K:Nat)(l:List aM)(f:af)(Y:l.length<=1048576)(O:cR l)(hf:bA f)(hK:1048577<K):Q68.f K (l,f,())=some ((dp l f,()),()):=by
 simp only[Q68.f,Q2.f,Q3.f];obtain⟨b1,e1,e2⟩:=oW K l Y hK;have a1:=e2.2 O;subst a1;obtain⟨b2,e3,e4⟩:=mc K f;have a0:=e4.2 hf;subst a0;rw[e1];simp only[BD,BM,cond_false];rw[e3];simp only[BD,BM,cond_false];rw[dY (by omega)];simp only[BD];rw[uR K l Y hK];simp only[BD];have hA:Asc (λg:af=>g.1) (l.map (·.1)):=by
  have:=O.2;unfold Asc at this ⊢;rw[B6];exact this
 have r:(l.map (·.1)).length=l.length:=BR _;obtain⟨m,hm,h1⟩:=sJ K (l.map (·.1)) f.1 (by rw[r];exact Y) hA hK;rw[h1];simp only[BD];have y:∀ i (h:i<l.length),(l.map (·.1))[i]'(by rw[r];exact h)=l[i].1:=λi h=>DH _
 have M:=hm.le;rw[r]at M;have lo:∀ i,(u:i<l.length)->i<m->l[i].1.1<f.1:=λi u I=>by have:=hm.lo i (by rw[r];exact u) I;rwa [y i u]at this
 have X:∀ i,(u:i<l.length)->m<=i->f.1<=l[i].1.1:=λi u I=>by have:=hm.hi i (by rw[r];exact u) I;rwa [y i u]at this
 by_cases he:∃ h:m<l.length,l[m].1.1=f.1
 ·obtain⟨z,H⟩:=he;rw[decide_eq_true ⟨by rw[r];exact z,by rw[y m z];exact H⟩];simp only[BM,cond_false,ag z,BD,BH];rw[show Q50.f K (f,l[m].1,())=_ from mR K f l[m].1 hK];simp only[BD];have a3:∀ x∈l,x.1.1=f.1->x=l[m]:=λx J e=>by
   obtain⟨i,u,rfl⟩:=BL J;have:=oR O.2 u z (by show l[i].1.1=l[m].1.1;rw[e,H]);subst this;rfl
  by_cases Z:bR f l[m].1
  ·rw[decide_eq_true ((jG H.symm).2 Z),dp,if_neg (λ⟨x,J,e,hn⟩=>hn (by rw[a3 x J e];exact Z)),ku (k:=λx:aM=>x.1.1) (x:=(f,4)) O.2 z H];rfl
  ·rw[decide_eq_false (λh=>Z ((jG H.symm).1 h)),dp,if_pos ⟨l[m],BF z,H,Z⟩];rfl
 ·have R:∀ x∈l,x.1.1≠f.1:=λx J e=>by
   obtain⟨i,u,rfl⟩:=BL J;rcases Ck i m with h|h|h
   ·have:=lo i u h;omega
   ·subst h;exact he ⟨u,e⟩
   ·have h5:=X m (by omega) (BT _);have h6:l[m].1.1<l[i].1.1:=dn.1 O.2 m i (by omega) u h;omega
  rw[decide_eq_false (λ⟨z,H⟩=>he ⟨by rw[r]at z;exact z,by rw[y m (by rw[r]at z;exact z)]at H;exact H⟩),dp,if_neg (λ⟨x,J,e,_⟩=>R x J e)];simp only[B8,cond_true];rw[mT M (by omega) Y];simp only[BD];rw[jh (k:=λx:aM=>x.1.1) (x:=(f,4)) M lo (λi u a2=>by
   have h1:=X i u a2;have z:=R l[i] (BF u);show f.1<l[i].1.1;omega)]
theorem oh {α:Type}{k:α->Int}{x:α}:∀ {r:List α},kc k x true r=r.filter (λy=>k y != k x)
 |[]=>rfl
 |y::r=>by
  simp only[kc,BM,Cb,cond_false,C4,BQ,B9];rw[oh];cases k y != k x <;> rfl
theorem ui {α:Type}{k:α->Int}{x:α}{xs:List α}:bD k x (xs.filter λy=>!(k y==k x))=bD k x xs:=by
 simp only[bD,List.filter_filter];congr 1
 ·refine Cw λy _=>?_
  by_cases h:k y<k x
  ·rw[decide_eq_true h];simp;omega
  ·rw[decide_eq_false h];rfl
 ·congr 1;refine Cw λy _=>?_
  by_cases h:k x<k y
  ·rw[decide_eq_true h];simp;omega
  ·rw[decide_eq_false h];rfl
def mkD (r:Int)(f:af)(b:Int):bN:=(f.1,f.2.1,r,[b])
def cO (r:Int)(ds:List bN)(f:af)(b:Int):List bN:=if f.2.2.1=2 then bD (λd=>d.1) (mkD r f b) ds else ds.filter (λd=>!(d.1==f.1))
theorem z9 (K:Nat)(n:aa)(f:af)(b:Int)(X:(aa.doubts n).length<=1048576)(J:Asc (λd:bN=>d.1) (aa.doubts n))(Y:1048577<K) :
  Q156.f K (n,f,b,())=some ((cO n.2.2.2.2.2.1 (aa.doubts n) f b,()),()):=by
 have:=sL (step:=λrec a=>Q156.s0 K (n,f,b,()) rec a) (λd:bN=>d.1) (mkD n.2.2.2.2.2.1 f b) (aa.doubts n) (λ_=>false) none (λR=>some ((R,()),())) (λr d i=>(r,d,(i:Int))) ?_ ?_ (aa.doubts n).length 0 K [] (f.2.2.1 != 2) (by omega) (by omega) (by simp) (by simp)
 ·refine Ct (this:Q156.f K (n,f,b,())=_) ?_;rw[BY,show (aa.doubts n).any (λ_=>false)=false by simp,cO];by_cases u:f.2.2.1=2
  ·rw[if_pos u,show (f.2.2.1 != 2)=false by simpa using u,lf J];rfl
  ·rw[if_neg u,show (f.2.2.1 != 2)=true by simpa using u,oh];rfl
 ·intro rec r d i I H z;simp only[Q156.s0];rw[bq (by omega:(i:Int)<(BE (aa.doubts n):Int)),ag I,ar i (by omega)];simp only[cond_true,cond_false,BD];have y:decide ((r.length+[mkD n.2.2.2.2.2.1 f b].length)*48<=ak)=true:=szb _ _ _ (by omega) (by simp;omega);have M:decide (((r++[mkD n.2.2.2.2.2.1 f b]).length+[(aa.doubts n)[i]].length)*48<=ak)=true:=szb _ _ _ (by omega) (by simp;omega);have O:decide ((r.length+[(aa.doubts n)[i]].length)*48<=ak)=true:=szb _ _ _ (by omega) (by simp;omega);show (bif !d then (bif decide (f.1<=(aa.doubts n)[i].1) then (bif decide ((r.length+[mkD n.2.2.2.2.2.1 f b].length)*48<=ak) then (bif (aa.doubts n)[i].1 != f.1 then (bif decide (((r++[mkD n.2.2.2.2.2.1 f b]).length+[(aa.doubts n)[i]].length)*48<=ak) then (rec ((r++[mkD n.2.2.2.2.2.1 f b])++[(aa.doubts n)[i]],true,((i+1:Nat):Int))) else none) else (rec (r++[mkD n.2.2.2.2.2.1 f b],true,((i+1:Nat):Int)))) else none) else (bif (aa.doubts n)[i].1 != f.1 then (bif decide ((r.length+[(aa.doubts n)[i]].length)*48<=ak) then (rec (r++[(aa.doubts n)[i]],d,((i+1:Nat):Int))) else none) else (rec (r,d,((i+1:Nat):Int))))) else (bif (aa.doubts n)[i].1 != f.1 then (bif decide ((r.length+[(aa.doubts n)[i]].length)*48<=ak) then (rec (r++[(aa.doubts n)[i]],d,((i+1:Nat):Int))) else none) else (rec (r,d,((i+1:Nat):Int)))))=rec ((r++(bif !d&&decide (f.1<=(aa.doubts n)[i].1) then [mkD n.2.2.2.2.2.1 f b] else []))++(bif (aa.doubts n)[i].1 != f.1 then [(aa.doubts n)[i]] else []),d||decide (f.1<=(aa.doubts n)[i].1),((i+1:Nat):Int));rw[y,M,O];cases d <;> cases decide (f.1<=(aa.doubts n)[i].1) <;> cases (aa.doubts n)[i].1 != f.1 <;> simp only[BM,B8,CS,Cb,C4,Cq,cond_true,cond_false,BO]
 ·intro rec r d H z;simp only[Q156.s0,aQ];cases d with
  |true=>simp only[BM,cond_false,cond_true,BO]
  |false =>
   have:=z rfl;have y:decide ((r.length+[mkD n.2.2.2.2.2.1 f b].length)*48<=ak)=true:=szb _ _ _ (by omega) (by simp;omega);show (bif decide ((r.length+[mkD n.2.2.2.2.2.1 f b].length)*48<=ak) then some ((r++[mkD n.2.2.2.2.2.1 f b],()),()) else none)=some ((r++[mkD n.2.2.2.2.2.1 f b],()),());rw[y];rfl
theorem Aa (K:Nat)(t:List bN)(r:Int)(ht:t.length<=1048576)(z:Asc (λd:bN=>d.1) t)(h7:∀ d∈t,InP d.1 0 7)(Y:InP r 0 7)(hK:1048577<K) :
  ∃ m,m<=t.length/\(∀ i,(h:i<t.length)->i<m->t[i].1<r)/\(∀ i,(h:i<t.length)->m<=i->r<=t[i].1)/\∃ b,Q71.f K (t,r,(λH=>(Q72.f K (H.1,H.2.1,())).map λy=>y.1.1),())=some ((((m:Nat):Int),b,()),()):=by
 let ks:Nat->Int:=λi=>if h:i<t.length then t[i].1 else 0
 have u:∀ i (h:i<t.length),ks i=t[i].1:=λi h=>by simp[ks,h]
 let J:Nat->Option ((Int×Bool×Unit)×Unit):=λm=>some ((((m:Nat):Int),decide (∃ h:m<t.length,t[m].1=r),()),())
 have X:∀ d∈t,((Q72.f K (d,r,())).map λy=>y.1.1)=some (d.1-r):=λd hd=>by
  obtain⟨a1,a2⟩:=h7 d hd;obtain⟨a3,a4⟩:=Y;simp only[Q72.f];rw[aE (by omega) (by omega)];rfl
 have:=w8 (step:=λrec a=>Q71.s0 K (t,r,(λH=>(Q72.f K (H.1,H.2.1,())).map λy=>y.1.1),()) rec a) (ks:=ks) (n:=t.length) (t:=r) J ht
  (λi j M R=>by
   rw[u i (by omega),u j R];exact dn.1 z i j (by omega) R M) ?_ ?_ t.length K 0 t.length (by omega) (BU _) (BT _) (by omega) (λi I=>by omega) (λi I Y=>by omega)
 ·obtain⟨m,h1,h2,h3,h4⟩:=this;exact⟨m,h1,λi h I=>by rw[<- u i h];exact h2 i I,λi h I=>by rw[<- u i h];exact h3 i I h,_,h4⟩
 ·intro rec a b a0 hb;have O:(a+b) / 2<t.length:=by omega
  simp only[Q71.s0];rw[decide_eq_true (by omega:(a:Int)<(b:Int)),uO (by omega)];simp only[cond_true];rw[ag O];simp only[BD,X _ (BF O)];rw[u _ O,ar _ (by omega)];by_cases h:t[(a+b) / 2].1<r
  ·rw[if_pos h,decide_eq_true (by omega:t[(a+b) / 2].1-r<0)];rfl
  ·rw[if_neg h,decide_eq_false (by omega:¬ t[(a+b) / 2].1-r<0)];rfl
 ·intro rec a ha;simp only[Q71.s0];rw[decide_eq_false (by omega)];simp only[cond_false];by_cases h:a<t.length
  ·rw[decide_eq_true (by omega:(a:Int)<(BE t:Int)),ag h];simp only[cond_true,BD,X _ (BF h)];have:(t[a].1-r==0)=decide (∃ h:a<t.length,t[a].1=r):=by
    rw[CO];simp only[beq_iff_eq,decide_eq_true_eq];exact⟨λe=>⟨h,by omega⟩,λ⟨_,e⟩=>by omega⟩
   rw[this]
  ·rw[decide_eq_false (by omega:¬ (a:Int)<(BE t:Int))];simp only[cond_false,J];rw[decide_eq_false (λ⟨Z,_⟩=>h Z)]
def iT (n:aa)(t:List af)(c:List aM)(ds:List bN):aa :=
 (n.1,n.2.1,n.2.2.1,n.2.2.2.1,n.2.2.2.2.1,n.2.2.2.2.2.1,n.2.2.2.2.2.2.1,n.2.2.2.2.2.2.2.1,t,c,n.2.2.2.2.2.2.2.2.2.2.1,ds,n.2.2.2.2.2.2.2.2.2.2.2.2)
def kd (n:aa)(f:af):Bool:=decide (∃ g∈aa.table n,g.1=f.1/\g.2.1=f.2.1/\g.2.2.1=f.2.2.1)
def sayOf (n:aa)(f:af)(b:Int):aa :=
 bif (bS (aa.table n) f).2 then iT n (bS (aa.table n) f).1 (dp (aa.cast n) f) (bif kd n f then aa.doubts n else cO n.2.2.2.2.2.1 (aa.doubts n) f b) else n
structure b7 (n:aa):Prop where
 table:ax (aa.table n)
 cast:cR (aa.cast n)
 asc:Asc (λd:bN=>d.1) (aa.doubts n)
 inp:∀ d∈aa.doubts n,InP d.1 0 7
 lt:(aa.table n).length<=1048576
 lc:(aa.cast n).length<=1048576
 ld:(aa.doubts n).length<=1048576
theorem sN {n:aa}{f g:af}(u:Asc (λg:af=>g.1) (aa.table n))(r:g∈aa.table n)(e:g.1=f.1):kd n f=(g.2.1==f.2.1&&g.2.2.1==f.2.2.1):=by
 rw[CO,kd,decide_eq_true_eq,CK,beq_iff_eq,beq_iff_eq];constructor
 ·rintro⟨x,hx,h1,h2,h3⟩;have:=gR u hx r (by rw[h1,e]);subst this;exact⟨h2,h3⟩
 ·rintro⟨h1,h2⟩;exact⟨g,r,e,h1,h2⟩
theorem sO {n:aa}{f:af}(h:∀ g∈aa.table n,g.1≠f.1):kd n f=false :=
 decide_eq_false λ⟨g,r,e,_⟩=>h g r e
theorem pH (K:Nat)(n:aa)(f:af)(b:Int)(h:b7 n)(r:1048577<K):Q194.f K (n,f,b,())=some ((sayOf n f b,()),()):=by
 simp only[Q194.f,zcp8];rw[show Q154.f K (n.2.2.2.2.2.2.2.2.1,f,())=_ from put_s K (aa.table n) f h.lt h.table.2 r];simp only[BD];cases H:(bS (aa.table n) f).2 with
 |false =>
  simp only[sayOf,H];rfl
 |true =>
  simp only[sayOf,H,BM,cond_false,cond_true];obtain⟨o,J,M⟩:=fy K (aa.table n) f.1 h.lt r;rw[show Q16.f K (n.2.2.2.2.2.2.2.2.1,f.1,())=_ from M];simp only[BD];have y:=z9 K (n.1,n.2.1,n.2.2.1,n.2.2.2.1,n.2.2.2.2.1,n.2.2.2.2.2.1,n.2.2.2.2.2.2.1,n.2.2.2.2.2.2.2.1,(bS (aa.table n) f).1,dp (aa.cast n) f,n.2.2.2.2.2.2.2.2.2.2) f b h.ld h.asc r;have z:=z8 K (aa.cast n) f h.lc h.cast.2 r;cases J with
  |at_ i I e =>
   simp only;rw[sN h.table.2 (BF I) e,decide_eq_true (by omega:((i:Nat):Int)>=0)];simp only[cond_true];rw[show idx n.2.2.2.2.2.2.2.2.1 (i:Int)=some (aa.table n)[i] from ag I];simp only[BD];rw[show Q155.f K (n.2.2.2.2.2.2.2.2.2.1,f,())=_ from z];simp only[BD];rw[y];cases (aa.table n)[i].2.1==f.2.1 with
   |true =>
    cases (aa.table n)[i].2.2.1==f.2.2.1 <;> rfl
   |false=>rfl
  |no u =>
   simp only;rw[sO u,decide_eq_false (by omega:¬ (-1:Int)>=0)];simp only[cond_false];rw[show Q155.f K (n.2.2.2.2.2.2.2.2.2.1,f,())=_ from z];simp only[BD];rw[y];rfl
theorem md {α:Type}{k:α->Int}{xs:List α}(h:Asc k xs)(p:α->Bool):Asc k (xs.filter p):=Cc p h
theorem Ab {R:Type}(K:Nat)(r:Int)(ds:List bN)(f:af)(b:Int)(G:List bN->Option R)(M:ds.length<=1048576)(hA:Asc (λd:bN=>d.1) ds)(h7:∀ d∈ds,InP d.1 0 7)(hf:bA f)(hK:1048577<K) :
  ((Q4.f K (ds,(λI=>(Q70.f K (I.1,f,())).map λy=>y.1.1),())).bind λJ=>bif f.2.2.1==2 then ((Q71.f K (J.1.1,f.1,(λO=>(Q72.f K (O.1,O.2.1,())).map λy=>y.1.1),())).bind λY=>(Q5.f K (J.1.1,Y.1.1,[mkD r f b],())).bind λZ=>G Z.1.1) else G J.1.1)=G (cO r ds f b):=by
 rw[show Q4.f K (ds,(λI=>(Q70.f K (I.1,f,())).map λy=>y.1.1),())=some ((ds.filter (λd=>!(d.1==f.1)),()),()) by
  simp only[Q4.f];exact q9 _ M (λd _=>rfl)]
 simp only[BD,cO];by_cases z:f.2.2.1=2
 ·rw[if_pos z,show (f.2.2.1==2)=true by simpa using z];simp only[cond_true];have u:(ds.filter (λd=>!(d.1==f.1))).length<=1048576:=BW (B7 _ _) M;obtain⟨m,X,lo,hi,b',e⟩:=Aa K (ds.filter (λd=>!(d.1==f.1))) f.1 u (md hA _) (λd hd=>h7 d (BK.1 hd).1) hf.1 hK;rw[e];simp only[BD];rw[show Q5.f K (ds.filter (λd=>!(d.1==f.1)),(m:Int),[mkD r f b],())=some (((ds.filter (λd=>!(d.1==f.1))).take m++[mkD r f b]++(ds.filter (λd=>!(d.1==f.1))).drop m,()),()) by
   simp only[Q5.f];exact mT X (by omega) u]
  simp only[BD];have:=jh (k:=λd:bN=>d.1) (x:=mkD r f b) X lo (λi h H=>by
   have h1:=hi i h H;have h3:(!((ds.filter (λd=>!(d.1==f.1)))[i].1==f.1))=true:=(BK.1 (BF h)).2;have h4:(ds.filter (λd=>!(d.1==f.1)))[i].1≠f.1:=by simpa using h3
   show f.1<_;omega)
  rw[this];exact congrArg G (ui (k:=λd:bN=>d.1) (x:=mkD r f b))
 ·rw[if_neg z,show (f.2.2.1==2)=false by simpa using z];rfl
theorem zJ (K:Nat)(n:aa)(f:af)(b:Int)(h:b7 n)(y:bA f)(u:1048577<K):Q73.f K (n,f,b,())=some ((),(sayOf n f b,())):=by
 simp only[Q73.f,zcp8];have J:∃ g:af,∃ I,Q37.f K (aa.table n,f.1,())=some ((g,I,()),())/\kd n f=(g.2.2.1==f.2.2.1&&g.2.1==f.2.1):=by
  rcases gr K (aa.table n) f.1 h.lt u with ⟨r,_⟩|⟨_,⟨g,O,e,r⟩|⟨R,r⟩⟩
  ·exact absurd h.table r
  ·exact⟨g,_,r,by rw[sN h.table.2 O e,Bool.and_comm]⟩
  ·refine⟨_,_,r,?_⟩;rw[sO R,show ((0:Int)==f.2.2.1)=false by have:=y.2.2.1;simp;omega];rfl
 obtain⟨g,I,r,M⟩:=J;rw[show Q37.f K (n.2.2.2.2.2.2.2.2.1,f.1,())=_ from r];simp only[BD];rw[show Q67.f K (n.2.2.2.2.2.2.2.2.1,f,())=_ from zI K (aa.table n) f h.lt h.table.2 u];simp only[BD];cases H:(bS (aa.table n) f).2 with
 |false =>
  simp only[sayOf,H];rfl
 |true =>
  simp only[sayOf,H,BM,cond_false,cond_true];rw[show Q68.f K (n.2.2.2.2.2.2.2.2.2.1,f,())=_ from xg K (aa.cast n) f h.lc h.cast y u];simp only[BD];have z:=Ab K n.2.2.2.2.2.1 (aa.doubts n) f b (λX=>some ((),(iT n (bS (aa.table n) f).1 (dp (aa.cast n) f) X,()))) h.ld h.asc h.inp y u;rw[M];cases g.2.2.1==f.2.2.1 with
  |true =>
   cases g.2.1==f.2.1 with
   |true=>rfl
   |false=>exact z
  |false=>exact z
theorem iU {α:Type}{k:α->Int}{xs:List α}(h:Asc k xs)(z:∀ x∈xs,InP (k x) 0 7):xs.length<=8:=by
 have:=(jg (xs.map k) [0,1,2,3,4,5,6,7] (by unfold Asc at h;rw[B6];exact h) (by decide) (λy u=>by
  obtain⟨x,r,rfl⟩:=BX.1 u;obtain⟨I,H⟩:=z x r;simp only[CH,Co,or_false];omega)).1
 rw[BR]at this;exact this
theorem gX (t:List af)(f:af):(bS t f).1=t\/(bS t f).1=bD (λg=>g.1) f t:=by
 unfold bS;split
 ·split
  ·exact .inr rfl
  ·exact .inl rfl
 ·exact .inr rfl
theorem kw {t:List af}{f:af}(h:ax t)(u:bA f):ax (bS t f).1:=by
 rcases gX t f with e|e
 ·rw[e];exact h
 ·rw[e];refine⟨λg r=>?_,fh h.2⟩;rcases aX.1 r with rfl|⟨y,_⟩
  ·exact u
  ·exact h.1 g y
theorem pI {l:List aM}{f:af}(h:cR l)(u:bA f):cR (dp l f):=by
 unfold dp;split
 ·exact h
 ·refine⟨λx r=>?_,fh h.2⟩;rcases aX.1 r with rfl|⟨y,_⟩
  ·exact⟨u,show (1:Int)<=4 by omega,show (4:Int)<=4 by omega⟩
  ·exact h.1 x y
theorem kx {r:Int}{ds:List bN}{f:af}{b:Int}{d:bN}(h:d∈cO r ds f b):d=mkD r f b\/d∈ds:=by
 unfold cO at h;split at h
 ·rcases aX.1 h with h|h
  ·exact .inl h
  ·exact .inr h.1
 ·exact .inr (BK.1 h).1
theorem sP {r:Int}{ds:List bN}{f:af}{b:Int}(h:Asc (λd:bN=>d.1) ds):Asc (λd:bN=>d.1) (cO r ds f b):=by
 unfold cO;split
 ·exact fh h
 ·exact md h _
theorem iH (n:aa)(f:af)(b:Int):∃ t c r,sayOf n f b=iT n t c r/\(t=aa.table n\/t=(bS (aa.table n) f).1)/\(c=aa.cast n\/c=dp (aa.cast n) f)/\(r=aa.doubts n\/r=cO n.2.2.2.2.2.1 (aa.doubts n) f b):=by
 unfold sayOf;cases (bS (aa.table n) f).2 with
 |false=>exact⟨aa.table n,aa.cast n,aa.doubts n,rfl,.inl rfl,.inl rfl,.inl rfl⟩
 |true =>
  cases kd n f with
  |true=>exact⟨_,_,_,rfl,.inr rfl,.inr rfl,.inl rfl⟩
  |false=>exact⟨_,_,_,rfl,.inr rfl,.inr rfl,.inr rfl⟩
theorem b7.mk' {n:aa}(r:ax (aa.table n))(u:cR (aa.cast n))(y:Asc (λd:bN=>d.1) (aa.doubts n))(z:∀ d∈aa.doubts n,InP d.1 0 7):b7 n where
 table:=r
 cast:=u
 asc:=y
 inp:=z
 lt:=BW (iU r.2 (λg I=>(r.1 g I).1)) (by decide)
 lc:=BW (iU u.2 (λx H=>(u.1 x H).1.1)) (by decide)
 ld:=BW (iU y z) (by decide)
theorem ji {n:aa}{f:af}{b:Int}(h:b7 n)(u:bA f):b7 (sayOf n f b):=by
 obtain⟨t,c,z,e,I,H,y⟩:=iH n f b;rw[e];refine b7.mk' ?_ ?_ ?_ ?_
 ·show ax t;rcases I with rfl|rfl
  ·exact h.table
  ·exact kw h.table u
 ·show cR c;rcases H with rfl|rfl
  ·exact h.cast
  ·exact pI h.cast u
 ·show Asc _ z;rcases y with rfl|rfl
  ·exact h.asc
  ·exact sP h.asc
 ·show ∀ d∈z,InP d.1 0 7;rcases y with rfl|rfl
  ·exact h.inp
  ·intro d r;rcases kx r with rfl|r
   ·exact u.1
   ·exact h.inp d r
theorem yL {n:aa}{f:af}{b:Int}(h:∀ d∈aa.doubts n,d.2.2.2.length<=1048576):∀ d∈aa.doubts (sayOf n f b),d.2.2.2.length<=1048576:=by
 obtain⟨t,c,y,e,_,_,u⟩:=iH n f b;rw[e];show ∀ d∈y,_;rcases u with rfl|rfl
 ·exact h
 ·intro d r;rcases kx r with rfl|r
  ·exact Nat.succ_le_of_lt (by decide)
  ·exact h d r
theorem UpP.say {n:aa}(h:UpP n):b7 n:=by
 obtain⟨u,_,_,⟨z,_⟩,_,r,_⟩:=h;refine b7.mk' u z r.2.1 λd y=>?_
 obtain⟨f,H,e,_⟩:=(r.1 d y).1;rw[<- e];exact (u.1 f H).1
theorem lH {α β A R:Type}(t:List α)(p:α->Bool)(g:α->β)(S:List β->Nat->A)(u:List β->Option R){step:(A->Option R)->A->Option R}
  (h:∀ (rec:A->Option R) (r:List β) (i:Nat) (M:i<t.length),r.length<=i->step rec (S r i)=rec (S (bif p t[i] then r++[g t[i]] else r) (i+1)))
  (z:∀ (rec:A->Option R) (r:List β),r.length<=t.length->step rec (S r t.length)=u r) {k:Nat} (I:t.length<k) :
  ae step k (S [] 0)=u ((t.filter p).map g):=by
 have:∀ (d i k:Nat) (r:List β),i+d=t.length->d<k->r.length<=i->ae step k (S r i)=u (r++((t.drop i).filter p).map g):=by
  intro d;induction d with
  |zero =>
   intro i k r M I H;obtain⟨k,rfl⟩:∃ J,k=J+1:=⟨k-1,by omega⟩;have:i=t.length:=by omega
   subst this;show step (ae step k) _=_;rw[z _ _ H];simp
  |succ d O =>
   intro i k r M I H;obtain⟨k,rfl⟩:∃ J,k=J+1:=⟨k-1,by omega⟩;have y:i<t.length:=by omega
   show step (ae step k) _=_;rw[h _ _ _ y H,B5 y,B9];cases p t[i] with
   |true =>
    simp only[cond_true,if_true,Cx];rw[O (i+1) k _ (by omega) (by omega) (by simp;omega),CE];rfl
   |false =>
    simp only[cond_false];rw[O (i+1) k _ (by omega) (by omega) (by omega)];rfl
 have:=this t.length 0 k [] (by omega) I (BT _)
 rwa [BY,BQ]at this
def sQ:aa:=(0,false,false,false,0,0,0,0,[],[],(0,0,0,false),[],(0,0,0,0),[],[])
theorem uj:NB sQ where
 table:=BU _
 cast:=BU _
 doubts:=BU _
 by_:=λd r=>absurd r Co
 places:=BU _
 trips:=λd r=>absurd r Co
 others:=BU _
 facts:=λd r=>absurd r Co
theorem szw (a b c:Nat)(r:c<=128)(h:a+b<=2097152):decide ((a+b)*c<=ak)=true:=by
 have:=Ci h r;exact decide_eq_true (by unfold ak;omega)
def kP (n:aa):aa:=(n.1,n.2.1,true,n.2.2.2)
def nR (r:Int)(n:aa)(to:Int):aq:=(1,r,n.1,to,0,n.1,aa.coord n,aa.table n)
theorem uU (K:Nat)(n:aa)(r to:Int)(u:(aa.table n).length<=1048576):Q101.f K (n,r,to,())=some ((nR r n to,()),()):=by
 simp only[Q101.f,zcp4,Q81.f,BD,Q0.f];rw[dY (by show (aa.table n).length*_<=_;omega)];rfl
theorem nS (K:Nat)(n:aa)(r to:Int)(u:(aa.table n).length<=1048576):Q153.f K (n,r,to,0,n.1,aa.table n,())=some ((nR r n to,()),()):=by
 simp only[Q153.f];rw[szb _ _ _ (by omega) (by show (BE ([]:List af))+(aa.table n).length<=_;simp;omega)];rfl
def cN (f:af):Bool:=f.2.2.1==1||f.2.2.1==2
theorem uV (K:Nat)(t:List af)(f:af)(J:ax t)(z:t.length<=1048576)(r:f∈t)(y:1048577<K):Q196.f K (t,f.1,())=rb (cN f):=by
 simp only[Q196.f];obtain⟨o,H,I⟩:=fy K t f.1 z y;rw[I];simp only[BD];cases H with
 |at_ i u e =>
  simp only;rw[decide_eq_true (by omega:((i:Nat):Int)>=0),ag u];simp only[cond_true,BD];rw[gR J.2 (BF u) r e,cN];cases f.2.2.1==1 <;> rfl
 |no h=>exact absurd rfl (h f r)
def sR (n:aa)(f:af):Bool:=f.1 != n.1&&cN f
def lI (n:aa):List aq:=((aa.table n).filter (sR n)).map λf=>nR 5 n f.1
def mU (n:aa):aa:=kP (sayOf n (n.1,n.2.2.2.2.1,4,n.2.2.2.1) n.1)
theorem sS (K:Nat)(x:ab Q212.ps)(m:aa)(I:ax (aa.table m))(u:(aa.table m).length<=1048576)(z:1048577<K) :
  Q212.l0 K x ([],0,m.1,m.2.1,m.2.2.2.1,m.2.2.2.2.1,m.2.2.2.2.2.1,m.2.2.2.2.2.2.1,m.2.2.2.2.2.2.2.1,m.2.2.2.2.2.2.2.2.1,m.2.2.2.2.2.2.2.2.2.1,m.2.2.2.2.2.2.2.2.2.2.1.1,m.2.2.2.2.2.2.2.2.2.2.1.2.1,m.2.2.2.2.2.2.2.2.2.2.1.2.2.1,m.2.2.2.2.2.2.2.2.2.2.1.2.2.2,m.2.2.2.2.2.2.2.2.2.2.2.1,m.2.2.2.2.2.2.2.2.2.2.2.2.1.1,m.2.2.2.2.2.2.2.2.2.2.2.2.1.2.1,m.2.2.2.2.2.2.2.2.2.2.2.2.1.2.2.1,m.2.2.2.2.2.2.2.2.2.2.2.2.1.2.2.2,m.2.2.2.2.2.2.2.2.2.2.2.2.2.1,m.2.2.2.2.2.2.2.2.2.2.2.2.2.2)=some ((kP m,lI (kP m),()),()):=by
 refine lH (step:=λrec a=>Q212.s0 K x rec a) (aa.table m) (sR (kP m)) (λf=>nR 5 (kP m) f.1) (λr i=>(r,(i:Int),m.1,m.2.1,m.2.2.2.1,m.2.2.2.2.1,m.2.2.2.2.2.1,m.2.2.2.2.2.2.1,m.2.2.2.2.2.2.2.1,m.2.2.2.2.2.2.2.2.1,m.2.2.2.2.2.2.2.2.2.1,m.2.2.2.2.2.2.2.2.2.2.1.1,m.2.2.2.2.2.2.2.2.2.2.1.2.1,m.2.2.2.2.2.2.2.2.2.2.1.2.2.1,m.2.2.2.2.2.2.2.2.2.2.1.2.2.2,m.2.2.2.2.2.2.2.2.2.2.2.1,m.2.2.2.2.2.2.2.2.2.2.2.2.1.1,m.2.2.2.2.2.2.2.2.2.2.2.2.1.2.1,m.2.2.2.2.2.2.2.2.2.2.2.2.1.2.2.1,m.2.2.2.2.2.2.2.2.2.2.2.2.1.2.2.2,m.2.2.2.2.2.2.2.2.2.2.2.2.2.1,m.2.2.2.2.2.2.2.2.2.2.2.2.2.2)) (λJ=>some ((kP m,J,()),())) ?_ ?_ (by omega)
 ·intro rec r i y H;simp only[Q212.s0,zceae5f];rw[show decide ((i:Int)<(BE m.2.2.2.2.2.2.2.2.1:Int))=true from bq (by omega:(i:Int)<(BE (aa.table m):Int)),show idx m.2.2.2.2.2.2.2.2.1 (i:Int)=some (aa.table m)[i] from ag y,ar i (by omega)];simp only[cond_true,BD,sR];rw[show (kP m).1=m.1 from rfl];cases M:(aa.table m)[i].1 != m.1 with
  |false=>rfl
  |true =>
   simp only[cond_true,CS];rw[show Q196.f K (m.2.2.2.2.2.2.2.2.1,(aa.table m)[i].1,())=_ from uV K (aa.table m) _ I u (BF y) z];simp only[BD];cases cN (aa.table m)[i] with
   |false=>rfl
   |true =>
    simp only[cond_true];refine (congrArg (λo=>CI o _) (nS K (kP m) 5 (aa.table m)[i].1 u)).trans ?_;simp only[BD];rw[szw _ _ _ (by omega) (by simp;omega)];rfl
 ·intro rec r H;simp only[Q212.s0,zceae5f];rw[show decide ((BE (aa.table m):Int)<(BE m.2.2.2.2.2.2.2.2.1:Int))=false from aQ _];rfl
theorem vK {n:aa}(r:hX n):bA (n.1,n.2.2.2.2.1,4,n.2.2.2.1):=⟨r.1,r.2.2.2.2.1,show (1:Int)<=4 by omega,show (4:Int)<=4 by omega⟩
theorem Ac (K:Nat)(n:aa)(J:NB n)(y:hX n)(H:n.2.1=true)(I:n.2.2.1=false)(r:1048577<K):Q212.f K (n,())=some ((mU n,lI (mU n),()),()):=by
 have u:=(y.up H).say;have z:=ji (b:=n.1) u (vK y);simp only[Q212.f,Q212.pre];rw[H,I];simp only[BM,cond_false];rw[pH K n _ n.1 u r];exact sS K _ _ z.table z.lt r
theorem kQ {α r A R:Type}(ds:List α)(st:r->α->r)(Inv:r->Prop)(S:r->Nat->A)(u:r->Option R){step:(A->Option R)->A->Option R}(n:r)(Y:Inv n)
  (h:∀ (rec:A->Option R) (m:r) (i:Nat) (M:i<ds.length),Inv m->step rec (S m i)=rec (S (st m ds[i]) (i+1))/\Inv (st m ds[i]))
  (z:∀ (rec:A->Option R) (m:r),Inv m->step rec (S m ds.length)=u m) {k:Nat} (H:ds.length<k):ae step k (S n 0)=u (ds.foldl st n):=by
 have:∀ (d i k:Nat) (m:r),i+d=ds.length->d<k->Inv m->ae step k (S m i)=u ((ds.drop i).foldl st m):=by
  intro d;induction d with
  |zero =>
   intro i k m M H J;obtain⟨k,rfl⟩:∃ I,k=I+1:=⟨k-1,by omega⟩;have:i=ds.length:=by omega
   subst this;show step (ae step k) _=_;rw[z _ _ J,Cz];rfl
  |succ d Z =>
   intro i k m M H J;obtain⟨k,rfl⟩:∃ I,k=I+1:=⟨k-1,by omega⟩;have y:i<ds.length:=by omega
   show step (ae step k) _=_;obtain⟨X,O⟩:=h (ae step k) m i y J;rw[X,B5 y];exact Z (i+1) k _ (by omega) (by omega) O
 have:=this ds.length 0 k n (by omega) H Y
 rwa [BY]at this
theorem jj {α r:Type}{st:r->α->r}{Inv:r->Prop}:∀ {ds:List α} {n:r},Inv n->(∀ m,∀ d∈ds,Inv m->Inv (st m d))->Inv (ds.foldl st n)
 |[],_,h,_=>h
 |d::ds,n,h,y=>jj (ds:=ds) (y n d (by simp) h) (λm z u=>y m z (by simp[u]))
def aB (t:List af)(r:Int):af:=(t.find? λg=>g.1==r).getD (0,0,0,false)
theorem jI {t:List af}(r:Asc (λg:af=>g.1) t){f:af}(u:f∈t):aB t f.1=f:=by
 obtain⟨i,y,e⟩:=BL u;unfold aB;rw[show t.find? (λg=>g.1==f.1)=some t[i] from oY r y (by rw[e]),e];rfl
theorem jJ {t:List af}{r:Int}(h:∀ g∈t,g.1≠r):aB t r=(0,0,0,false):=by
 unfold aB;rw[show t.find? (λg=>g.1==r)=none from nQ h];rfl
theorem iV (K:Nat)(t:List af)(r:Int)(y:ax t)(I:t.length<=1048576)(H:1048577<K):∃ b,Q37.f K (t,r,())=some ((aB t r,b,()),()):=by
 rcases gr K t r I H with ⟨u,_⟩|⟨_,⟨g,z,e,u⟩|⟨J,u⟩⟩
 ·exact absurd y u
 ·refine⟨true,?_⟩;rw[u,<- e,jI y.2 z]
 ·refine⟨false,?_⟩;rw[u,jJ J]
theorem sU (K:Nat)(t:List af)(r:Int)(z:ax t)(y:t.length<=1048576)(H:1048577<K):Q196.f K (t,r,())=rb (cN (aB t r)):=by
 by_cases h:∃ f∈t,f.1=r
 ·obtain⟨f,u,rfl⟩:=h;rw[uV K t f z y u H,jI z.2 u]
 ·have I:∀ g∈t,g.1≠r:=λg R e=>h ⟨g,R,e⟩
  simp only[Q196.f];obtain⟨o,M,O⟩:=fy K t r y H;rw[O,jJ I];cases M with
  |at_ i J e=>exact absurd e (I _ (BF J))
  |no _=>rfl
theorem sW (K:Nat)(n:aa)(r:Int)(J:ax (aa.table n))(z:(aa.table n).length<=1048576)(y:1048577<K):Q79.f K (n,r,())=rb (cN (aB (aa.table n) r)):=by
 simp only[Q79.f,Q78.f];obtain⟨b,u⟩:=iV K (aa.table n) r J z y;rw[show Q37.f K (n.2.2.2.2.2.2.2.2.1,r,())=_ from u];simp only[BD];obtain⟨b,I,H⟩:=fw K (aB (aa.table n) r).2.2.1 1 2;rw[I];have:b=cN (aB (aa.table n) r):=by
  rw[CO,H,cN,Bool.or_eq_true,beq_iff_eq,beq_iff_eq];show (1<=(aB (aa.table n) r).2.2.1/\(aB (aa.table n) r).2.2.1<=2)<->_;omega
 rw[this];rfl
theorem dO (n:aa)(f:af)(b:Int):(sayOf n f b).1=n.1/\(sayOf n f b).2.1=n.2.1/\(sayOf n f b).2.2.1=n.2.2.1/\(sayOf n f b).2.2.2.1=n.2.2.2.1/\(sayOf n f b).2.2.2.2.1=n.2.2.2.2.1/\(sayOf n f b).2.2.2.2.2.1=n.2.2.2.2.2.1/\(sayOf n f b).2.2.2.2.2.2.1=n.2.2.2.2.2.2.1/\(sayOf n f b).2.2.2.2.2.2.2.1=n.2.2.2.2.2.2.2.1/\aa.probe (sayOf n f b)=aa.probe n/\(sayOf n f b).2.2.2.2.2.2.2.2.2.2.2.2=n.2.2.2.2.2.2.2.2.2.2.2.2:=by
 obtain⟨t,c,r,e,_⟩:=iH n f b;rw[e];exact⟨rfl,rfl,rfl,rfl,rfl,rfl,rfl,rfl,rfl,rfl⟩
theorem mV {t:List af}{f g:af}(r:g∈t):∃ u∈(bS t f).1,u.1=g.1:=by
 rcases gX t f with e|e
 ·rw[e];exact⟨g,r,rfl⟩
 ·rw[e];by_cases h:g.1=f.1
  ·exact⟨f,aX.2 (.inl rfl),h.symm⟩
  ·exact⟨g,aX.2 (.inr ⟨r,h⟩),rfl⟩
theorem iI {n:aa}{f:af}{b:Int}{g:af}(r:g∈aa.table n):∃ u∈aa.table (sayOf n f b),u.1=g.1:=by
 obtain⟨t,c,z,e,y,_⟩:=iH n f b;rw[e];rcases y with rfl|rfl
 ·exact⟨g,r,rfl⟩
 ·exact mV r
def jS (u r:Int)(len:Nat):Bool:=decide (u-r>=if 6-(len:Int)+1<3 then 3 else 6-(len:Int)+1)
def fZ (f:af):af:=(f.1,f.2.1,3,f.2.2.2)
def cP (n:aa)(d:bN):aa:=bif jS n.2.2.2.2.2.1 d.2.2.1 d.2.2.2.length then sayOf n (fZ (aB (aa.table n) d.1)) n.1 else n
def c9 (n:aa):aa:=(aa.doubts n).foldl cP n
theorem due_s (K:Nat)(r:Int)(d:bN)(H:0<=d.2.2.1)(z:d.2.2.1<=r)(y:r<=1000000)(u:d.2.2.2.length<=1048576):Q193.f K (r,d,())=rb (jS r d.2.2.1 d.2.2.2.length):=by
 simp only[Q193.f];rw[aE (n:=6-(BE d.2.2.2:Int)) (by omega) (by omega),aE (n:=6-(BE d.2.2.2:Int)+1) (by omega) (by omega),aE (n:=r-d.2.2.1) (by omega) (by omega)];unfold jS;by_cases h:6-(BE d.2.2.2:Int)+1<3
 ·rw[decide_eq_true h,if_pos h];rfl
 ·rw[decide_eq_false h,if_neg h];rfl
theorem Ad (K:Nat)(a b c:Int)(len:Nat)(r:len<=1048576):Q66.f K ((a,b,c,len),())=some ((if 6-(len:Int)+1<3 then 3 else 6-(len:Int)+1,()),()):=by
 simp only[Q66.f];rw[aE (n:=6-(len:Int)) (by omega) (by omega),aE (n:=6-(len:Int)+1) (by omega) (by omega)];by_cases h:6-(len:Int)+1<3
 ·rw[decide_eq_true h,if_pos h];rfl
 ·rw[decide_eq_false h,if_neg h];rfl
structure jK (ds:List bN) (now:Int) (n:aa):Prop where
 ok:b7 n
 key:∀ d∈ds,∃ f∈aa.table n,f.1=d.1
 now_:n.2.2.2.2.2.1=now
theorem lJ {f:af}(h:bA f):bA (fZ f):=⟨h.1,h.2.1,show (1:Int)<=3 by omega,show (3:Int)<=4 by omega⟩
theorem cD {t:List af}{r:Int}(y:ax t)(h:∃ f∈t,f.1=r):bA (aB t r)/\(aB t r).1=r/\aB t r∈t:=by
 obtain⟨f,u,rfl⟩:=h;rw[jI y.2 u];exact⟨y.1 f u,rfl,u⟩
theorem lg {ds:List bN}{r:Int}{n:aa}{d:bN}(h:jK ds r n)(z:d∈ds):jK ds r (cP n d):=by
 unfold cP;cases jS n.2.2.2.2.2.1 d.2.2.1 d.2.2.2.length with
 |false=>exact h
 |true =>
  have I:=lJ (cD h.ok.table (h.key d z)).1;refine⟨ji h.ok I,λO u=>?_,(dO n _ _).2.2.2.2.2.1.trans h.now_⟩;obtain⟨g,H,e⟩:=h.key O u;obtain⟨J,y,M⟩:=iI (f:=fZ (aB (aa.table n) d.1)) (b:=n.1) H;exact⟨J,y,M.trans e⟩
theorem xh (K:Nat)(n:aa)(h:jK (aa.doubts n) n.2.2.2.2.2.1 n)(X:∀ d∈aa.doubts n,0<=d.2.2.1/\d.2.2.1<=n.2.2.2.2.2.1/\d.2.2.2.length<=1048576)(z:n.2.2.2.2.2.1<=1000000)(R:1048577<K):Q195.f K (n,())=some ((c9 n,()),()):=by
 have hl:=h.ok.ld;refine kQ (step:=λrec a=>Q195.s0 K (n,()) rec a) (aa.doubts n) cP (jK (aa.doubts n) n.2.2.2.2.2.1) (λm i=>((i:Int),m.1,m.2.1,m.2.2.1,m.2.2.2.1,m.2.2.2.2.1,m.2.2.2.2.2.1,m.2.2.2.2.2.2.1,m.2.2.2.2.2.2.2.1,m.2.2.2.2.2.2.2.2.1,m.2.2.2.2.2.2.2.2.2.1,m.2.2.2.2.2.2.2.2.2.2.1.1,m.2.2.2.2.2.2.2.2.2.2.1.2.1,m.2.2.2.2.2.2.2.2.2.2.1.2.2.1,m.2.2.2.2.2.2.2.2.2.2.1.2.2.2,m.2.2.2.2.2.2.2.2.2.2.2.1,m.2.2.2.2.2.2.2.2.2.2.2.2.1.1,m.2.2.2.2.2.2.2.2.2.2.2.2.1.2.1,m.2.2.2.2.2.2.2.2.2.2.2.2.1.2.2.1,m.2.2.2.2.2.2.2.2.2.2.2.2.1.2.2.2,m.2.2.2.2.2.2.2.2.2.2.2.2.2.1,m.2.2.2.2.2.2.2.2.2.2.2.2.2.2)) (λm=>some ((m,()),())) n h ?_ ?_ (by omega)
 ·intro rec m i H u;refine⟨?_,lg u (BF H)⟩;simp only[Q195.s0,zc286a0,zc3ec45];obtain⟨I,J,M⟩:=X _ (BF H);rw[show decide ((i:Int)<(BE n.2.2.2.2.2.2.2.2.2.2.2.1:Int))=true from bq (by omega:(i:Int)<(BE (aa.doubts n):Int)),show idx n.2.2.2.2.2.2.2.2.2.2.2.1 (i:Int)=some (aa.doubts n)[i] from ag H,ar i (by omega)];simp only[cond_true,BD];rw[due_s K m.2.2.2.2.2.1 (aa.doubts n)[i] I (by rw[u.now_];exact J) (by rw[u.now_];exact z) M];simp only[BD];have r:=u.key _ (BF H);generalize (aa.doubts n)[i]=d at r I J M ⊢;unfold cP;cases jS m.2.2.2.2.2.1 d.2.2.1 d.2.2.2.length with
  |false=>rfl
  |true =>
   simp only[cond_true];have y:=cD u.ok.table r;obtain⟨o,Z,h1⟩:=fy K (aa.table m) d.1 u.ok.lt R;rw[show Q16.f K (m.2.2.2.2.2.2.2.2.1,d.1,())=_ from h1];simp only[BD];cases Z with
   |no h=>exact absurd r (λ⟨f,Y,e⟩=>h f Y e)
   |at_ j O e =>
    simp only;rw[show idx m.2.2.2.2.2.2.2.2.1 ((j:Nat):Int)=some (aa.table m)[j] from ag O,gR u.ok.table.2 (BF O) y.2.2 (by rw[e,y.2.1])];simp only[BD];refine (congrArg (λo=>CI o _) (pH K m (fZ (aB (aa.table m) d.1)) m.1 u.ok R)).trans ?_;rfl
 ·intro rec m u;simp only[Q195.s0,zc286a0,zc3ec45];rw[show decide ((BE (aa.doubts n):Int)<(BE n.2.2.2.2.2.2.2.2.2.2.2.1:Int))=false from aQ _];rfl
theorem AW (K:Nat)(n:aa)(h:jK (aa.doubts n) n.2.2.2.2.2.1 n)(hd:∀ d∈aa.doubts n,0<=d.2.2.1/\d.2.2.1<=n.2.2.2.2.2.1/\d.2.2.2.length<=1048576)(Y:n.2.2.2.2.2.1<=1000000)(Z:1048577<K):Q74.f K (n,())=some ((),(c9 n,())):=by
 have hl:=h.ok.ld;simp only[Q74.f,Q74.pre,zc3ec45];have hc:∃ r:List (Int×Int×Int×Nat),r=(aa.doubts n).map (λd=>(d.1,d.2.1,d.2.2.1,d.2.2.2.length))/\Q7.f K (aa.doubts n,())=some ((r,()),()):=by
  refine⟨_,rfl,?_⟩;simp only[Q7.f,qp];rw[dY (by omega)];rfl
 obtain⟨r,H,e⟩:=hc;rw[show Q7.f K (n.2.2.2.2.2.2.2.2.2.2.2.1,())=_ from e];simp only[BD];have I:r.length=(aa.doubts n).length:=by rw[H,BR]
 have M:∀ i (y:i<(aa.doubts n).length),r[i]'(by rw[I];exact y)=((aa.doubts n)[i].1,(aa.doubts n)[i].2.1,(aa.doubts n)[i].2.2.1,(aa.doubts n)[i].2.2.2.length):=λi y=>by
  simp only[H,DH]
 clear H;refine kQ (step:=λrec a=>Q74.s0 K (n,()) rec a) (aa.doubts n) cP (jK (aa.doubts n) n.2.2.2.2.2.1) (λm i=>(r,(BE r:Int),(i:Int),m.1,m.2.1,m.2.2.1,m.2.2.2.1,m.2.2.2.2.1,m.2.2.2.2.2.1,m.2.2.2.2.2.2.1,m.2.2.2.2.2.2.2.1,m.2.2.2.2.2.2.2.2.1,m.2.2.2.2.2.2.2.2.2.1,m.2.2.2.2.2.2.2.2.2.2.1.1,m.2.2.2.2.2.2.2.2.2.2.1.2.1,m.2.2.2.2.2.2.2.2.2.2.1.2.2.1,m.2.2.2.2.2.2.2.2.2.2.1.2.2.2,m.2.2.2.2.2.2.2.2.2.2.2.1,m.2.2.2.2.2.2.2.2.2.2.2.2.1.1,m.2.2.2.2.2.2.2.2.2.2.2.2.1.2.1,m.2.2.2.2.2.2.2.2.2.2.2.2.1.2.2.1,m.2.2.2.2.2.2.2.2.2.2.2.2.1.2.2.2,m.2.2.2.2.2.2.2.2.2.2.2.2.2.1,m.2.2.2.2.2.2.2.2.2.2.2.2.2.2)) (λm=>some ((),(m,()))) n h ?_ ?_ (by omega)
 ·intro rec m i y z;refine⟨?_,lg z (BF y)⟩;simp only[Q74.s0,zc286a0,zc3ec45];have O:i<r.length:=by rw[I];exact y
  obtain⟨d0,d1,X⟩:=hd _ (BF y);rw[bq (by omega:(i:Int)<(BE r:Int)),ag O,ar i (by omega),BH,ag O,M i y];simp only[cond_true,BD];have u:=z.key _ (BF y);generalize (aa.doubts n)[i]=d at u d0 d1 X ⊢;rw[Ad K d.1 d.2.1 d.2.2.1 d.2.2.2.length X];simp only[BD];have a0:=z.now_;rw[aE (n:=m.2.2.2.2.2.1-d.2.2.1) (by omega) (by omega)];have J:decide (m.2.2.2.2.2.1-d.2.2.1<if 6-(BE d.2.2.2:Int)+1<3 then 3 else 6-(BE d.2.2.2:Int)+1)=!jS m.2.2.2.2.2.1 d.2.2.1 d.2.2.2.length:=by
   unfold jS;rw[CO];simp
  rw[show decide (m.2.2.2.2.2.1-d.2.2.1<(if 6-(BE d.2.2.2:Int)+1<3 then 3 else 6-(BE d.2.2.2:Int)+1:Int))=_ from J];unfold cP;cases jS m.2.2.2.2.2.1 d.2.2.1 d.2.2.2.length with
  |false=>rfl
  |true =>
   simp only[BM,cond_false,cond_true];have R:=cD z.ok.table u;obtain⟨b,hw⟩:=iV K (aa.table m) d.1 z.ok.table z.ok.lt Z;rw[show Q37.f K (m.2.2.2.2.2.2.2.2.1,d.1,())=_ from hw];simp only[BD];refine (congrArg (λo=>CI o _) (zJ K m (fZ (aB (aa.table m) d.1)) m.1 z.ok (lJ R.1) Z)).trans ?_;rfl
 ·intro rec m z;simp only[Q74.s0,zc286a0,zc3ec45];rw[<- I,aQ];rfl
def setP (n:aa)(p:af):aa:=(n.1,n.2.1,n.2.2.1,n.2.2.2.1,n.2.2.2.2.1,n.2.2.2.2.2.1,n.2.2.2.2.2.2.1,n.2.2.2.2.2.2.2.1,n.2.2.2.2.2.2.2.2.1,n.2.2.2.2.2.2.2.2.2.1,p,n.2.2.2.2.2.2.2.2.2.2.2)
def noP:af:=(-1,0,0,false)
def mf (f:af):af:=(f.1,f.2.1,2,f.2.2.2)
def pJ (n:aa)(f:af):Bool:=f.2.2.1==1&&f.1 != n.1&&f.1 != (aa.probe n).1
def cE (n:aa):List Int:=(((aa.table n).filter (pJ n)).map (·.1)).take 2
def askW (n:aa)(to:Int):aq:=(1,3,n.1,to,(aa.probe n).2.2.1,(aa.probe n).1,aa.coord n,[])
def jL (n:aa):aa:=setP n ((aa.probe n).1,(aa.probe n).2.1,(aa.probe n).2.2.1,true)
def a7 (n:aa):aa×List aq :=
 bif (aa.probe n).1==-1 then (n,[]) else
 bif !cN (aB (aa.table n) (aa.probe n).1) then (setP n noP,[]) else
 bif decide (n.2.2.2.2.2.1-(aa.probe n).2.1>=4) then (bif (aB (aa.table n) (aa.probe n).1).2.2.1==1 then sayOf (setP n noP) (mf (aB (aa.table n) (aa.probe n).1)) n.1 else setP n noP,[]) else
 bif decide (n.2.2.2.2.2.1-(aa.probe n).2.1>=2) then (bif !(aa.probe n).2.2.2 then (jL n,(cE n).map (askW n)) else (n,[])) else (n,[])
theorem b7.setP {n:aa}(h:b7 n)(p:af):b7 (setP n p):=⟨h.table,h.cast,h.asc,h.inp,h.lt,h.lc,h.ld⟩
theorem qx {f:af}(h:bA f):bA (mf f):=⟨h.1,h.2.1,show (1:Int)<=2 by omega,show (2:Int)<=4 by omega⟩
theorem el {t:List af}{r:Int}(h:cN (aB t r)=true):∃ f∈t,f.1=r:=by
 by_cases u:∃ f∈t,f.1=r
 ·exact u
 ·rw[jJ (λg y e=>u ⟨g,y,e⟩)]at h;simp[cN]at h
theorem xi (K:Nat)(n:aa)(J:(aa.table n).length<=1048576)(I:1048577<K):Q197.f K (n,())=some ((cE n,()),()):=by
 have:=la (step:=λrec a=>Q197.s0 K (n,()) rec a) (aa.table n) (pJ n) (λf=>f.1) 2 (λy=>some ((y,()),())) ?_ ?_ ?_ (aa.table n).length 0 K [] (by omega) (by omega) (BT _) (by simp)
 ·exact this
 ·intro rec r i u z H;simp only[Q197.s0];rw[show decide ((i:Int)<(BE n.2.2.2.2.2.2.2.2.1:Int))=true from bq (by omega:(i:Int)<(BE (aa.table n):Int)),show idx n.2.2.2.2.2.2.2.2.1 (i:Int)=some (aa.table n)[i] from ag u,ar i (by omega),decide_eq_true (by omega:(BE r:Int)<2)];simp only[cond_true,BD,pJ];show (bif (aa.table n)[i].1 != n.1 then (bif (aa.table n)[i].1 != (aa.probe n).1 then (bif (aa.table n)[i].2.2.1==1 then (bif decide ((BE r+BE ([(aa.table n)[i].1]))*8<=ak) then (rec (r++([(aa.table n)[i].1]),((i+1:Nat):Int))) else none) else (rec (r,((i+1:Nat):Int)))) else (rec (r,((i+1:Nat):Int)))) else (rec (r,((i+1:Nat):Int))))=_;rw[szb _ _ _ (by omega) (by simp;omega)];cases (aa.table n)[i].1 != n.1 <;> cases (aa.table n)[i].1 != (aa.probe n).1 <;> cases (aa.table n)[i].2.2.1==1 <;> rfl
 ·intro rec r i u z H;simp only[Q197.s0];rw[show decide ((i:Int)<(BE n.2.2.2.2.2.2.2.2.1:Int))=true from bq (by omega:(i:Int)<(BE (aa.table n):Int)),decide_eq_false (by omega:¬ (BE r:Int)<2)];rfl
 ·intro rec r _;simp only[Q197.s0];rw[show decide ((BE (aa.table n):Int)<(BE n.2.2.2.2.2.2.2.2.1:Int))=false from aQ _];rfl
theorem xj (K:Nat)(n m:aa)(p:af)(H:aa.table m=aa.table n/\m.1=n.1)(u:p=aa.probe n)(r:(aa.table n).length<=1048576)(z:1048577<K) :
  ((Q77.f K (aa.table n,(λJ=>(Q80.f K (J.1,m,p,())).map λy=>y.1.1),())).bind λI=>Q76.f K (I.1.1,2,()))=some ((cE n,()),()):=by
 rw[qw K (aa.table n) _ (pJ n) r z (λf _=>by
  simp only[Q80.f,pJ];rw[H.2,u];cases f.2.2.1==1 <;> cases f.1 != n.1 <;> cases f.1 != (aa.probe n).1 <;> rfl)]
 simp only[BD];rw[qv K _ 2 (by rw[BR];exact BW (B7 _ _) r)];rfl
theorem yM (K:Nat)(n:aa)(h:b7 n)(h0:0<=(aa.probe n).2.1)(h1:(aa.probe n).2.1<=1000000)(Z:0<=n.2.2.2.2.2.1)(a0:n.2.2.2.2.2.1<=1000000)(u:1048577<K) :
  Q82.f K (n,())=some (((a7 n).2,()),((a7 n).1,())):=by
 simp only[Q82.f,Q82.pre,zcp8];obtain⟨b,R⟩:=iV K (aa.table n) (aa.probe n).1 h.table h.lt u;rw[show Q37.f K (n.2.2.2.2.2.2.2.2.1,n.2.2.2.2.2.2.2.2.2.2.1.1,())=_ from R];simp only[BD,a7];show (bif (aa.probe n).1==-1 then _ else _)=_;cases (aa.probe n).1==-1 with
 |true=>rfl
 |false =>
  simp only[cond_false];rw[show Q79.f K (n,n.2.2.2.2.2.2.2.2.2.2.1.1,())=_ from sW K n (aa.probe n).1 h.table h.lt u];simp only[BD];cases M:cN (aB (aa.table n) (aa.probe n).1) with
  |false=>rfl
  |true =>
   have Y:=cD h.table (el M);simp only[BM,cond_false];rw[aE (n:=n.2.2.2.2.2.1-n.2.2.2.2.2.2.2.2.2.2.1.2.1) (by show -9223372036854775808<=n.2.2.2.2.2.1-(aa.probe n).2.1;omega) (by show n.2.2.2.2.2.1-(aa.probe n).2.1<=9223372036854775807;omega)];show (bif decide (n.2.2.2.2.2.1-(aa.probe n).2.1>=4) then _ else _)=_;cases decide (n.2.2.2.2.2.1-(aa.probe n).2.1>=4) with
   |true =>
    simp only[cond_true];cases (aB (aa.table n) (aa.probe n).1).2.2.1==1 with
    |true =>
     simp only[cond_true];refine (congrArg (λo=>CI o _) (zJ K (setP n noP) (mf (aB (aa.table n) (aa.probe n).1)) n.1 (h.setP noP) (qx Y.1) u)).trans ?_;rfl
    |false=>rfl
   |false =>
    simp only[cond_false];show (bif decide (n.2.2.2.2.2.1-(aa.probe n).2.1>=2) then _ else _)=_;cases decide (n.2.2.2.2.2.1-(aa.probe n).2.1>=2) with
    |false=>rfl
    |true =>
     simp only[cond_true];show (bif !(aa.probe n).2.2.2 then _ else _)=_;cases J:(aa.probe n).2.2.2 with
     |true=>rfl
     |false =>
      simp only[B8,cond_true];have hh:=xj K n (jL n) (aa.probe n) ⟨rfl,rfl⟩ rfl h.lt u;obtain⟨y,X,z⟩:=Option.bind_eq_some_iff.1 hh;refine (congrArg (λo=>CI o _) X).trans ?_;simp only[BD];rw[z];simp only[BD];have H:(cE n).length<=2:=CT _ _;refine Ct (lH (step:=λrec a=>Q82.s0 K (n,()) rec a) (cE n) (λ_=>true) (askW n) (λr i=>(r,cE n,(BE (cE n):Int),(i:Int))) (λws=>some ((ws,()),(jL n,()))) ?_ ?_ (by omega)) (by rw[CF.2 (λ_ _=>rfl)])
      ·intro rec r i I O;simp only[Q82.s0,zcp4,zcp8];rw[bq (by omega:(i:Int)<(BE (cE n):Int)),ag I,ar i (by omega),BH,ag I];simp only[cond_true,BD,Q81.f];rw[szw _ _ _ (by omega) (by simp;omega)];rfl
      ·intro rec r O;simp only[Q82.s0,zcp4,zcp8,aQ];rfl
theorem xk (K:Nat)(n:aa)(h:b7 n)(hp:(aa.probe n).1≠-1)(h0:0<=(aa.probe n).2.1)(h1:(aa.probe n).2.1<=1000000)(X:0<=n.2.2.2.2.2.1)(a0:n.2.2.2.2.2.1<=1000000)(y:1048577<K) :
  Q198.f K (n,())=some (((a7 n).1,(a7 n).2,()),()):=by
 simp only[Q198.f,Q198.pre,zcp8,a7];rw[show ((aa.probe n).1==-1)=false by simpa using hp];simp only[cond_false];rw[show Q196.f K (n.2.2.2.2.2.2.2.2.1,n.2.2.2.2.2.2.2.2.2.2.1.1,())=_ from sU K (aa.table n) (aa.probe n).1 h.table h.lt y];simp only[BD];cases I:cN (aB (aa.table n) (aa.probe n).1) with
 |false=>rfl
 |true =>
  have u:=cD h.table (el I);simp only[BM,cond_false];rw[aE (n:=n.2.2.2.2.2.1-n.2.2.2.2.2.2.2.2.2.2.1.2.1) (by show -9223372036854775808<=n.2.2.2.2.2.1-(aa.probe n).2.1;omega) (by show n.2.2.2.2.2.1-(aa.probe n).2.1<=9223372036854775807;omega)];show (bif decide (n.2.2.2.2.2.1-(aa.probe n).2.1>=4) then _ else _)=_;cases decide (n.2.2.2.2.2.1-(aa.probe n).2.1>=4) with
  |true =>
   simp only[cond_true];obtain⟨o,Z,Y⟩:=fy K (aa.table n) (aa.probe n).1 h.lt y;rw[show Q16.f K (n.2.2.2.2.2.2.2.2.1,n.2.2.2.2.2.2.2.2.2.2.1.1,())=_ from Y];simp only[BD];cases Z with
   |no z=>exact absurd (el I) (λ⟨f,u,e⟩=>z f u e)
   |at_ j M e =>
    simp only;rw[show idx n.2.2.2.2.2.2.2.2.1 ((j:Nat):Int)=some (aa.table n)[j] from ag M,gR h.table.2 (BF M) u.2.2 (by rw[e,u.2.1])];simp only[BD];cases (aB (aa.table n) (aa.probe n).1).2.2.1==1 with
    |true =>
     simp only[cond_true];refine (congrArg (λo=>CI o _) (pH K (setP n noP) (mf (aB (aa.table n) (aa.probe n).1)) n.1 (h.setP noP) y)).trans ?_;rfl
    |false=>rfl
  |false =>
   simp only[cond_false];show (bif decide (n.2.2.2.2.2.1-(aa.probe n).2.1>=2) then _ else _)=_;cases decide (n.2.2.2.2.2.1-(aa.probe n).2.1>=2) with
   |false=>rfl
   |true =>
    simp only[cond_true];show (bif !(aa.probe n).2.2.2 then _ else _)=_;cases O:(aa.probe n).2.2.2 with
    |true=>rfl
    |false =>
     simp only[B8,cond_true];refine (congrArg (λo=>CI o _) (xi K (jL n) h.lt y)).trans ?_;simp only[BD];rw[show cE (jL n)=cE n from rfl];have H:(cE n).length<=2:=CT _ _;refine Ct (lH (step:=λrec a=>Q198.s0 K (n,()) rec a) (cE n) (λ_=>true) (askW n) (λr i=>(r,cE n,(i:Int))) (λws=>some ((jL n,ws,()),())) ?_ ?_ (by omega)) (by rw[CF.2 (λ_ _=>rfl)])
     ·intro rec r i J R;simp only[Q198.s0,zcp8];rw[bq (by omega:(i:Int)<(BE (cE n):Int)),ag J,ar i (by omega),BH,ag J];simp only[cond_true,BD,Q153.f];rw[szb _ _ _ (by omega) (by simp)];simp only[cond_true,BD];rw[szw _ _ _ (by omega) (by simp;omega)];rfl
     ·intro rec r R;simp only[Q198.s0,zcp8,aQ];rfl
def im (n:aa)(i:Int):aa:=(n.1,n.2.1,n.2.2.1,n.2.2.2.1,i,n.2.2.2.2.2)
def fI (n:aa)(f:af):aa:=bif decide (bR f (aB (aa.table n) n.1))&&decide (f.2.1<999) then sayOf (im n (f.2.1+1)) (n.1,f.2.1+1,1,n.2.2.2.1) n.1 else n
def eh (f:af)(b:Int)(d:bN):bN:=bif d.1==f.1&&d.2.1==f.2.1&&f.2.2.1==2 then (d.1,d.2.1,d.2.2.1,bD (λx:Int=>x) b d.2.2.2) else d
def kR (n:aa)(f:af)(b:Int):aa:=iT n (aa.table n) (aa.cast n) ((aa.doubts n).map (eh f b))
def eo (b:Int)(n:aa)(f:af):aa:=bif f.1==n.1 then fI n f else kR (sayOf n f b) f b
def jk (n:aa)(t:List af)(b:Int):aa:=t.foldl (eo b) n
def mg (l:List Int):Prop:=Asc (λx:Int=>x) l/\∀ x∈l,InP x 0 7
theorem mg.len {l:List Int}(h:mg l):l.length<=8:=iU h.1 h.2
theorem mg.put {l:List Int}{b:Int}(h:mg l)(u:InP b 0 7):mg (bD (λx:Int=>x) b l) :=
 ⟨fh h.1,λx r=>by
  rcases aX.1 r with rfl|⟨r,_⟩
  ·exact u
  ·exact h.2 x r⟩
structure ey (n:aa):Prop where
 say:b7 n
 me:InP n.1 0 7
 has:∃ g∈aa.table n,g.1=n.1
 by_:∀ d∈aa.doubts n,mg d.2.2.2
theorem b7.inc {n:aa}(h:b7 n)(i:Int):b7 (im n i):=⟨h.table,h.cast,h.asc,h.inp,h.lt,h.lc,h.ld⟩
theorem mh {n:aa}{f:af}{b:Int}(H:InP b 0 7)(h:∀ d∈aa.doubts n,mg d.2.2.2):∀ d∈aa.doubts (sayOf n f b),mg d.2.2.2:=by
 obtain⟨t,c,y,e,_,_,z⟩:=iH n f b;rw[e];intro d r;have r:d∈y:=r;rcases z with rfl|rfl
 ·exact h d r
 ·rcases kx r with rfl|r
  ·exact⟨C0 _ _,λx u=>by rw[CD.1 u];exact H⟩
  ·exact h d r
theorem uW {n:aa}{f:af}(u:InP n.1 0 7)(r:bA f)(h:f.2.1<999):bA (n.1,f.2.1+1,1,n.2.2.2.1):=by
 obtain⟨_,⟨z,y⟩,_⟩:=r;exact⟨u,⟨show (0:Int)<=f.2.1+1 by omega,show f.2.1+1<=999 by omega⟩,show (1:Int)<=1 by omega,show (1:Int)<=4 by omega⟩
theorem ey.refute {n:aa}{f:af}(h:ey n)(I:bA f):ey (fI n f):=by
 unfold fI;cases u:decide (bR f (aB (aa.table n) n.1))&&decide (f.2.1<999) with
 |false=>exact h
 |true =>
  have J:f.2.1<999:=by
   rw[CK]at u;exact of_decide_eq_true u.2
  obtain⟨y,_⟩:=dO (im n (f.2.1+1)) (n.1,f.2.1+1,1,n.2.2.2.1) n.1;refine⟨ji (h.say.inc _) (uW h.me I J),?_,?_,mh h.me h.by_⟩
  ·show InP (sayOf (im n (f.2.1+1)) (n.1,f.2.1+1,1,n.2.2.2.1) n.1).1 0 7;rw[y];exact h.me
  ·obtain⟨g,H,e⟩:=h.has;obtain⟨z,r,M⟩:=iI (n:=im n (f.2.1+1)) (f:=(n.1,f.2.1+1,1,n.2.2.2.1)) (b:=n.1) (g:=g) H;refine⟨z,r,?_⟩;show z.1=(sayOf (im n (f.2.1+1)) (n.1,f.2.1+1,1,n.2.2.2.1) n.1).1;rw[y,M,e];rfl
theorem ey.confirm {n:aa}{f:af}{b:Int}(h:ey n)(X:bA f)(R:InP b 0 7):ey (kR (sayOf n f b) f b):=by
 have u:=ji (b:=b) h.say X;obtain⟨O,_⟩:=dO n f b;have z:=mh (f:=f) R h.by_;obtain⟨g,Z,e⟩:=h.has;obtain⟨M,H,Y⟩:=iI (n:=n) (f:=f) (b:=b) Z;have J:∀ d,(eh f b d).1=d.1:=λd=>by unfold eh;cases d.1==f.1&&d.2.1==f.2.1&&f.2.2.1==2 <;> rfl
 refine⟨⟨u.table,u.cast,?_,λd I=>?_,u.lt,u.lc,?_⟩,?_,⟨M,H,?_⟩,λd I=>?_⟩
 ·show Asc (λd:bN=>d.1) ((aa.doubts (sayOf n f b)).map (eh f b));unfold Asc;rw[B6];exact u.asc.imp λ {a c} h=>by show (eh f b a).1<(eh f b c).1;rw[J,J];exact h
 ·obtain⟨y,r,rfl⟩:=BX.1 I;rw[J];exact u.inp y r
 ·show ((aa.doubts (sayOf n f b)).map (eh f b)).length<=_;rw[BR];exact u.ld
 ·show InP (sayOf n f b).1 0 7;rw[O];exact h.me
 ·show M.1=(sayOf n f b).1;rw[O,Y,e]
 ·obtain⟨y,r,rfl⟩:=BX.1 I;unfold eh;cases y.1==f.1&&y.2.1==f.2.1&&f.2.2.1==2 with
  |false=>exact z y r
  |true=>exact (z y r).put R
theorem ey.step {n:aa}{f:af}{b:Int}(h:ey n)(r:bA f)(u:InP b 0 7):ey (eo b n f):=by
 unfold eo;cases f.1==n.1 with
 |true=>exact h.refute r
 |false=>exact h.confirm r u
theorem yN {α A R:Type}(ds:List α)(g:α->α)(S:List α->Nat->A)(u:List α->Option R){step:(A->Option R)->A->Option R}
  (h:∀ (rec:A->Option R) (cur:List α) (i:Nat) (O:i<ds.length),cur.length=ds.length->cur[i]?=some ds[i]->step rec (S cur i)=rec (S (cur.set i (g ds[i])) (i+1)))
  (z:∀ (rec:A->Option R) (cur:List α),cur.length=ds.length->step rec (S cur ds.length)=u cur) {k:Nat} (J:ds.length<k):ae step k (S ds 0)=u (ds.map g):=by
 have:∀ (d i k:Nat) (cur:List α),i+d=ds.length->d<k->cur.length=ds.length->(∀ j,(r:j<ds.length)->cur[j]?=some (if j<i then g ds[j] else ds[j]))->ae step k (S cur i)=u (ds.map g):=by
  intro d;induction d with
  |zero =>
   intro i k cur O J H I;obtain⟨k,rfl⟩:∃ M,k=M+1:=⟨k-1,by omega⟩;have:i=ds.length:=by omega
   subst this;show step (ae step k) _=_;rw[z _ _ H];congr 1;refine List.ext_getElem? λj=>?_
   rw[List.getElem?_map];by_cases r:j<ds.length
   ·rw[I j r,if_pos r,BP r];rfl
   ·rw[CY (by omega),CY (by omega)];rfl
  |succ d Y =>
   intro i k cur O J H I;obtain⟨k,rfl⟩:∃ M,k=M+1:=⟨k-1,by omega⟩;have y:i<ds.length:=by omega
   show step (ae step k) _=_;rw[h (ae step k) cur i y H (by rw[I i y,if_neg (by omega)])];refine Y (i+1) k _ (by omega) (by omega) (by rw[C7,H]) λj r=>?_
   rw[List.getElem?_set];by_cases e:i=j
   ·subst e;rw[if_pos rfl,if_pos (by omega),if_pos (by omega)]
   ·rw[if_neg e,I j r];by_cases X:j<i
    ·rw[if_pos X,if_pos (by omega)]
    ·rw[if_neg X,if_neg (by omega)]
 exact this ds.length 0 k ds (by omega) J rfl (λj r=>by rw[if_neg (by omega),BP r])
theorem sX {α:Type}{cur:List α}{i:Nat}{x:α}(h:cur[i]?=some x):cur.set i x=cur:=by
 obtain⟨r,e⟩:=List.getElem?_eq_some_iff.1 h;rw[<- e,List.set_getElem_self]
theorem sY {by_:List Int}{b:Int}{m:Nat}(u:m<=by_.length)(r:by_.length<=8){R:Type}(G:List Int->Option R) :
  (bif decide ((0:Int)<=0)&&decide ((0:Int)<=(m:Int))&&decide ((m:Int)<=(BE by_:Int))&&true then (bif decide ((BE ([]:List Int)+BE ((by_.take (BG (m:Int))).drop (BG 0)))*8<=ak) then (bif decide ((BE ([]++((by_.take (BG (m:Int))).drop (BG 0)))+BE ([b]))*8<=ak) then (bif decide ((0:Int)<=(m:Int))&&decide ((m:Int)<=(BE by_:Int))&&decide ((BE by_:Int)<=(BE by_:Int))&&true then (bif decide ((BE (([]++((by_.take (BG (m:Int))).drop (BG 0)))++([b]))+BE ((by_.take (BG (BE by_:Int))).drop (BG (m:Int))))*8<=ak) then G ((([]++((by_.take (BG (m:Int))).drop (BG 0)))++([b]))++((by_.take (BG (BE by_:Int))).drop (BG (m:Int)))) else none) else none) else none) else none) else none)=G (by_.take m++[b]++by_.drop m):=by
 rw[decide_eq_true (by omega:(0:Int)<=0),decide_eq_true (by omega:(0:Int)<=(m:Int)),decide_eq_true (by omega:(m:Int)<=(BE by_:Int)),decide_eq_true (by omega:(BE by_:Int)<=(BE by_:Int))];simp only[BH,Ca,BY,BQ,Ce,CX,cond_true];have z:(by_.take m).length=m:=by rw[BV];omega
 have y:(by_.drop m).length=by_.length-m:=CA;rw[szb _ _ _ (by omega) (by simp only[BN];omega),szb _ _ _ (by omega) (by simp only[BJ,BN];omega),szb _ _ _ (by omega) (by simp only[BS,BJ,BN];omega)];rfl
theorem xm (K:Nat)(n:aa)(f:af)(b:Int)(hd:∀ d∈aa.doubts n,mg d.2.2.2)(hl:(aa.doubts n).length<=1048576)(hK:1048577<K):Q159.f K (n,f,b,())=some ((kR n f b,()),()):=by
 simp only[Q159.f,Q159.pre];refine yN (step:=λrec a=>Q159.s0 K (n,f,b,()) (Q159.l1 K (n,f,b,()) rec) rec a) (aa.doubts n) (eh f b) (λu i=>((i:Int),u)) (λu=>some ((iT n (aa.table n) (aa.cast n) u,()),())) ?_ ?_ (by omega)
 ·intro rec u i hi X I;have M:i<u.length:=by omega
  have a2:u[i]=(aa.doubts n)[i]:=by
   rw[BP M]at I;exact Option.some.inj I
  have R:=hd _ (BF hi);simp only[Q159.s0,zcp8];rw[bq (by omega:(i:Int)<(BE u:Int)),ag M,ar i (by omega),BH,ag M,a2];simp only[cond_true,BD];generalize ad:(aa.doubts n)[i]=d at R I ⊢;have y:rec (((i+1:Nat):Int),u)=rec (((i+1:Nat):Int),u.set i d):=by rw[sX I]
  unfold eh;by_cases h1:d.1=f.1
  case neg =>
   rw[show (d.1 != f.1)=true by simpa using h1,show (d.1==f.1)=false by simpa using h1];exact y
  by_cases h2:d.2.1=f.2.1
  case neg =>
   rw[show (d.1 != f.1)=false by simpa using h1,show (d.2.1 != f.2.1)=true by simpa using h2,show (d.2.1==f.2.1)=false by simpa using h2,DB];exact y
  by_cases h3:f.2.2.1=2
  case neg =>
   rw[show (d.1 != f.1)=false by simpa using h1,show (d.2.1 != f.2.1)=false by simpa using h2,show (f.2.2.1 != 2)=true by simpa using h3,show (f.2.2.1==2)=false by simpa using h3,DB];exact y
  rw[show (d.1 != f.1)=false by simpa using h1,show (d.2.1 != f.2.1)=false by simpa using h2,show (f.2.2.1 != 2)=false by simpa using h3,show (d.1==f.1)=true by simpa using h1,show (d.2.1==f.2.1)=true by simpa using h2,show (f.2.2.1==2)=true by simpa using h3];simp only[cond_false,CX,cond_true];have a0:=R.len;have a1:∀ m:Nat,m<=d.2.2.2.length->(∀ j,(J:j<d.2.2.2.length)->j<m->d.2.2.2[j]<b)->(∀ j,(J:j<d.2.2.2.length)->m<=j->b<d.2.2.2[j])->d.2.2.2.take m++[b]++d.2.2.2.drop m=bD (λx:Int=>x) b d.2.2.2:=λm Y lo hi=>jh (k:=λx:Int=>x) Y lo hi
  have:=ch (step:=λr a=>Q159.s1 K (n,f,b,()) rec r a) d.2.2.2.length (λj=>((i:Int),(j:Int),u,d.1,d.2.1,d.2.2.1,d.2.2.2)) (λj=>∃ h:j<d.2.2.2.length,¬ d.2.2.2[j]<b)
   (rec (((i+1:Nat):Int),u.set i (d.1,d.2.1,d.2.2.1,d.2.2.2.take d.2.2.2.length++[b]++d.2.2.2.drop d.2.2.2.length)))
   (λj=>if h:j<d.2.2.2.length then (if d.2.2.2[j]=b then rec (((i+1:Nat):Int),u) else rec (((i+1:Nat):Int),u.set i (d.1,d.2.1,d.2.2.1,d.2.2.2.take j++[b]++d.2.2.2.drop j))) else none) ?_ ?_ d.2.2.2.length K 0 (by omega) (by omega)
  ·rcases this with ⟨a5,he⟩|⟨j,_,J,⟨Z,a9⟩,a3,he⟩
   ·refine Ct he ?_;rw[a1 _ (BT _) (λj J _=>by
     by_cases O:d.2.2.2[j]<b
     ·exact O
     ·exact absurd ⟨J,O⟩ (a5 j (BU _) J)) (λj J Y=>by omega)]
   ·refine Ct he ?_;rw[dif_pos Z];have lo:∀ m,(Y:m<d.2.2.2.length)->m<j->d.2.2.2[m]<b:=λm Y a4=>by
     by_cases O:d.2.2.2[m]<b
     ·exact O
     ·exact absurd ⟨Y,O⟩ (a3 m (BU _) a4)
    by_cases H:d.2.2.2[j]=b
    ·rw[if_pos H,<- ku (k:=λx:Int=>x) R.1 Z H];rw[show d.2.2.2.set j b=d.2.2.2 from sX (by rw[BP Z,H])];exact y
    ·rw[if_neg H,a1 j (by omega) lo (λm Y a6=>by
      rcases CL a6 with h4|rfl
      ·have:=dn.1 R.1 j m (by omega) Y h4;omega
      ·omega)]
  ·intro r j J;simp only[Q159.s1];rw[bq (by omega:(j:Int)<(BE d.2.2.2:Int)),ag J,ar j (by omega)];simp only[cond_true,BD];by_cases O:d.2.2.2[j]<b
   ·left;refine⟨λ⟨_,h⟩=>h O,?_⟩;rw[decide_eq_true O];rfl
   ·right;refine⟨⟨J,O⟩,?_⟩;rw[decide_eq_false O,show ((j:Int)==(BE d.2.2.2:Int))=false by simp;omega,dif_pos J];simp only[cond_false];by_cases H:d.2.2.2[j]=b
    ·rw[if_pos H,show (d.2.2.2[j] != b)=false by simpa using H,ar i (by omega)];rfl
    ·rw[if_neg H,show (d.2.2.2[j] != b)=true by simpa using H];simp only[cond_true];refine (sY (m:=j) (b:=b) (Nat.le_of_lt J) a0 (λz=>(idx u (i:Int)).bind λ_=>(idx u (BG (i:Int):Nat)).bind λ_=>rec (wr .i64 ((i:Int)+1),u.set (BG (i:Int)) (d.1,(d.2.1,(d.2.2.1,z)))))).trans ?_;rw[BH,ag M,ar i (by omega)];rfl
  ·intro r;simp only[Q159.s1];rw[aQ];simp only[cond_false,beq_self_eq_true,cond_true];refine (sY (b:=b) (BT _) a0 (λz=>(idx u (i:Int)).bind λ_=>(idx u (BG (i:Int):Nat)).bind λ_=>rec (wr .i64 ((i:Int)+1),u.set (BG (i:Int)) (d.1,(d.2.1,(d.2.2.1,z)))))).trans ?_;rw[BH,ag M,ar i (by omega)];rfl
 ·intro rec u X;simp only[Q159.s0,zcp8];rw[<- X,aQ];rfl
theorem yO (K:Nat)(n:aa)(f:af)(h:ey n)(I:bA f)(H:1048577<K):Q158.f K (n,f,())=some ((fI n f,()),()):=by
 simp only[Q158.f,zcp4];have r:=cD h.say.table h.has;obtain⟨o,J,M⟩:=fy K (aa.table n) n.1 h.say.lt H;rw[show Q16.f K (n.2.2.2.2.2.2.2.2.1,n.1,())=_ from M];simp only[BD];cases J with
 |no u=>exact absurd h.has (λ⟨g,O,e⟩=>u g O e)
 |at_ j z e =>
  simp only;rw[show idx n.2.2.2.2.2.2.2.2.1 ((j:Nat):Int)=some (aa.table n)[j] from ag z,gR h.say.table.2 (BF z) r.2.2 (by rw[e,r.2.1])];simp only[BD];rw[pG];obtain⟨_,⟨R,X⟩,_⟩:=I;simp only[rb,BD,fI];cases decide (bR f (aB (aa.table n) n.1)) with
  |false=>rfl
  |true =>
   simp only[BM,cond_false,CS];by_cases y:f.2.1<999
   ·rw[decide_eq_false (by omega:¬ f.2.1>=999),decide_eq_true y,aE (by omega) (by omega)];simp only[cond_false,cond_true];refine (congrArg (λo=>CI o _) (pH K (im n (f.2.1+1)) (n.1,f.2.1+1,1,n.2.2.2.1) n.1 (h.say.inc _) H)).trans ?_;rfl
   ·rw[decide_eq_true (by omega:f.2.1>=999),decide_eq_false y];rfl
theorem uX (K:Nat)(n:aa)(t:List af)(b:Int)(h:ey n)(I:∀ f∈t,bA f)(J:t.length<=1048576)(H:InP b 0 7)(y:1048577<K):Q160.f K (n,t,b,())=some ((jk n t b,()),()):=by
 refine kQ (step:=λrec a=>Q160.s0 K (n,t,b,()) rec a) t (eo b) ey (λm i=>((i:Int),m.1,m.2.1,m.2.2.1,m.2.2.2.1,m.2.2.2.2.1,m.2.2.2.2.2.1,m.2.2.2.2.2.2.1,m.2.2.2.2.2.2.2.1,m.2.2.2.2.2.2.2.2.1,m.2.2.2.2.2.2.2.2.2.1,m.2.2.2.2.2.2.2.2.2.2.1.1,m.2.2.2.2.2.2.2.2.2.2.1.2.1,m.2.2.2.2.2.2.2.2.2.2.1.2.2.1,m.2.2.2.2.2.2.2.2.2.2.1.2.2.2,m.2.2.2.2.2.2.2.2.2.2.2.1,m.2.2.2.2.2.2.2.2.2.2.2.2.1.1,m.2.2.2.2.2.2.2.2.2.2.2.2.1.2.1,m.2.2.2.2.2.2.2.2.2.2.2.2.1.2.2.1,m.2.2.2.2.2.2.2.2.2.2.2.2.1.2.2.2,m.2.2.2.2.2.2.2.2.2.2.2.2.2.1,m.2.2.2.2.2.2.2.2.2.2.2.2.2.2)) (λm=>some ((m,()),())) n h ?_ ?_ (by omega)
 ·intro rec m i z r;have u:=I _ (BF z);refine⟨?_,r.step u H⟩;simp only[Q160.s0,zc286a0,zc3ec45];rw[bq (by omega:(i:Int)<(BE t:Int)),ag z,ar i (by omega)];simp only[cond_true,BD];generalize t[i]=f at u ⊢;unfold eo;cases f.1==m.1 with
  |true =>
   simp only[cond_true];refine (congrArg (λo=>CI o _) (yO K m f r u y)).trans ?_;rfl
  |false =>
   simp only[cond_false];refine (congrArg (λo=>CI o _) (pH K m f b r.say y)).trans ?_;simp only[BD];rw[xm K (sayOf m f b) f b (mh H r.by_) (ji r.say u).ld y];rfl
 ·intro rec m r;simp only[Q160.s0,zc286a0,zc3ec45];rw[aQ];rfl
def dv {α:Type}(r:α->α->Bool)(x:α):List α->List α->List α
 |[],B=>x::B
 |y::A,B=>bif r x y then dv r x A (y::B) else (y::A).reverse++x::B
def cS {α:Type}(r:α->α->Bool):List α->List α->List α
 |done,[]=>done
 |done,x::u=>cS r (dv r x done.reverse []) u
theorem oZ {α:Type}(r:α->α->Bool)(x:α):∀ (A B C:List α),dv r x A (B++C)=dv r x A B++C
 |[],B,C=>rfl
 |y::A,B,C=>by
  simp only[dv];cases r x y with
  |true=>exact oZ r x A (y::B) C
  |false=>simp
theorem o6 {α:Type}(r:α->α->Bool)(x:α):∀ (A B:List α),(dv r x A B).length=A.length+B.length+1
 |[],B=>by simp[dv]
 |y::A,B=>by
  simp only[dv];cases r x y with
  |true=>simp only[cond_true];rw[o6 r x A (y::B)];simp;omega
  |false=>simp;omega
theorem mW {α:Type}(r:α->α->Bool)(x:α):∀ (A B:List α),(dv r x A B).Perm (x::(A.reverse++B))
 |[],B=>by simp[dv]
 |y::A,B=>by
  simp only[dv];cases r x y with
  |true=>exact (mW r x A (y::B)).trans (by simp)
  |false=>simp only[cond_false];exact DI
theorem mi {α:Type}(r:α->α->Bool):∀ (xs done:List α),(cS r done xs).Perm (done++xs)
 |[],done=>by simp[cS]
 |x::xs,done=>by
  simp only[cS];refine (mi r xs _).trans ?_;have:=mW r x done.reverse [];simp only[B3,BO]at this;exact (this.append_right xs).trans (by simpa using (DI (a:=x) (l₁:=done) (l₂:=xs)).symm)
def jT {α:Type}(r:α->α->Bool)(xs:List α):Prop:=xs.Pairwise λa b=>r b a=false
theorem lh {α:Type}(r:α->α->Bool)(I:∀ a b c,r a b=false->r b c=false->r a c=false)(x:α) :
  ∀ (A B:List α),jT r A.reverse->dv r x A B=(A.reverse.filter λy=>!r x y)++x::((A.reverse.filter λy=>r x y)++B)
 |[],B,_=>rfl
 |y::A,B,h=>by
  simp only[dv];have M:jT r A.reverse:=by
   unfold jT at h ⊢;rw[CR,CP]at h;exact h.1
  cases z:r x y with
  |true =>
   simp only[cond_true];rw[lh r I x A (y::B) M];simp[z,CV]
  |false =>
   have H:∀ a∈A.reverse,r x a=false:=λa u=>by
    unfold jT at h;rw[CR,CP]at h;exact I x y a z (h.2.2 a u y (by simp))
   simp only[cond_false];have O:(y::A).reverse.filter (λy=>!r x y)=(y::A).reverse:=CF.2 λa u=>by
    rw[CR,CN,CD]at u;rcases u with u|rfl
    ·rw[H a u];rfl
    ·rw[z];rfl
   have J:(y::A).reverse.filter (λy=>r x y)=[]:=CW.2 λa u=>by
    rw[CR,CN,CD]at u;rcases u with u|rfl
    ·rw[H a u];simp
    ·rw[z];simp
   rw[O,J];rfl
theorem vL {α:Type}(r:α->α->Bool)(H:∀ a b c,r a b=false->r b c=false->r a c=false)(u:∀ a b,r a b=true->r b a=false)(x:α)(A:List α)(h:jT r A):jT r (dv r x A.reverse []):=by
 rw[lh r H x A.reverse [] (by rwa [B3])];unfold jT at h ⊢;simp only[B3,BO];rw[CP];refine⟨h.filter _,?_,?_⟩
 ·rw[BZ];refine⟨λa y=>?_,h.filter _⟩;exact u _ _ (by simpa using (BK.1 y).2)
 ·intro a y b z;have I:r x a=false:=by simpa using (BK.1 y).2
  rcases CH.1 z with rfl|z
  ·exact I
  ·have J:r x b=true:=by simpa using (BK.1 z).2
   exact H b x a (u _ _ J) I
theorem mX {α:Type}(r:α->α->Bool)(y:∀ a b c,r a b=false->r b c=false->r a c=false)(u:∀ a b,r a b=true->r b a=false):∀ (xs done:List α),jT r done->jT r (cS r done xs)
 |[],done,h=>h
 |x::xs,done,h=>mX r y u xs _ (vL r y u x done h)
theorem oi {α:Type}(M:α->α->Bool):∀ {u H:List α},u.Perm H->jT M u->H.Pairwise (λa b=>M a b=true)->u=H
 |u,[],r,_,_=>r.eq_nil
 |[],z::H,r,_,_=>absurd r.symm.eq_nil (by simp)
 |y::u,z::H,r,I,O=>by
  unfold jT at I;rw[BZ]at I O;have e:y=z:=by
   rcases CH.1 (r.mem_iff.1 (DF ..)) with h|h
   ·exact h
   ·have R:=O.1 y h;rcases CH.1 (r.symm.mem_iff.1 (DF ..)) with J|J
    ·exact J.symm
    ·rw[I.1 z J]at R;cases R
  subst e;rw[oi M r.cons_inv I.2 O.2]
abbrev SoR (α:Type):=Unit×(List α×Unit)
theorem vM {α R:Type}(u:α->α->Bool)(i:Int)(r:List α×Int->Option R){step:(List α×Int×Int->Option R)->List α×Int×Int->Option R}
  (h:∀ (rec:List α×Int×Int->Option R) (A:List α) (y x:α) (B:List α),A.length+B.length<=1048576->step rec (A++y::x::B,i,((A.length+1:Nat):Int))=bif u x y then rec (A++x::y::B,i,(A.length:Int)) else r (A++y::x::B,wr .i64 (i+1)))
  (X:∀ (rec:List α×Int×Int->Option R) (M:List α),step rec (M,i,0)=r (M,wr .i64 (i+1))) :
  ∀ (A B:List α) (x:α) (k:Nat),A.length+B.length<=1048576->A.length<k->ae step k (A.reverse++x::B,i,(A.length:Int))=r (dv u x A B,wr .i64 (i+1)):=by
 intro A;induction A with
 |nil =>
  intro B x k I z;obtain⟨k,rfl⟩:∃ H,k=H+1:=⟨k-1,by simp at z;omega⟩;exact X (ae step k) (x::B)
 |cons y A O =>
  intro B x k I z;simp only[BJ]at z I;obtain⟨k,rfl⟩:∃ H,k=H+1:=⟨k-1,by omega⟩;have J:=h (ae step k) A.reverse y x B (by simp;omega);simp only[Cg]at J;show step (ae step k) _=_;rw[CR,CE];simp only[BJ,DJ,BQ,dv];rw[J];cases u x y with
  |true=>exact O (y::B) x k (by simp;omega) (by omega)
  |false=>simp
theorem uk {α:Type}(r:α->α->Bool){step:(List α×Int->Option (SoR α))->List α×Int->Option (SoR α)}(n:Nat)(O:n<=1048576)
  (h:∀ (rec:List α×Int->Option (SoR α)) (done:List α) (x:α) (xs:List α),done.length+1+xs.length=n->step rec (done++x::xs,(done.length:Int))=rec (dv r x done.reverse xs,wr .i64 ((done.length:Int)+1)))
  (M:∀ (rec:List α×Int->Option (SoR α)) (I:List α) (i:Int),(n:Int)<=i->step rec (I,i)=some ((),(I,()))) :
  ∀ (xs done:List α) (k:Nat),done.length+xs.length=n->xs.length<k->ae step k (done++xs,(done.length:Int))=some ((),(cS r done xs,())):=by
 intro xs;induction xs with
 |nil =>
  intro done k u H;obtain⟨k,rfl⟩:∃ y,k=y+1:=⟨k-1,by omega⟩;show step (ae step k) _=_;rw[M _ _ _ (by simp at u;omega)];simp[cS]
 |cons x xs J =>
  intro done k u H;simp only[BJ]at H u;obtain⟨k,rfl⟩:∃ y,k=y+1:=⟨k-1,by omega⟩;show step (ae step k) _=_;rw[h _ _ _ _ (by omega),ar _ (by omega)];have e:dv r x done.reverse xs=dv r x done.reverse []++xs:=oZ r x done.reverse [] xs;have z:(dv r x done.reverse []).length=done.length+1:=by rw[o6];simp
  rw[e,<- z];exact J _ k (by rw[z];omega) (by omega)
theorem yP {α:Type}(u:α->α->Bool){step:(List α×Int->Option (SoR α))->List α×Int->Option (SoR α)}(xs:List α)(I:xs.length<=1048576)
  (h:∀ (rec:List α×Int->Option (SoR α)) (done:List α) (x:α) (r:List α),done.length+1+r.length=xs.length->step rec (done++x::r,(done.length:Int))=rec (dv u x done.reverse r,wr .i64 ((done.length:Int)+1)))
  (H:∀ (rec:List α×Int->Option (SoR α)) (z:List α) (i:Int),(xs.length:Int)<=i->step rec (z,i)=some ((),(z,()))) {k:Nat} (y:xs.length<k) :
  ae step k (xs,1)=some ((),(cS u [] xs,())):=by
 cases xs with
 |nil =>
  obtain⟨k,rfl⟩:∃ J,k=J+1:=⟨k-1,by simp at y;omega⟩;exact H (ae step k) [] 1 (by simp)
 |cons x xs =>
  simp only[BJ]at y;have:=uk u (xs.length+1) (by simpa using I) h H xs [x] k (by simp;omega) (by omega);exact this
theorem uY {α:Type}(A B:List α)(x:α):idx (A++x::B) (A.length:Int)=some x:=by
 rw[qq];simp
theorem sZ {α:Type}(A B:List α)(y x:α):idx (A++y::x::B) ((A.length+1:Nat):Int)=some x:=by
 rw[qq];simp[List.getElem?_append_right]
theorem uZ {α:Type}(A B:List α)(x v:α):(A++x::B).set A.length v=A++v::B:=by simp
theorem ta {α:Type}(A B:List α)(y x v:α):(A++y::x::B).set (A.length+1) v=A++y::v::B:=by
 simp[DA]
theorem ul {α R:Type}(P:α->Prop)(u:α->α->Bool)(i:Int)(r:List α×Int->Option R){step:(List α×Int×Int->Option R)->List α×Int×Int->Option R}
  (h:∀ (rec:List α×Int×Int->Option R) (A:List α) (y x:α) (B:List α),P y->P x->A.length+B.length<=1048576->step rec (A++y::x::B,i,((A.length+1:Nat):Int))=bif u x y then rec (A++x::y::B,i,(A.length:Int)) else r (A++y::x::B,wr .i64 (i+1)))
  (h0:∀ (rec:List α×Int×Int->Option R) (Y:List α),step rec (Y,i,0)=r (Y,wr .i64 (i+1))) :
  ∀ (A B:List α) (x:α) (k:Nat),(∀ y∈A,P y)->P x->A.length+B.length<=1048576->A.length<k->ae step k (A.reverse++x::B,i,(A.length:Int))=r (dv u x A B,wr .i64 (i+1)):=by
 intro A;induction A with
 |nil =>
  intro B x k I H O J;obtain⟨k,rfl⟩:∃ M,k=M+1:=⟨k-1,by simp at J;omega⟩;exact h0 (ae step k) (x::B)
 |cons y A Z =>
  intro B x k I H O J;simp only[BJ]at J O;obtain⟨k,rfl⟩:∃ M,k=M+1:=⟨k-1,by omega⟩;have X:=h (ae step k) A.reverse y x B (I y (by simp)) H (by simp;omega);simp only[Cg]at X;show step (ae step k) _=_;rw[CR,CE];simp only[BJ,DJ,BQ,dv];rw[X];cases u x y with
  |true=>exact Z (y::B) x k (λz hz=>I z (by simp[hz])) H (by simp;omega) (by omega)
  |false=>simp
theorem tc {α:Type}(P:α->Prop)(r:α->α->Bool){step:(List α×Int->Option (SoR α))->List α×Int->Option (SoR α)}(n:Nat)(hn:n<=1048576)
  (h:∀ (rec:List α×Int->Option (SoR α)) (done:List α) (x:α) (xs:List α),(∀ y∈done,P y)->P x->done.length+1+xs.length=n->step rec (done++x::xs,(done.length:Int))=rec (dv r x done.reverse xs,wr .i64 ((done.length:Int)+1)))
  (h0:∀ (rec:List α×Int->Option (SoR α)) (Y:List α) (i:Int),(n:Int)<=i->step rec (Y,i)=some ((),(Y,()))) :
  ∀ (xs done:List α) (k:Nat),(∀ y∈done,P y)->(∀ y∈xs,P y)->done.length+xs.length=n->xs.length<k->ae step k (done++xs,(done.length:Int))=some ((),(cS r done xs,())):=by
 intro xs;induction xs with
 |nil =>
  intro done k J u I X;obtain⟨k,rfl⟩:∃ M,k=M+1:=⟨k-1,by omega⟩;show step (ae step k) _=_;rw[h0 _ _ _ (by simp at I;omega)];simp[cS]
 |cons x xs Z =>
  intro done k J u I X;simp only[BJ]at X I;obtain⟨k,rfl⟩:∃ M,k=M+1:=⟨k-1,by omega⟩;show step (ae step k) _=_;rw[h _ _ _ _ J (u x (by simp)) (by omega),ar _ (by omega)];have e:dv r x done.reverse xs=dv r x done.reverse []++xs:=oZ r x done.reverse [] xs;have R:(dv r x done.reverse []).length=done.length+1:=by rw[o6];simp
  rw[e,<- R];refine Z _ k (λz O=>?_) (λz O=>u z (by simp[O])) (by rw[R];omega) (by omega);have H:=(mW r x done.reverse []).mem_iff.1 O;simp only[B3,BO,CH]at H;rcases H with rfl|H
  ·exact u z (by simp)
  ·exact J z H
theorem xn {α:Type}(P:α->Prop)(u:α->α->Bool){step:(List α×Int->Option (SoR α))->List α×Int->Option (SoR α)}(xs:List α)(I:∀ y∈xs,P y)(R:xs.length<=1048576)
  (h:∀ (rec:List α×Int->Option (SoR α)) (done:List α) (x:α) (r:List α),(∀ y∈done,P y)->P x->done.length+1+r.length=xs.length->step rec (done++x::r,(done.length:Int))=rec (dv u x done.reverse r,wr .i64 ((done.length:Int)+1)))
  (J:∀ (rec:List α×Int->Option (SoR α)) (M:List α) (i:Int),(xs.length:Int)<=i->step rec (M,i)=some ((),(M,()))) {k:Nat} (H:xs.length<k) :
  ae step k (xs,1)=some ((),(cS u [] xs,())):=by
 cases xs with
 |nil =>
  obtain⟨k,rfl⟩:∃ O,k=O+1:=⟨k-1,by simp at H;omega⟩;exact J (ae step k) [] 1 (by simp)
 |cons x xs =>
  simp only[BJ]at H;have:=tc P u (xs.length+1) (by simpa using R) h J xs [x] k (λy z=>I y (by simpa using .inl (by simpa using z))) (λy z=>I y (by simp[z])) (by simp;omega) (by omega);exact this
def ltZ (a b:Int):Bool:=decide (a<b)
theorem AX (K:Nat)(a b:Int):Q89.f K (a,b,())=some ((ltZ a b,()),()):=by
 simp only[Q89.f,Q33.f,ltZ];simp
theorem yQ (K:Nat)(xs:List Int)(H:Int×Int×Unit->Option Int)(I:Int->Int->Bool)(P:Int->Prop)(Z:∀ y∈xs,P y)(hφ:∀ y z,P y->P z->∃ c,H (y,z,())=some c/\decide (c<0)=I y z)(R:xs.length<=1048576)(hK:1048577<K) :
  Q83.f K (xs,0,(xs.length:Int),H,())=some ((),(cS I [] xs,())):=by
 refine xn P (step:=λrec a=>Q83.s0 K (xs,0,(xs.length:Int),H,()) (Q83.l1 K (xs,0,(xs.length:Int),H,()) rec) rec a) I xs Z R ?_ ?_ (by omega)
 ·intro rec done x r J O hl;simp only[Q83.s0];rw[decide_eq_true (by omega:((done.length:Int))<(xs.length:Int))];simp only[cond_true];have:=ul P I (done.length:Int) rec (step:=λu a=>Q83.s1 K (xs,0,(xs.length:Int),H,()) rec u a) ?_ ?_ done.reverse r x K (λy M=>J y (by simpa using M)) O (by simp;omega) (by simp;omega)
  ·rw[B3,Cg]at this;exact this
  ·intro u A y z B M hz a0;simp only[Q83.s1];have X:wr .i64 (((A.length+1:Nat):Int)-1)=(A.length:Int):=(aE (by omega) (by omega)).trans (by omega);rw[decide_eq_true (by omega:((A.length+1:Nat):Int)>0)];obtain⟨c,hc,J⟩:=hφ z y hz M;simp only[cond_true,X,BH,sZ,uY,BD,hc,J,ta,uZ]
  ·intro u Y;simp only[Q83.s1];rw[decide_eq_false (by omega:¬ (0:Int)>0)];rfl
 ·intro rec Y i hi;simp only[Q83.s0];rw[decide_eq_false (by omega:¬ i<(xs.length:Int))];rfl
theorem yR (K:Nat)(xs:List Int)(u:Int×Int×Unit->Option Int)(H:Int->Int->Bool)(P:Int->Prop)(I:∀ y∈xs,P y)(hφ:∀ y z,P y->P z->∃ c,u (y,z,())=some c/\decide (c<0)=H y z)(R:xs.length<=19)(M:1048577<K) :
  Q85.f K (xs,u,())=some ((),(cS H [] xs,())):=by
 simp only[Q85.f];have:Q84.f K (xs,(xs.length:Int),u,())=some ((),(cS H [] xs,())):=by
  obtain⟨k,rfl⟩:∃ J,K=J+1:=⟨K-1,by omega⟩;show Q84.s0 _ _ _ _ _=_;simp only[Q84.s0];rw[decide_eq_false (by omega:¬ (20:Int)<=(xs.length:Int))];simp only[cond_false];rw[yQ (k+1) xs u H P I hφ (by omega) M];simp only[BD];have O:∀ (r:Q84.A1->Option Q84.Res),Q84.s1 (k+1) (xs,(xs.length:Int),u,()) (Q84.l2 (k+1) (xs,(xs.length:Int),u,()) r) r (cS H [] xs,20)=some ((),(cS H [] xs,())):=by
   intro r;simp only[Q84.s1];rw[decide_eq_false (by omega:¬ (20:Int)<(xs.length:Int))];rfl
  exact O _
 rw[this];rfl
theorem yS (K:Nat)(xs:List Int)(H:xs.length<=1048576)(X:1048577<K) :
  Q90.f K (xs,0,(xs.length:Int),())=some ((),(cS ltZ [] xs,())):=by
 refine yP (step:=λrec a=>Q90.s0 K (xs,0,(xs.length:Int),()) (Q90.l1 K (xs,0,(xs.length:Int),()) rec) rec a) ltZ xs H ?_ ?_ (by omega)
 ·intro rec done x r O;simp only[Q90.s0];rw[decide_eq_true (by omega:((done.length:Int))<(xs.length:Int))];simp only[cond_true];have:=vM ltZ (done.length:Int) rec (step:=λu a=>Q90.s1 K (xs,0,(xs.length:Int),()) rec u a) ?_ ?_ done.reverse r x K (by simp;omega) (by simp;omega)
  ·rw[B3,Cg]at this;exact this
  ·intro u A y z B M;simp only[Q90.s1];have I:wr .i64 (((A.length+1:Nat):Int)-1)=(A.length:Int):=(aE (by omega) (by omega)).trans (by omega);rw[decide_eq_true (by omega:((A.length+1:Nat):Int)>0)];simp only[cond_true,I,BH,sZ,uY,BD,ta,uZ];rw[show Q89.f K (z,y,())=_ from AX K z y];rfl
  ·intro u J;simp only[Q90.s1];rw[decide_eq_false (by omega:¬ (0:Int)>0)];rfl
 ·intro rec J i R;simp only[Q90.s0];rw[decide_eq_false (by omega:¬ i<(xs.length:Int))];rfl
theorem yT (K:Nat)(xs:List Int)(y:xs.length<=12)(H:1048577<K) :
  Q96.f K (xs,())=some ((),(cS ltZ [] xs,())):=by
 simp only[Q96.f,Q88.f];obtain⟨l,r⟩:∃ l:Int,Q87.f K (wr .u64 (xs.length:Int),())=some ((l,()),()):=by
  have e:wr .u64 (xs.length:Int)=(xs.length:Int):=by
   show IntKind.u64.wrap _=_;have u:IntKind.u64.wrap (xs.length:Int)=(xs.length:Int) % 18446744073709551616:=by simp[IntKind.wrap,IntKind.bits,IntKind.signed]
   rw[u];omega
  rw[e];generalize J:xs.length=n at y;have:n=0\/n=1\/n=2\/n=3\/n=4\/n=5\/n=6\/n=7\/n=8\/n=9\/n=10\/n=11\/n=12:=by omega
  rcases this with rfl|rfl|rfl|rfl|rfl|rfl|rfl|rfl|rfl|rfl|rfl|rfl|rfl
  ·exact⟨0,by kernel_rfl⟩
  ·exact⟨1,by kernel_rfl⟩
  ·exact⟨2,by kernel_rfl⟩
  ·exact⟨2,by kernel_rfl⟩
  ·exact⟨3,by kernel_rfl⟩
  ·exact⟨3,by kernel_rfl⟩
  ·exact⟨3,by kernel_rfl⟩
  ·exact⟨3,by kernel_rfl⟩
  ·exact⟨4,by kernel_rfl⟩
  ·exact⟨4,by kernel_rfl⟩
  ·exact⟨4,by kernel_rfl⟩
  ·exact⟨4,by kernel_rfl⟩
  ·exact⟨4,by kernel_rfl⟩
 rw[r];simp only[BD];have:Q95.f K (xs,0,(xs.length:Int),l,())=some ((),(cS ltZ [] xs,())):=by
  obtain⟨k,rfl⟩:∃ z,K=z+1:=⟨K-1,by omega⟩;have I:∀ (rec:Q95.A0->Option Q95.Res) (a:Q95.A0),Q95.s0 (k+1) (xs,0,(xs.length:Int),l,()) rec a=some ((),(cS ltZ [] xs,())):=by
   intro rec a;simp only[Q95.s0];have e:wr .i64 ((xs.length:Int)-0)=(xs.length:Int):=(aE (by omega) (by omega)).trans (by omega);rw[e,decide_eq_true (by omega:(xs.length:Int)<=12)];simp only[cond_true];rw[yS (k+1) xs (by omega) H];rfl
  exact I (λ_=>none) ()
 rw[this];rfl
def d6 (l:List aM)(i:Int):Int:=((l[i.toNat]?).map (·.2)).getD 0
def ltL (l:List aM)(a b:Int):Bool:=decide (d6 l b<d6 l a)
def lt2 (l:List aM)(a b:Int):Prop:=d6 l b<d6 l a\/(d6 l a=d6 l b/\a<b)
def co (n:Nat):List Int:=(List.range n).map λ (i:Nat)=>(i:Int)
def bB (l:List aM):List Int:=cS (ltL l) [] (co l.length)
theorem ip {n:Nat}{i:Int}:i∈co n<->0<=i/\i<n:=by
 unfold co;rw[BX];constructor
 ·rintro⟨j,hj,rfl⟩;have:=DQ.1 hj;omega
 ·rintro⟨h0,h1⟩;exact⟨i.toNat,DQ.2 (by omega),by omega⟩
theorem jl (n:Nat):(co n).Pairwise (·<·):=by
 unfold co;rw[B6];exact List.pairwise_lt_range.imp λh=>by omega
theorem dJ {l:List aM}{i:Nat}(h:i<l.length):d6 l (i:Int)=l[i].2:=by
 unfold d6;rw[BH,BP h];rfl
theorem td (l:List aM):∀ (xs done:List Int),done.Pairwise (lt2 l)->(∀ a∈done,∀ b∈xs,a<b)->xs.Pairwise (·<·)->(cS (ltL l) done xs).Pairwise (lt2 l)
 |[],done,h,_,_=>h
 |x::xs,done,h,H,O=>by
  have y:=BZ.1 O;have R:jT (ltL l) done:=h.imp λ {a b} M=>by
   unfold ltL;rw[decide_eq_false_iff_not];rcases M with z|⟨z,_⟩ <;> omega
  have e:=lh (ltL l) (λa b c z I=>by
   unfold ltL at z I ⊢;rw[decide_eq_false_iff_not]at z I ⊢;omega) x done.reverse [] (by rw[B3];exact R)
  rw[B3,BO]at e;simp only[cS];rw[e];refine td l xs _ ?_ ?_ y.2
  ·rw[CP,BZ];refine⟨h.filter _,⟨λb u=>?_,h.filter _⟩,λa r b u=>?_⟩
   ·have z:ltL l x b=true:=by simpa using (BK.1 u).2
    exact .inl (by simpa[ltL]using z)
   ·have z:ltL l x a=false:=by simpa using (BK.1 r).2
    have X:¬ d6 l a<d6 l x:=by simpa[ltL]using z
    have J:=H a (BK.1 r).1 x (by simp);rcases CH.1 u with rfl|u
    ·by_cases I:d6 l b<d6 l a
     ·exact .inl I
     ·exact .inr ⟨by omega,J⟩
    ·have I:ltL l x b=true:=by simpa using (BK.1 u).2
     have Y:d6 l b<d6 l x:=by simpa[ltL]using I
     exact .inl (by omega)
  ·intro a r b u;rcases CN.1 r with r|r
   ·exact H a (BK.1 r).1 b (by simp[u])
   ·rcases CH.1 r with rfl|r
    ·exact y.1 b u
    ·exact H a (BK.1 r).1 b (by simp[u])
theorem pK (l:List aM):(bB l).Pairwise (lt2 l):=td l _ [] List.Pairwise.nil (by simp) (jl _)
theorem mj (l:List aM):(bB l).Perm (co l.length):=by
 unfold bB;simpa using mi (ltL l) (co l.length) []
theorem iJ {l:List aM}{i:Int}:i∈bB l<->0<=i/\i<l.length:=by rw[(mj l).mem_iff,ip]
theorem xo (l:List aM):(bB l).length=l.length:=by rw[(mj l).length_eq];simp[co]
theorem um (l:List aM):(bB l).Nodup:=(mj l).nodup_iff.2 ((jl _).imp λh=>by omega)
def dk (T:List Int)(n:Nat):List Bool:=(co n).map λi=>decide (i∈T)
theorem fe (T:List Int)(n:Nat):(dk T n).length=n:=by simp[dk,co]
theorem iK (T:List Int){n i:Nat}(h:i<n):(dk T n)[i]'(by rw[fe];exact h)=decide ((i:Int)∈T):=by
 simp[dk,co]
theorem xp {T:List Int}{n b:Nat}(y:b<n):(dk T n).set b true=dk (T++[(b:Int)]) n:=by
 refine Cp (by rw[C7,fe,fe]) λi u r=>?_
 rw[fe]at r;rw[DK,iK _ r];by_cases h:b=i
 ·subst h;rw[if_pos rfl,iK _ r];simp
 ·rw[if_neg h,iK _ r];have:¬ (i:Int)=(b:Int):=by omega
  simp[this]
def pL (l:List aM)(T:List Int)(i:Nat)(r:Int):Prop :=
 (r=-1/\∀ j:Nat,j<i->(j:Int)∈T)\/(0<=r/\r<i/\r∉T/\∀ j:Nat,j<i->(j:Int)∉T->(j:Int)≠r->lt2 l r (j:Int))
theorem Ae (K:Nat)(l:List aM)(T:List Int)(hl:l.length<=1048576):∀ (d i k:Nat) (r:Int),i+d=l.length->d<k->pL l T i r ->
  ∃ b:Int,ae (λrec a=>Q166.s0 K (l,dk T l.length,()) rec a) k (r,(i:Int))=some ((b,()),())/\pL l T l.length b:=by
 intro d;induction d with
 |zero =>
  intro i k r hi hk Z;obtain⟨k,rfl⟩:∃ k',k=k'+1:=⟨k-1,by omega⟩;have:i=l.length:=by omega
  subst this;refine⟨r,?_,Z⟩;show Q166.s0 K (l,dk T l.length,()) _ _=_;simp only[Q166.s0,aQ];rfl
 |succ d ih =>
  intro i k r hi hk Z;obtain⟨k,rfl⟩:∃ k',k=k'+1:=⟨k-1,by omega⟩;have y:i<l.length:=by omega
  have J:∀ r,pL l T (i+1) r->∃ b:Int,ae (λrec a=>Q166.s0 K (l,dk T l.length,()) rec a) k (r,((i+1:Nat):Int))=some ((b,()),())/\pL l T l.length b:=λr h=>ih (i+1) k r (by omega) (by omega) h
  show ∃ b:Int,Q166.s0 K (l,dk T l.length,()) (ae (λrec a=>Q166.s0 K (l,dk T l.length,()) rec a) k) (r,(i:Int))=_/\_;generalize ae (λrec a=>Q166.s0 K (l,dk T l.length,()) rec a) k=REC at J ⊢;simp only[Q166.s0];rw[bq (by omega:(i:Int)<(BE l:Int)),ag (show i<(dk T l.length).length by rw[fe];exact y),iK T y,ar i (by omega)];simp only[cond_true,BD];by_cases O:(i:Int)∈T
  ·rw[decide_eq_true O];simp only[BM,cond_false];refine J r ?_;rcases Z with ⟨rfl,h⟩|⟨h0,h1,h2,X⟩
   ·refine .inl ⟨rfl,λj Y=>?_⟩;by_cases z:j=i
    ·subst z;exact O
    ·exact h j (by omega)
   ·refine .inr ⟨h0,by omega,h2,λj Y u I=>?_⟩;by_cases z:j=i
    ·subst z;exact absurd O u
    ·exact X j (by omega) u I
  ·rw[decide_eq_false O];simp only[B8,cond_true];rcases Z with ⟨rfl,h⟩|⟨h0,h1,h2,X⟩
   ·rw[show decide ((-1:Int)<0)=true from rfl];refine J (i:Int) (.inr ⟨by omega,by omega,O,λj Y u I=>?_⟩);exact absurd (h j (by omega)) u
   ·rw[decide_eq_false (by omega:¬ r<0)];obtain⟨b,rfl⟩:=BI h0;have H:b<l.length:=by omega
    simp only[cond_false];rw[ag y,ag H];simp only[BD];by_cases M:l[i].2>l[b].2
    ·rw[decide_eq_true M];refine J (i:Int) (.inr ⟨by omega,by omega,O,λj Y u I=>?_⟩);have z:j<i:=by omega
     have a1:j<l.length:=by omega
     by_cases R:(j:Int)=(b:Int)
     ·rw[R];exact .inl (by rw[dJ y,dJ H];exact M)
     ·have:=X j z u R;rcases this with h4|⟨h4,_⟩
      ·exact .inl (by rw[dJ H]at h4;rw[dJ y];omega)
      ·exact .inl (by rw[dJ H]at h4;rw[dJ y];omega)
    ·rw[decide_eq_false M];refine J (b:Int) (.inr ⟨by omega,by omega,h2,λj Y u I=>?_⟩);by_cases z:j=i
     ·subst z;by_cases a0:d6 l (b:Int)=d6 l (j:Int)
      ·exact .inr ⟨a0,h1⟩
      ·refine .inl ?_;rw[dJ y,dJ H]at *;omega
     ·exact X j (by omega) u I
theorem AY (K:Nat)(l:List aM)(n:Nat)(hl:l.length<=1048576)(hK:1048577<K):Q166.f K (l,dk ((bB l).take n) l.length,())=some ((((bB l)[n]?).getD (-1),()),()):=by
  obtain⟨b,e,Z⟩:=Ae K l ((bB l).take n) hl l.length 0 K (-1) (by omega) (by omega) (.inl ⟨rfl,λj z=>by omega⟩);have:b=((bB l)[n]?).getD (-1):=by
    by_cases I:n<(bB l).length
    · rw[BP I]
      show b=(bB l)[n];have hm:(bB l)[n]∉(bB l).take n:=λh=>by
        obtain⟨j,z,e⟩:=BL h;rw[BV]at z;rw[Ch]at e;have:=CM.1 (pK l) j n (by omega) I (by omega);rw[e]at this;rcases this with u|⟨_,u⟩ <;> omega
      have hr:=iJ.1 (BF I);obtain⟨m,r⟩:=BI hr.1;rcases Z with ⟨rfl,h⟩|⟨Y,R,y,h3⟩
      · have:=h m (by omega)
        rw[<- r]at this;exact absurd this hm
      · by_cases M:b=(bB l)[n]
        · exact M
        · exfalso
          have H:=h3 m (by omega) (by rw[<- r];exact hm) (by rw[<- r];exact λh=>M h.symm);rw[<- r]at H;have J:b∈bB l:=iJ.2 ⟨Y,R⟩;obtain⟨j,z,O⟩:=BL J;have X:n<j:=by
            rcases Ck j n with h|h|h
            · exact absurd (List.mem_take_iff_getElem.2 ⟨j,by omega,O⟩) y
            · subst h;exact absurd O.symm M
            · exact h
          have u:=CM.1 (pK l) n j I z X;rw[O]at u;rcases H with H|⟨H,h6⟩ <;> rcases u with u|⟨u,h7⟩ <;> omega
    · rw[CY (by omega)]
      show b=-1;rcases Z with ⟨rfl,_⟩|⟨Y,R,y,_⟩
      · rfl
      · exfalso
        rw[CB (by omega)]at y;exact y (iJ.2 ⟨Y,R⟩)
  rw[<- this];exact e
def bW (l:List aM):List Int:=(bB l).take 3
def gu (l:List aM)(i:Int):aM:=(l[i.toNat]?).getD ((0,0,0,false),0)
def dK (l:List aM)(T:List Int)(i:Int):aM:=bif decide (i∈T) then ((gu l i).1,(gu l i).2-1) else gu l i
def ei (l:List aM)(T:List Int)(n:Nat):List af:=((co n).filter λi=>decide (i∈T)).map λi=>(gu l i).1
def fV (l:List aM)(T:List Int)(n:Nat):List aM:=(co n).map (dK l T)
def dx (l:List aM)(T:List Int)(n:Nat):List aM:=(fV l T n).filter λx=>decide (x.2>0)
theorem cn {l:List aM}{i:Nat}(h:i<l.length):gu l (i:Int)=l[i]:=by
 unfold gu;rw[BH,BP h];rfl
theorem mY (n:Nat):co (n+1)=co n++[(n:Int)]:=by
 unfold co;rw[List.range_succ,Cr];rfl
theorem vN (l:List aM)(T:List Int)(n:Nat):ei l T (n+1)=ei l T n++(bif decide ((n:Int)∈T) then [(gu l (n:Int)).1] else []):=by
 unfold ei;rw[mY,CV,Cr,B9];cases decide ((n:Int)∈T) <;> rfl
theorem vO (l:List aM)(T:List Int)(n:Nat):dx l T (n+1)=dx l T n++(bif decide ((dK l T (n:Int)).2>0) then [dK l T (n:Int)] else []):=by
 unfold dx fV;rw[mY,Cr,CV,Cx,B9];cases decide ((dK l T (n:Int)).2>0) <;> rfl
theorem xq (l:List aM)(T:List Int)(n:Nat):(ei l T n).length<=n:=by
 unfold ei;rw[BR];refine BW (B7 _ _) ?_;simp[co]
theorem xt (l:List aM)(T:List Int)(n:Nat):(dx l T n).length<=n:=by
 unfold dx;refine BW (B7 _ _) ?_;simp[fV,co]
theorem Af (K:Nat)(l:List aM)(m:Int)(T:List Int)(I:l.length<=1048576)(H:cR l)(R:1048577<K) :
  Q167.l1 K (l,m,()) (dk T l.length,[],[],0)=some ((ei l T l.length,dx l T l.length,()),()):=by
 refine eV (step:=λrec a=>Q167.s1 K (l,m,()) rec a) l.length (λi=>(dk T l.length,ei l T i,dx l T i,(i:Int))) (some ((ei l T l.length,dx l T l.length,()),())) ?_ ?_ (by omega)
 ·intro rec i r;simp only[Q167.s1];have u:i<(dk T l.length).length:=by rw[fe];exact r
  have M:=xq l T i;have J:=xt l T i;obtain⟨X,O⟩:=(H.1 l[i] (BF r)).2;rw[bq (by omega:(i:Int)<(BE l:Int)),ag r,ag u,ar i (by omega),BH,ag u,iK T r,vN,vO,cn r];simp only[cond_true,BD];cases z:decide ((i:Int)∈T) with
  |true =>
   have y:dK l T (i:Int)=(l[i].1,l[i].2-1):=by unfold dK;rw[z,cn r];rfl
   rw[y];simp only[cond_true];rw[szb _ _ _ (by omega) (by simp;omega),aE (n:=l[i].2-1) (by omega) (by omega)];simp only[cond_true];cases decide (l[i].2-1>0) with
   |true =>
    simp only[cond_true];rw[szb _ _ _ (by omega) (by simp;omega)];rfl
   |false =>
    simp only[cond_false,BO]
  |false =>
   have y:dK l T (i:Int)=l[i]:=by unfold dK;rw[z,cn r];rfl
   rw[y];simp only[cond_false,BO];cases decide (l[i].2>0) with
   |true =>
    simp only[cond_true];rw[szb _ _ _ (by omega) (by simp;omega)];rfl
   |false =>
    simp only[cond_false,BO]
 ·intro rec;simp only[Q167.s1,aQ];rfl
theorem AZ (K:Nat)(l:List aM)(J:l.length<=1048576)(Y:cR l)(X:1048577<K):Q167.f K (l,3,())=some ((ei l (bW l) l.length,dx l (bW l) l.length,()),()):=by
 have u:∀ T,Q167.l1 K (l,3,()) (dk T l.length,[],[],0)=some ((ei l T l.length,dx l T l.length,()),()):=λT=>Af K l 3 T J Y X
 have go:∀ (d n k:Nat),n+d=3->d<k->ae (λrec a=>Q167.s0 K (l,3,()) (Q167.l1 K (l,3,())) rec a) k (dk ((bB l).take n) l.length,(n:Int))=some ((ei l (bW l) l.length,dx l (bW l) l.length,()),()):=by
  intro d;induction d with
  |zero =>
   intro n k hn Z;obtain⟨k,rfl⟩:∃ I,k=I+1:=⟨k-1,by omega⟩;have:n=3:=by omega
   subst this;exact u _
  |succ d ih =>
   intro n k hn Z;obtain⟨k,rfl⟩:∃ I,k=I+1:=⟨k-1,by omega⟩;have y:=ih (n+1) k (by omega) (by omega);show Q167.s0 K (l,3,()) (Q167.l1 K (l,3,())) (ae (λrec a=>Q167.s0 K (l,3,()) (Q167.l1 K (l,3,())) rec a) k) (dk ((bB l).take n) l.length,(n:Int))=_;generalize ae (λrec a=>Q167.s0 K (l,3,()) (Q167.l1 K (l,3,())) rec a) k=REC at y ⊢;simp only[Q167.s0];rw[decide_eq_true (by omega:(n:Int)<3),AY K l n J X,ar n (by omega)];simp only[cond_true,BD];by_cases r:n<(bB l).length
   ·rw[BP r];have M:=iJ.1 (BF r);have H:(bB l).take (n+1)=(bB l).take n++[(bB l)[n]]:=CQ r;rw[H]at y;simp only[DL];generalize (bB l)[n]=v at M y ⊢;obtain⟨b,rfl⟩:=BI M.1;have R:b<l.length:=by omega
    have z:b<(dk ((bB l).take n) l.length).length:=by rw[fe];exact R
    rw[decide_eq_false (by omega:¬ (b:Int)<0),ag z,BH,ag z,xp R];exact y
   ·rw[CY (by omega)];show Q167.l1 K (l,3,()) (dk ((bB l).take n) l.length,[],[],0)=_;rw[u,show (bB l).take n=bW l by unfold bW;rw[CB (by omega),CB (by omega)]]
 simp only[Q167.f,Q167.pre];rw[decide_eq_true (by omega:(0:Int)<=(BE l:Int)),show decide ((BE l:Int)*(1:Nat)<=ak)=true from decide_eq_true (by simp only[ak];omega),BH];simp only[decide_true,CX,cond_true];have h0:Cd l.length false=dk ((bB l).take 0) l.length:=by
  refine Cp (by rw[Cn,fe]) λi h1 O=>?_
  rw[fe]at O;rw[List.getElem_replicate,iK _ O];simp
 have:=go 3 0 K (by omega) (by omega);rw[<- h0]at this;exact this
theorem rV {a b:List Int}(r:a.Nodup)(u:b.Nodup)(h:∀ x,x∈a<->x∈b):a.Perm b:=by
 rw[List.perm_iff_count];intro x;rw[r.count,u.count];simp[h]
def cY (l:List aM):List Int:=(co l.length).filter λi=>decide (i∈bW l)
theorem un (l:List aM):cS ltZ [] (bW l)=cY l:=by
 have u:(bW l).Nodup:=(um l).sublist (List.take_sublist _ _);have r:((co l.length).filter λi=>decide (i∈bW l)).Nodup:=((jl l.length).imp (λh=>by omega:∀ {a b:Int},a<b->a≠b)).filter _;refine oi ltZ ?_ (mX ltZ (λa b c u r=>by
  unfold ltZ at u r ⊢;rw[decide_eq_false_iff_not]at u r ⊢;omega) (λa b h=>by
  unfold ltZ at h ⊢;rw[decide_eq_true_eq]at h;rw[decide_eq_false_iff_not];omega) (bW l) [] List.Pairwise.nil) ?_
 ·refine (by simpa using mi ltZ (bW l) []:(cS ltZ [] (bW l)).Perm (bW l)).trans (rV u r λx=>?_);rw[cY,BK,decide_eq_true_eq,ip];exact⟨λh=>⟨iJ.1 (DC h),h⟩,λh=>h.2⟩
 ·exact ((jl l.length).filter _).imp λh=>by unfold ltZ;exact decide_eq_true h
theorem xu {l:List aM}{i:Int}:i∈cY l<->i∈bW l:=by
 unfold cY;rw[BK,decide_eq_true_eq,ip];exact⟨λh=>h.2,λh=>⟨iJ.1 (DC h),h⟩⟩
theorem xv (l:List aM):(cY l).Pairwise (·<·):=(jl l.length).filter _
theorem eH (l:List aM)(T:List Int)(n:Nat):(fV l T n).length=n:=by simp[fV,co]
theorem fj (l:List aM)(T:List Int){n i:Nat}(h:i<n):(fV l T n)[i]'(by rw[eH];exact h)=dK l T (i:Int):=by
 simp[fV,co]
theorem yU (l:List aM):fV l [] l.length=l:=by
 refine Cp (eH _ _ _) λi u r=>?_
 rw[fj l [] r];unfold dK;rw[cn r];simp
theorem yV {l:List aM}{T:List Int}{b:Nat}(y:b<l.length):(fV l T l.length).set b ((gu l (b:Int)).1,(gu l (b:Int)).2-1)=fV l (T++[(b:Int)]) l.length:=by
 refine Cp (by rw[C7,eH,eH]) λi u r=>?_
 rw[eH]at r;rw[DK,fj _ _ r];by_cases h:b=i
 ·subst h;rw[if_pos rfl,fj _ _ r];unfold dK;rw[decide_eq_true (by simp:(b:Int)∈T++[(b:Int)])];rfl
 ·rw[if_neg h,fj _ _ r];unfold dK;have:((i:Int)∈T++[(b:Int)])<->(i:Int)∈T:=by
   rw[CN,CD];exact⟨λu=>u.resolve_right (by omega),.inl⟩
  rw[show decide ((i:Int)∈T++[(b:Int)])=decide ((i:Int)∈T) by rw[decide_eq_decide];exact this]
theorem vP {l:List aM}{T T':List Int}(h:∀ i,i∈T<->i∈T')(n:Nat):fV l T n=fV l T' n:=by
 unfold fV;refine List.map_congr_left λi _=>?_
 unfold dK;rw[show decide (i∈T)=decide (i∈T') by rw[decide_eq_decide];exact h i]
theorem uo (K:Nat)(x:ab Q98.ps)(l:List aM)(Z:l.length<=1048576)(X:cR l)(hK:1048577<K) :
  Q98.l1 K x (l,cY l,[],(BE (cY l):Int),0)=some ((ei l (bW l) l.length,dx l (bW l) l.length,()),()):=by
 have a0:(cY l).length<=l.length:=by
  refine BW (B7 _ _) ?_;simp[co]
 refine Ct ?_ (eV (step:=λrec a=>Q98.s1 K x rec a) (cY l).length (λi=>(fV l ((cY l).take i) l.length,cY l,((cY l).take i).map (λj=>(gu l j).1),(BE (cY l):Int),(i:Int))) (some ((ei l (bW l) l.length,dx l (bW l) l.length,()),())) ?_ ?_ (by omega:(cY l).length<K))
 ·simp only[List.take_zero,DS,yU];rfl
 ·intro rec i r;simp only[Q98.s1];have Y:=ip.1 ((BK.1 (BF r)).1);have u:(cY l)[i]∉(cY l).take i:=λh=>by
   obtain⟨j,hj,e⟩:=BL h;rw[BV]at hj;rw[Ch]at e;have:=CM.1 (xv l) j i (by omega) r (by omega);omega
  have O:(cY l).take (i+1)=(cY l).take i++[(cY l)[i]]:=CQ r;rw[O,Cr];have H:(((cY l).take i).map (λj=>(gu l j).1)).length<=1048576:=by rw[BR,BV];omega
  rw[bq (by omega:(i:Int)<(BE (cY l):Int)),ag r,ar i (by omega),BH,ag r];simp only[cond_true,BD];generalize (cY l)[i]=v at Y u ⊢;obtain⟨b,rfl⟩:=BI Y.1;have z:b<l.length:=by omega
  have I:b<(fV l ((cY l).take i) l.length).length:=by rw[eH];exact z
  have hd:dK l ((cY l).take i) (b:Int)=l[b]:=by
   unfold dK;rw[decide_eq_false u,cn z];rfl
  obtain⟨c0,c1⟩:=(X.1 l[b] (BF z)).2;rw[ag I,BH,ag I,fj l _ z,hd];simp only[BD];rw[szb _ _ _ (by omega) (by simp only[BR,BJ,BN]at H ⊢;omega),aE (n:=l[b].2-1) (by omega) (by omega),<- yV z,cn z];simp only[cond_true,Cx,DS,cn z]
 ·intro rec;simp only[Q98.s1,aQ,cond_false,Ce,Q9.f];have e:∀ J:List aM,J.length<=1048576->gG t3 J (λM=>(Q97.f K (M.1,())).map λy=>y.1.1)=some ((J.filter (λx=>!(x.2==0)),()),()):=λJ R=>q9 (e:=t3) (λx=>x.2==0) R (λx _=>rfl)
  rw[e _ (by rw[eH];exact Z)];simp only[BD];rw[vP (l:=l) (T:=cY l) (T':=bW l) (λi=>xu) l.length];have ef:(fV l (bW l) l.length).filter (λx=>!(x.2==0))=dx l (bW l) l.length:=by
   unfold dx;refine Cw λx hx=>?_
   have h0:0<=x.2:=by
    obtain⟨i,r,rfl⟩:=BL hx;rw[eH]at r;rw[fj l _ r];obtain⟨c0,c1⟩:=(X.1 l[i] (BF r)).2;unfold dK;rw[cn r];cases decide ((i:Int)∈bW l) with
    |true=>show 0<=l[i].2-1;omega
    |false=>show 0<=l[i].2;omega
   rw[CO];simp;omega
  rw[ef];rfl
theorem vQ (K:Nat)(l:List aM)(hl:l.length<=8)(H:cR l)(I:1048577<K):Q98.f K (l,3,())=some ((ei l (bW l) l.length,dx l (bW l) l.length,()),()):=by
 simp only[Q98.f,Q98.pre];obtain⟨b1,e1,e2⟩:=oW K l (by omega) I;have J:=e2.2 H;subst J;rw[e1];simp only[BD,BM,cond_false];rw[decide_eq_true (by omega:(0:Int)<=(BE l:Int)),show decide ((BE l:Int)*(8:Nat)<=ak)=true from decide_eq_true (by simp only[ak];omega),BH];simp only[decide_true,CX,cond_true];have R:(co l.length).length=l.length:=by simp[co]
 have hS:∀ i,i<=l.length->(co i++Cd (l.length-i) (0:Int)).length=l.length:=λi Z=>by simp[co];omega
 refine Ct ?_ (eV (step:=λrec a=>Q98.s0 K (l,3,()) (Q98.l1 K (l,3,())) rec a) l.length (λi=>(co i++Cd (l.length-i) (0:Int),(i:Int))) (some ((ei l (bW l) l.length,dx l (bW l) l.length,()),())) ?_ ?_ (by omega:l.length<K))
 ·rfl
 ·intro rec i Z;simp only[Q98.s0];have u:i<(co i++Cd (l.length-i) (0:Int)).length:=by rw[hS i (by omega)];exact Z
  rw[decide_eq_true (by rw[Cn];show (i:Int)<((BG (BE l:Int):Nat):Int);omega),ag u,ar i (by omega),BH,ag u];simp only[cond_true,BD];have e:(co i++Cd (l.length-i) (0:Int)).set i (i:Int)=co (i+1)++Cd (l.length-(i+1)) (0:Int):=by
   obtain⟨m,hm⟩:∃ m,l.length-i=m+1:=⟨l.length-i-1,by omega⟩;have Y:(co i).length=i:=by simp[co]
   rw[hm,show l.length-(i+1)=m by omega,mY,DA _ _ (by omega),Y,Nat.sub_self,List.replicate_succ,List.set_cons_zero,CE];rfl
  rw[e]
 ·intro rec;simp only[Q98.s0];rw[decide_eq_false (by rw[Cn];show ¬ (BE l:Int)<((BG (BE l:Int):Nat):Int);omega),Nat.sub_self,List.replicate_zero,BO];simp only[cond_false,Q2.f];have r:=yR K (co l.length) (λy4=>(Q86.f K (y4.1,y4.2.1,l,())).map λy=>y.1.1) (ltL l) (λi=>0<=i/\i<l.length) (λy O=>ip.1 O) (λy z O hz=>by
   obtain⟨a,rfl⟩:=BI O.1;obtain⟨b,rfl⟩:=BI hz.1;have M:a<l.length:=by omega
   have X:b<l.length:=by omega
   obtain⟨c0,c1⟩:=(H.1 l[a] (BF M)).2;obtain⟨c2,c3⟩:=(H.1 l[b] (BF X)).2;refine⟨l[b].2-l[a].2,?_,?_⟩
   ·simp only[Q86.f];rw[ag M,ag X];simp only[BD];rw[aE (n:=l[b].2-l[a].2) (by omega) (by omega)];rfl
   ·unfold ltL;rw[dJ M,dJ X,decide_eq_decide];omega) (by rw[R];omega) I
  rw[r];simp only[BD];rw[dY (by omega)];simp only[BD];rw[show Q76.f K (cS (ltL l) [] (co l.length),3,())=some ((bW l,()),()) from qv K (bB l) 3 (by rw[xo];omega)];simp only[BD];rw[yT K (bW l) (BW (CT _ _) (by omega)) I,un];simp only[BD];exact uo K (l,3,()) l (by omega) H I
theorem Ba {a b:Int}(u:0<=a)(y:a<4611686018427387904)(z:0<=b)(r:b<4611686018427387904):0<=qn .i64 a b:=by
 obtain⟨m,rfl⟩:=BI u;obtain⟨n,rfl⟩:=BI z;have h:(BitVec.ofInt 64 (m:Int) ^^^ BitVec.ofInt 64 (n:Int)).toNat=m ^^^ n:=by
  rw[BitVec.toNat_xor,BitVec.toNat_ofInt,BitVec.toNat_ofInt];congr 1
  ·omega
  ·omega
 have H:m ^^^ n<2 ^ 62:=Nat.xor_lt_two_pow (by omega) (by omega);show 0<=IntKind.i64.wrap (((BitVec.ofInt 64 (m:Int) ^^^ BitVec.ofInt 64 (n:Int)).toNat:Nat):Int);rw[h,DM];omega
structure fW (b:List Int):Prop where
 byte:∀ y∈b,0<=y/\y<=255
 len:b.length<=2000
theorem Ag (K:Nat)(b:List Int)(q:Nat)(n:Int)(h:fW b)(hq:q<=100000)(hn:1<=n):∃ v:Int,Q117.f K ((b,(q:Int)),n,())=some ((v,()),((b,((q+1:Nat):Int)),()))/\0<=v/\v<n:=by
 have w1:wr .i64 ((q:Int)+1)=((q+1:Nat):Int):=ar q (by omega);have w2:wr .i64 (((q+1:Nat):Int)-1)=(q:Int):=by rw[aE (n:=((q+1:Nat):Int)-1) (by omega) (by omega)];omega
 have hl:=h.len;have I:decide (n=0)=false:=decide_eq_false (by omega);have r:∀ x:Int,0<=x->0<=CG x n/\CG x n<n:=λx u=>⟨C8 _ u,Cu _ (by omega)⟩
 simp only[Q117.f];rw[decide_eq_false (by omega:¬ n<1)];simp only[cond_false,w1,w2,I];by_cases Y:b.length=0
 ·rw[show ((b.length:Int)==0)=true by simpa using Y];exact⟨0,rfl,by omega,by omega⟩
 ·rw[show ((b.length:Int)==0)=false by simpa using Y];simp only[cond_false];by_cases H:q<b.length
  ·rw[decide_eq_true (by omega:(q:Int)<(b.length:Int)),ag H];simp only[cond_true,BD];obtain⟨J,M⟩:=h.byte b[q] (BF H);rw[aE (n:=b[q]) (by omega) (by omega)];exact⟨_,rfl,r _ J⟩
  ·rw[decide_eq_false (by omega:¬ (q:Int)<(b.length:Int)),decide_eq_false (by omega:¬ (b.length:Int)=0)];simp only[cond_false];have t1:CG (q:Int) (b.length:Int)=((q % b.length:Nat):Int):=by rw[Cv (by omega)];rfl
   have t2:wr .i64 (wr .i64 ((q:Int)*7)+3)=((q*7+3:Nat):Int):=by rw[aE (n:=(q:Int)*7) (by omega) (by omega),aE (n:=(q:Int)*7+3) (by omega) (by omega)];omega
   have t3:CG (((q*7+3:Nat)):Int) (b.length:Int)=(((q*7+3) % b.length:Nat):Int):=by rw[Cv (by omega)];rfl
   have R:q % b.length<b.length:=Nat.mod_lt _ (by omega);have O:(q*7+3) % b.length<b.length:=Nat.mod_lt _ (by omega);rw[t1,t2,t3,ag R,ag O];simp only[BD];obtain⟨J,M⟩:=h.byte b[q % b.length] (BF R);obtain⟨z0,z1⟩:=h.byte b[(q*7+3) % b.length] (BF O);generalize b[q % b.length]=y at J M ⊢;generalize b[(q*7+3) % b.length]=z at z0 z1 ⊢;have Z:0<=Cl (q:Int) (b.length:Int)/\Cl (q:Int) (b.length:Int)<=q:=⟨DP (by omega) (by omega),DN _ (by omega)⟩;generalize Cl (q:Int) (b.length:Int)=e at Z ⊢;have x1:wr .i64 (wr .i64 (wr .i64 (wr .i64 (wr .i64 y*131)+wr .i64 (wr .i64 z*1117))+wr .i64 ((q:Int)*29))+wr .i64 (wr .i64 e*53))=y*131+z*1117+q*29+e*53:=by
    rw[aE (n:=y) (by omega) (by omega),aE (n:=z) (by omega) (by omega),aE (n:=e) (by omega) (by omega),aE (n:=y*131) (by omega) (by omega),aE (n:=z*1117) (by omega) (by omega),aE (n:=(q:Int)*29) (by omega) (by omega),aE (n:=e*53) (by omega) (by omega),
     aE (n:=y*131+z*1117) (by omega) (by omega),aE (n:=y*131+z*1117+(q:Int)*29) (by omega) (by omega),aE (n:=y*131+z*1117+(q:Int)*29+e*53) (by omega) (by omega)]
   rw[x1];have u:0<=y*131+z*1117+q*29+e*53/\y*131+z*1117+q*29+e*53<=10000000:=by omega
   generalize y*131+z*1117+(q:Int)*29+e*53=X at u ⊢;have d2:0<=Cl X 64/\Cl X 64<=X:=⟨DP u.1 (by omega),DN _ u.1⟩;rw[aE (n:=Cl X 64) (by omega) (by omega)];exact⟨_,rfl,r _ (Ba u.1 (by omega) d2.1 (by omega))⟩
theorem vR (K:Nat)(t:List af)(f:af)(Z:t.length<=1048576)(R:Asc (λg:af=>g.1) t)(hK:1048577<K):Q119.f K (t,f,())=some (((bS t f).1,(bS t f).2,()),()):=by
 simp only[Q119.f,Q119.pre];obtain⟨o,H,I⟩:=fy K t f.1 Z hK;rw[I];simp only[BD];cases H with
 |at_ i r e =>
  simp only;rw[kv R r e,decide_eq_true (by omega:((i:Nat):Int)>=0),ag r];simp only[cond_true,BD,BH,ag r];rw[show Q19.f K (f,t[i],())=_ from pG K f t[i]];simp only[BD];by_cases H:bR f t[i]
  ·rw[decide_eq_true H,if_pos H];simp only[BM,cond_false];rw[szb _ _ _ (by omega) (by show (BE ([]:List af))+t.length<=_;simp;omega)];simp only[cond_true,BQ,ag r,BD,BH];rw[ku (k:=λg:af=>g.1) R r e]
  ·rw[decide_eq_false H,if_neg H];rfl
 |no h =>
  simp only;rw[il h,decide_eq_false (by omega:¬ (-1:Int)>=0)];simp only[cond_false];have M:∀ m:Nat,m<=t.length->(bif decide ((0:Int)<=0)&&decide ((0:Int)<=(m:Int))&&decide ((m:Int)<=(BE t:Int))&&true then (bif decide ((BE ([]:List af)+BE ((t.take (BG (m:Int))).drop (BG 0)))*32<=ak) then (bif decide ((BE ([]++((t.take (BG (m:Int))).drop (BG 0)))+BE ([f]))*32<=ak) then (bif decide ((0:Int)<=(m:Int))&&decide ((m:Int)<=(BE t:Int))&&decide ((BE t:Int)<=(BE t:Int))&&true then (bif decide ((BE (([]++((t.take (BG (m:Int))).drop (BG 0)))++([f]))+BE ((t.take (BG (BE t:Int))).drop (BG (m:Int))))*32<=ak) then (some (((([]++((t.take (BG (m:Int))).drop (BG 0)))++([f]))++((t.take (BG (BE t:Int))).drop (BG (m:Int))),true,()),())) else none) else none) else none) else none) else (none:Option ((List af×Bool×Unit)×Unit)))=some ((t.take m++[f]++t.drop m,true,()),()):=by
   intro m X;rw[decide_eq_true (by omega:(0:Int)<=0),decide_eq_true (by omega:(0:Int)<=(m:Int)),decide_eq_true (by omega:(m:Int)<=(BE t:Int)),decide_eq_true (by omega:(BE t:Int)<=(BE t:Int))];simp only[BH,Ca,BY,BQ,Ce,CX,cond_true];have I:(t.take m).length=m:=by rw[BV];omega
   have z:(t.drop m).length=t.length-m:=CA;rw[szb _ _ _ (by omega) (by simp only[BN];omega),szb _ _ _ (by omega) (by simp only[BJ,BN];omega),szb _ _ _ (by omega) (by simp only[BS,BJ,BN];omega)];rfl
  have:=ch (step:=λrec a=>Q119.s0 K (t,f,()) rec a) t.length (λi=>(i:Int)) (λj=>∃ h:j<t.length,¬ t[j].1<f.1) (some ((t.take t.length++[f]++t.drop t.length,true,()),())) (λj=>some ((t.take j++[f]++t.drop j,true,()),())) ?_ ?_ t.length K 0 (by omega) (by omega)
  ·have J:∀ m,m<=t.length->(∀ i,(r:i<t.length)->i<m->t[i].1<f.1)->(∀ i,(r:i<t.length)->m<=i->f.1<t[i].1)->t.take m++[f]++t.drop m=bD (λg=>g.1) f t:=λm X Y r=>jh (k:=λg:af=>g.1) X Y r
   rcases this with ⟨I,z⟩|⟨j,_,I,⟨h3,h4⟩,h5,z⟩
   ·rw[J t.length (BT _) (λi r _=>by
     have:=I i (BU _) r;exact Cj.1 λh=>this ⟨r,h⟩) (λi r h=>by omega)]at z
    exact z
   ·rw[J j (by omega) (λi r y=>by
     have:=h5 i (BU _) y;exact Cj.1 λh=>this ⟨r,h⟩) (λi r y=>by
     have a0:=h t[i] (BF r);rcases CL y with O|O
     ·have:=dn.1 R j i h3 r O;omega
     ·subst O;omega)]at z
    exact z
  ·intro rec i r;simp only[Q119.s0];rw[bq (by omega:(i:Int)<(BE t:Int)),ag r,ar i (by omega)];simp only[cond_true,BD];rw[show idx t ((BG (i:Int):Nat):Int)=some t[i] by rw[BH];exact ag r];simp only[BD];by_cases u:t[i].1<f.1
   ·exact .inl ⟨λ⟨_,h⟩=>h u,by rw[decide_eq_true u];rfl⟩
   ·exact .inr ⟨⟨r,u⟩,by rw[decide_eq_false u];exact M i (by omega)⟩
  ·intro rec;simp only[Q119.s0,aQ,cond_false];exact M t.length (BT _)
def fC (t:List af)(fs:List af):List af:=fs.foldl (λt f=>(bS t f).1) t
theorem ra:∀ {fs t:List af},ax t->(∀ f∈fs,bA f)->ax (fC t fs)
 |[],_,h,_=>h
 |f::fs,t,h,r=>ra (fs:=fs) (kw h (r f (by simp))) (λg u=>r g (by simp[u]))
theorem cq {t:List af}(h:ax t):t.length<=1048576:=BW (iU h.2 (λg r=>(h.1 g r).1)) (by decide)
theorem uq {R:Type}(a fs:List af)(M:ax a)(O:∀ f∈fs,bA f)(u:List af->Option R){step:(List af×Int->Option R)->List af×Int->Option R}
  (h:∀ (rec:List af×Int->Option R) (t:List af) (i:Nat) (I:i<fs.length),ax t->step rec (t,(i:Int))=rec ((bS t fs[i]).1,((i+1:Nat):Int)))
  (y:∀ (rec:List af×Int->Option R) (t:List af),step rec (t,(fs.length:Int))=u t) {k:Nat} (z:fs.length<k):ae step k (a,0)=u (fC a fs):=by
 have:∀ (d i k:Nat) (t:List af),i+d=fs.length->d<k->ax t->ae step k (t,(i:Int))=u (fC t (fs.drop i)):=by
  intro d;induction d with
  |zero =>
   intro i k t I z _;obtain⟨k,rfl⟩:∃ H,k=H+1:=⟨k-1,by omega⟩;have:i=fs.length:=by omega
   subst this;show step (ae step k) _=_;rw[y,Cz];rfl
  |succ d X =>
   intro i k t I z J;obtain⟨k,rfl⟩:∃ H,k=H+1:=⟨k-1,by omega⟩;have r:i<fs.length:=by omega
   show step (ae step k) _=_;rw[h _ _ _ r J,B5 r];exact X (i+1) k _ (by omega) (by omega) (kw J (O _ (BF r)))
 have:=this fs.length 0 k a (by omega) z M
 rwa [BY]at this
theorem xw (f:af):¬ bR f f:=by
 unfold bR;simp
theorem ky (K:Nat)(xs:List af)(y:xs.length<=1048576)(z:1048577<K):Q226.f K (xs,xs,())=rb true:=by
 have r:Q226.l0 K (xs,xs,()) 0=rb true:=by
  refine eV (step:=λrec a=>Q226.s0 K (xs,xs,()) rec a) xs.length (λi=>(i:Int)) (rb true) ?_ ?_ (by omega)
  ·intro rec i u;simp only[Q226.s0];rw[decide_eq_true (by omega:(i:Int)<(BE xs:Int)),ag u,ar i (by omega)];simp only[cond_true,BD];rw[show Ty.eqv t2 xs[i] xs[i]=decide (xs[i]=xs[i]) from gW _ _,decide_eq_true rfl];rfl
  ·intro rec;simp only[Q226.s0,aQ];rfl
 simp only[Q226.f,Q226.pre,bne_self_eq_false,cond_false];exact r
theorem o7 {l:List aM}(J:cR l)(T:List Int):ax (ei l T l.length):=by
 unfold ei;constructor
 ·intro f X;obtain⟨i,H,rfl⟩:=BX.1 X;obtain⟨h0,h1⟩:=ip.1 (BK.1 H).1;obtain⟨b,rfl⟩:=BI h0;have O:b<l.length:=by omega
  rw[cn O];exact (J.1 l[b] (BF O)).1
 ·unfold Asc;rw[B6];have Z:((co l.length).filter λi=>decide (i∈T)).Pairwise λ (a b:Int)=>(0<=a/\a<l.length)/\(0<=b/\b<l.length)/\a<b:=by
   refine Cc _ ?_;have:∀ u:List Int,(∀ x∈u,0<=x/\x<l.length)->u.Pairwise (·<·)->u.Pairwise λ (a b:Int)=>(0<=a/\a<l.length)/\(0<=b/\b<l.length)/\a<b:=by
    intro u z r;induction u with
    |nil=>exact List.Pairwise.nil
    |cons x u ih =>
     rw[BZ]at r ⊢;exact⟨λy I=>⟨z x (by simp),z y (by simp[I]),r.1 y I⟩,ih (λy I=>z y (by simp[I])) r.2⟩
   exact this _ (λx z=>ip.1 z) (jl _)
  refine Z.imp λ {a b} h=>?_
  obtain⟨⟨a0,a1⟩,⟨Y,b1⟩,R⟩:=h;obtain⟨i,rfl⟩:=BI a0;obtain⟨j,rfl⟩:=BI Y;have H:i<l.length:=by omega
  have M:j<l.length:=by omega
  rw[cn H,cn M];exact dn.1 J.2 i j H M (by omega)
theorem te {l:List aM}(J:cR l)(T:List Int):cR (dx l T l.length):=by
 have r:∀ i (h:i<l.length),(dK l T (i:Int)).1=l[i].1:=λi h=>by
  unfold dK;rw[cn h];cases decide ((i:Int)∈T) <;> rfl
 have z:∀ i (h:i<l.length),(dK l T (i:Int)).2<=l[i].2:=λi h=>by
  unfold dK;rw[cn h];cases decide ((i:Int)∈T) with
  |true=>show l[i].2-1<=l[i].2;omega
  |false=>exact CJ _
 unfold dx;constructor
 ·intro x M;obtain⟨O,I⟩:=BK.1 M;have I:x.2>0:=by simpa using I
  obtain⟨i,u,rfl⟩:=BL O;rw[eH]at u;rw[fj l T u]at I ⊢;have:=(J.1 l[i] (BF u));refine⟨by rw[r i u];exact this.1,?_,?_⟩
  ·omega
  ·have X:=z i u;have R:=this.2.2;omega
 ·unfold Asc;refine Cc _ ?_;rw[CM];intro i j u y H;rw[eH]at u y;show (fV l T l.length)[i].1.1<(fV l T l.length)[j].1.1;rw[fj l T u,fj l T y,r i u,r j y];exact dn.1 J.2 i j u y H
def iW (n:aa)(to:Int):List af :=
 bif (aB (aa.table n) to).2.2.1==2 then (bS (ei (aa.cast n) (bW (aa.cast n)) (aa.cast n).length) (aB (aa.table n) to)).1 else ei (aa.cast n) (bW (aa.cast n)) (aa.cast n).length
def iq (n:aa):aa:=iT n (aa.table n) (dx (aa.cast n) (bW (aa.cast n)) (aa.cast n).length) (aa.doubts n)
theorem kl {n:aa}(h:b7 n)(to:Int):ax (iW n to):=by
 have y:=o7 h.cast (bW (aa.cast n));unfold iW;cases r:(aB (aa.table n) to).2.2.1==2 with
 |false=>exact y
 |true =>
  refine kw y (cD h.table ?_).1;by_cases u:∃ f∈aa.table n,f.1=to
  ·exact u
  ·rw[jJ (λg z e=>u ⟨g,z,e⟩)]at r;simp at r
theorem Bb {n:aa}(h:b7 n):b7 (iq n):=b7.mk' h.table (te h.cast _) h.asc h.inp
theorem clen {n:aa}(h:b7 n):(aa.cast n).length<=8:=iU h.cast.2 (λx r=>(h.cast.1 x r).1.1)
theorem qy (K:Nat)(n:aa)(to:Int)(h:b7 n)(r:1048577<K):Q200.f K (n,to,())=some ((iW n to,iq n,()),()):=by
 have M:=clen h;simp only[Q200.f,zcp8];rw[show Q167.f K (n.2.2.2.2.2.2.2.2.2.1,3,())=_ from AZ K (aa.cast n) (by omega) h.cast r];simp only[BD];obtain⟨o,J,I⟩:=fy K (aa.table n) to h.lt r;rw[show Q16.f K (n.2.2.2.2.2.2.2.2.1,to,())=_ from I];simp only[BD,iW];have z:=o7 h.cast (bW (aa.cast n));cases J with
 |no y =>
  rw[jJ y];rfl
 |at_ j H e =>
  have u:aB (aa.table n) to=(aa.table n)[j]:=by rw[<- e];exact jI h.table.2 (BF H)
  rw[u];simp only;rw[decide_eq_true (by omega:((j:Nat):Int)>=0),show idx n.2.2.2.2.2.2.2.2.1 ((j:Nat):Int)=some (aa.table n)[j] from ag H];simp only[cond_true,BD];cases (aa.table n)[j].2.2.1==2 with
  |false=>rfl
  |true =>
   simp only[cond_true];rw[vR K _ _ (cq z) z.2 r];rfl
theorem vS (K:Nat)(n:aa)(to:Int)(h:b7 n)(r:1048577<K):Q99.f K (n,to,())=some ((iW n to,()),(iq n,())):=by
 simp only[Q99.f,zcp8];rw[show Q98.f K (n.2.2.2.2.2.2.2.2.2.1,3,())=_ from vQ K (aa.cast n) (clen h) h.cast r];simp only[BD];obtain⟨b,y⟩:=iV K (aa.table n) to h.table h.lt r;rw[show Q37.f K (n.2.2.2.2.2.2.2.2.1,to,())=_ from y];simp only[BD,iW];have u:=o7 h.cast (bW (aa.cast n));cases (aB (aa.table n) to).2.2.1==2 with
 |false=>rfl
 |true =>
  simp only[cond_true];rw[zI K _ _ (cq u) u.2 r];rfl
def bh (n:aa)(k:Nat):Int:=CG (n.2.2.2.2.2.2.2.1+(k:Int)) 8
def gJ (n:aa)(k:Nat):Prop:=bh n k≠n.1/\cN (aB (aa.table n) (bh n k))=true
def qz (n:aa)(to:Int):aa :=
 let m:=iq n
 (m.1,m.2.1,m.2.2.1,m.2.2.2.1,m.2.2.2.2.1,m.2.2.2.2.2.1,m.2.2.2.2.2.2.1+1,to+1,m.2.2.2.2.2.2.2.2.1,m.2.2.2.2.2.2.2.2.2.1,(to,m.2.2.2.2.2.1,m.2.2.2.2.2.2.1+1,false),m.2.2.2.2.2.2.2.2.2.2.2)
def sg (n:aa)(to:Int):aq:=(1,1,n.1,to,n.2.2.2.2.2.2.1+1,n.1,aa.coord n,iW n to)
theorem u3 (K:Nat)(n:aa)(h:b7 n)(X:0<=n.2.2.2.2.2.2.2.1)(Y:n.2.2.2.2.2.2.2.1<=8)(hK:1048577<K) :
  ∃ to:Int,Q199.f K (n,())=some ((to,()),())/\((to=-1/\∀ k,k<8->¬ gJ n k)\/∃ k,k<8/\gJ n k/\(∀ j,j<k->¬ gJ n j)/\to=bh n k):=by
 have u:∀ k:Nat,k<8->wr .i64 (n.2.2.2.2.2.2.2.1+(k:Int))=n.2.2.2.2.2.2.2.1+(k:Int):=λk M=>aE (by omega) (by omega)
 have:=ch (step:=λrec a=>Q199.s0 K (n,()) rec a) 8 (λi=>(i:Int)) (gJ n) (some ((-1,()),())) (λj=>some ((bh n j,()),())) ?_ ?_ 8 K 0 (by omega) (by omega)
 ·rcases this with ⟨I,H⟩|⟨j,_,I,R,Z,H⟩
  ·exact⟨-1,H,.inl ⟨rfl,λk M=>I k (BU _) M⟩⟩
  ·exact⟨_,H,.inr ⟨j,I,R,λm hm=>Z m (BU _) hm,rfl⟩⟩
 ·intro rec i O;simp only[Q199.s0];rw[decide_eq_true (by omega:(i:Int)<=7),u i O,ar i (by omega)];simp only[cond_true];show (¬ gJ n i/\(bif bh n i != n.1 then ((Q196.f K (aa.table n,bh n i,())).bind λz=>bif z.1.1 then (some ((bh n i,()),())) else (rec ((i+1:Nat):Int))) else (rec ((i+1:Nat):Int)))=rec ((i+1:Nat):Int))\/(gJ n i/\(bif bh n i != n.1 then ((Q196.f K (aa.table n,bh n i,())).bind λz=>bif z.1.1 then (some ((bh n i,()),())) else (rec ((i+1:Nat):Int))) else (rec ((i+1:Nat):Int)))=some ((bh n i,()),()));rw[sU K (aa.table n) (bh n i) h.table h.lt hK];by_cases r:bh n i=n.1
  ·exact .inl ⟨λJ=>J.1 r,by rw[show (bh n i != n.1)=false by simpa using r];rfl⟩
  ·rw[show (bh n i != n.1)=true by simpa using r];cases y:cN (aB (aa.table n) (bh n i)) with
   |true=>exact .inr ⟨⟨r,y⟩,rfl⟩
   |false=>exact .inl ⟨λJ=>(by rw[J.2]at y;cases y),rfl⟩
 ·intro rec;simp only[Q199.s0];rfl
theorem yW (K:Nat)(n:aa)(h:b7 n)(hp:(aa.probe n).1=-1)(a6:0<=n.2.2.2.2.2.2.1)(ad:n.2.2.2.2.2.2.1<=1000000)(a3:0<=n.2.2.2.2.2.2.2.1)(a5:n.2.2.2.2.2.2.2.1<=8)(Y:1048577<K) :
  ∃ (y:aa) (ws:List aq),Q201.f K (n,())=some ((y,ws,()),())/\Q100.f K (n,())=some ((ws,()),(y,()))/\((y=n/\ws=[])\/∃ to,y=qz n to/\ws=[sg n to]):=by
 have z:∀ k:Nat,k<8->wr .i64 (n.2.2.2.2.2.2.2.1+(k:Int))=n.2.2.2.2.2.2.2.1+(k:Int):=λk R=>aE (by omega) (by omega)
 have I:∀ k:Nat,k<8->0<=bh n k/\bh n k<8:=λk R=>⟨C8 _ (by omega),Cu _ (by omega)⟩
 obtain⟨to,es,a1⟩:=u3 K n h a3 a5 Y;simp only[Q201.f,zcp4,Q100.f,Q100.pre];rw[es,show (n.2.2.2.2.2.2.2.2.2.2.1.1 != -1)=false by show ((aa.probe n).1 != -1)=false;rw[hp];rfl];simp only[BD,cond_false];by_cases u:n.2.2.2.2.2.2.1>=999999
 ·rw[decide_eq_true u];refine⟨n,[],?_,rfl,.inl ⟨rfl,rfl⟩⟩;cases decide (to<0) <;> rfl
 ·rw[decide_eq_false u];simp only[cond_false];have J:wr .i64 (n.2.2.2.2.2.2.1+1)=n.2.2.2.2.2.2.1+1:=aE (by omega) (by omega);have H:=ch (step:=λrec a=>Q100.s0 K (n,()) rec a) 8 (λi=>(i:Int)) (gJ n) (some (([],()),(n,()))) (λj=>some (([sg n (bh n j)],()),(qz n (bh n j),()))) ?_ ?_ 8 K 0 (by omega) (by omega)
  ·rcases a1 with ⟨rfl,a4⟩|⟨k,R,M,a0,rfl⟩
   ·rcases H with ⟨_,h2⟩|⟨j,_,X,h3,_,_⟩
    ·exact⟨n,[],rfl,h2,.inl ⟨rfl,rfl⟩⟩
    ·exact absurd h3 (a4 j X)
   ·have a9:=I k R;rcases H with ⟨X,_⟩|⟨j,_,X,h3,h4,h2⟩
    ·exact absurd M (X k (BU _) R)
    ·have:j=k:=by
      rcases Ck j k with O|O|O
      ·exact absurd h3 (a0 j O)
      ·exact O
      ·exact absurd M (h4 k (BU _) O)
     subst this;refine⟨qz n (bh n j),[sg n (bh n j)],?_,h2,.inr ⟨_,rfl,rfl⟩⟩;rw[decide_eq_false (by omega:¬ bh n j<0)];simp only[cond_false];rw[qy K n _ h Y];simp only[BD];rw[show wr .i64 ((iq n).2.2.2.2.2.2.1+1)=n.2.2.2.2.2.2.1+1 from J,aE (n:=bh n j+1) (by omega) (by omega)];simp only[Q153.f];rw[szb _ _ _ (by omega) (by have:=cq (kl h (bh n j));simp;omega)];rfl
  ·intro rec i H;have Z:=I i H;simp only[Q100.s0,zcp4];rw[decide_eq_true (by omega:(i:Int)<8),z i H,ar i (by omega)];simp only[cond_true];have a2:=sW K n (bh n i) h.table h.lt Y;rw[show CG (n.2.2.2.2.2.2.2.1+(i:Int)) 8=bh n i from rfl];by_cases r:bh n i=n.1
   ·exact .inl ⟨λZ=>Z.1 r,by rw[show (bh n i==n.1)=true by simpa using r];rfl⟩
   ·rw[show (bh n i==n.1)=false by simpa using r];simp only[cond_false];rw[a2];simp only[BD];cases hl:cN (aB (aa.table n) (bh n i)) with
    |false=>exact .inl ⟨λZ=>(by rw[Z.2]at hl;cases hl),rfl⟩
    |true =>
     refine .inr ⟨⟨r,hl⟩,?_⟩;simp only[BM,cond_false];rw[vS K n _ h Y];simp only[BD,Q81.f];rw[show wr .i64 ((iq n).2.2.2.2.2.2.1+1)=n.2.2.2.2.2.2.1+1 from J,aE (n:=bh n i+1) (by omega) (by omega)];rfl
  ·intro rec;simp only[Q100.s0,zcp4];rfl
abbrev lK:=Int×ByteArray×Bool
abbrev bX:=List aa×List lK×List Int×List af
abbrev bX.radio (w:bX):List lK:=w.2.1
abbrev bX.sides (w:bX):List Int:=w.2.2.1
abbrev bX.born (w:bX):List af:=w.2.2.2
theorem kz {n:Int}(h:InP n 0 7):ao n=n / 4:=by
 obtain⟨r,u⟩:=h;unfold ao;rw[CC r,aE (by omega) (by omega)]
theorem Ah {α:Type}{k:α->Int}{xs:List α}(h:Asc k xs):∀ i (r:i<xs.length),k (xs[0]'(by omega))+i<=k xs[i]:=by
 rw[gI]at h;intro i;induction i with
 |zero=>intro r;simp
 |succ i y =>
  intro r;have z:=y (by omega);have u:=h (i+1) r (by omega);simp only[Nat.add_sub_cancel]at u;omega
theorem ur {t:List af}{s:Int}(u:ax t)(z:ce t s):t.length<=4:=by
 cases h:t.length with
 |zero=>omega
 |succ m =>
  have r:m<t.length:=by omega
  have y:0<t.length:=by omega
  have O:=Ah u.2 m r;have J:=z _ (BF r);have H:=z _ (BF y);have I:=(u.1 _ (BF r)).1;have M:=(u.1 _ (BF y)).1;rw[kz I]at J;rw[kz M]at H;omega
theorem mZ {z:Int}{l:List cV}(u:InP z 0 7)(h:c8 z l):l=[]\/∃ x,l=[x]:=by
 match l,h with
 |[],_=>exact .inl rfl
 |[x],_=>exact .inr ⟨x,rfl⟩
 |x::y::r,h =>
  exfalso;have M:=h.1 x (by simp);have H:=h.1 y (by simp);have X:x.1<y.1:=by
   have:=h.2;unfold Asc at this;rw[BZ]at this;exact this.1 y (by simp)
  have e:=kz u;obtain⟨⟨Y,a2⟩,J,_⟩:=M;obtain⟨⟨R,b2⟩,I,_⟩:=H;obtain⟨O,Z⟩:=u;rw[e]at J I;omega
theorem lL {a:Int}{m:Nat}(u:m<4611686018427387904):0<=aR .i64 a (m:Int)/\aR .i64 a (m:Int)<=m:=by
 have h:(BitVec.ofInt 64 a &&& BitVec.ofInt 64 (m:Int)).toNat<=m:=by
  rw[BitVec.toNat_and];refine BW Nat.and_le_right ?_;rw[BitVec.toNat_ofInt];omega
 show 0<=IntKind.i64.wrap (((BitVec.ofInt 64 a &&& BitVec.ofInt 64 (m:Int)).toNat:Nat):Int)/\IntKind.i64.wrap (((BitVec.ofInt 64 a &&& BitVec.ofInt 64 (m:Int)).toNat:Nat):Int)<=m;generalize (BitVec.ofInt 64 a &&& BitVec.ofInt 64 (m:Int)).toNat=r at h ⊢;rw[DM];omega
def gK (g:List Int)(d:Int):Int:=g.getD (BG (CG (aR .i64 d 255) (g.length:Int))) 0
theorem eJ {g:List Int}{d:Int}(h:g≠[]):idx g (CG (aR .i64 d 255) (g.length:Int))=some (gK g d)/\idx g ((BG (CG (aR .i64 d 255) (g.length:Int)):Nat):Int)=some (gK g d)/\gK g d∈g:=by
 have I:0<g.length:=CU.2 h;have H:=(lL (a:=d) (m:=255) (by omega)).1;have z:0<=CG (aR .i64 d 255) (g.length:Int):=C8 _ H;have y:CG (aR .i64 d 255) (g.length:Int)<g.length:=Cu _ (by omega);unfold gK;obtain⟨v,u⟩:=BI z;rw[u]at y ⊢;have r:v<g.length:=by omega
 rw[BH,ag r,List.getD_eq_getElem?_getD,BP r];exact⟨rfl,rfl,BF r⟩
def iX (n:aa)(r d:Int):Int :=
 bif decide (dI (dj (aa.others n) r)≠[])&&aR .i64 d 4==0 then gK (dI (dj (aa.others n) r)) (B4 d (2 ^ 3)) else r*4+aR .i64 (B4 d (2 ^ 3)) 3
structure hY (n:aa):Prop where
 short:(aa.others n).length<=1
 table:∀ x∈aa.others n,ax x.2/\x.2.length<=1048576
theorem xx {r d:Int}(H:0<=r)(z:r<=1):wr .i64 (wr .i64 (r*4)+aR .i64 (B4 d (2 ^ 3)) 3)=r*4+aR .i64 (B4 d (2 ^ 3)) 3:=by
 obtain⟨u,y⟩:=lL (a:=B4 d (2 ^ 3)) (m:=3) (by omega);have u:0<=aR .i64 (B4 d (2 ^ 3)) 3:=u;have y:aR .i64 (B4 d (2 ^ 3)) 3<=3:=y;rw[aE (n:=r*4) (by omega) (by omega),aE (by omega) (by omega)]
theorem far_s (K:Nat)(n:aa)(r d:Int)(h:hY n)(X:0<=r)(O:r<=1)(R:1048577<K):Q205.f K (n,r,d,())=some ((iX n r d,()),()):=by
 obtain⟨k,rfl⟩:∃ k,K=k+2:=⟨K-2,by omega⟩;show Q205.s0 (k+2) (n,r,d,()) (ae (λrec a=>Q205.s0 (k+2) (n,r,d,()) rec a) (k+1)) 0=_;have y:∀ (rec:Int->Option ((Int×Unit)×Unit)) (a:Int),¬ a<(aa.others n).length->Q205.s0 (k+2) (n,r,d,()) rec a=some ((r*4+aR .i64 (B4 d (2 ^ 3)) 3,()),()):=by
  intro rec a J;simp only[Q205.s0];rw[show decide (a<(BE n.2.2.2.2.2.2.2.2.2.2.2.2.2.2:Int))=false from decide_eq_false J,xx X O];rfl
 match z:aa.others n with
 |[] =>
  rw[y _ _ (by rw[z];simp),iX,z];rfl
 |[x] =>
  have M:=h.table x (by rw[z];simp);have u:ae (λrec a=>Q205.s0 (k+2) (n,r,d,()) rec a) (k+1) 1=some ((r*4+aR .i64 (B4 d (2 ^ 3)) 3,()),()):=y _ _ (by rw[z];simp);generalize ae (λrec a=>Q205.s0 (k+2) (n,r,d,()) rec a) (k+1)=rec at u ⊢;simp only[Q205.s0];rw[show decide ((0:Int)<(BE n.2.2.2.2.2.2.2.2.2.2.2.2.2.2:Int))=true from decide_eq_true (by show (0:Int)<((aa.others n).length:Int);rw[z];simp),show idx n.2.2.2.2.2.2.2.2.2.2.2.2.2.2 (0:Int)=some x by show idx (aa.others n) (0:Int)=some x;rw[z];rfl,show wr .i64 ((0:Int)+1)=1 from rfl];simp only[cond_true,BD,u];rw[iX,z];cases I:x.1==r with
  |false =>
   simp only[cond_false,dj,C5,I,List.find?_nil];rfl
  |true =>
   simp only[cond_true,dj,C5,I,DO,DL];rw[uS (k+2) x.2 M.2 R];simp only[BD];by_cases H:dI x.2=[]
   ·rw[H];rfl
   ·have Y:0<(dI x.2).length:=CU.2 H;rw[decide_eq_true H,decide_eq_true (by omega:((dI x.2).length:Int)>0)];simp only[cond_true,CS];cases aR .i64 d 4==0 with
    |false=>rfl
    |true =>
     simp only[cond_true];rw[decide_eq_false (by omega:¬ ((dI x.2).length:Int)=0),(eJ H).1,(eJ H).2.1];rfl
 |_::_::_=>exact absurd h.short (by rw[z];simp)
def iL (n:aa):Bool:=decide (n.1∈dI (aa.table n))
theorem yX (K:Nat)(n:aa)(I:(aa.table n).length<=1048576)(O:1048577<K):Q204.f K (n,())=rb (iL n):=by
 simp only[Q204.f,Q204.pre];rw[show Q203.f K (n.2.2.2.2.2.2.2.2.1,2,())=_ from uS K (aa.table n) I O];simp only[BD];have z:=qY (aa.table n);unfold iL;generalize dI (aa.table n)=g at z ⊢;have:=ch (step:=λrec a=>Q204.s0 K (n,()) rec a) g.length (λi=>(g,(i:Int))) (λj=>∃ h:j<g.length,g[j]=n.1) (rb false) (λ_=>rb true) ?_ ?_ g.length K 0 (by omega) (by omega)
 ·rcases this with ⟨y,u⟩|⟨j,_,y,⟨J,M⟩,_,u⟩
  ·rw[decide_eq_false (λR=>by
    obtain⟨i,r,e⟩:=BL R;exact y i (BU _) r ⟨r,e⟩)]
   exact u
  ·rw[decide_eq_true (M ▸ BF J:n.1∈g)];exact u
 ·intro rec i r;simp only[Q204.s0];rw[bq (by omega:(i:Int)<(BE g:Int)),ag r,ar i (by omega),BH,ag r];simp only[cond_true,BD];by_cases h:g[i]=n.1
  ·exact .inr ⟨⟨r,h⟩,by rw[show (g[i]==n.1)=true by simpa using h];rfl⟩
  ·exact .inl ⟨λ⟨_,H⟩=>h H,by rw[show (g[i]==n.1)=false by simpa using h];rfl⟩
 ·intro rec;simp only[Q204.s0,aQ];rfl
theorem yY (K:Nat)(g:List Int)(v:Int)(O:g.length<=1048576)(R:1048577<K):Q106.f K (g,v,())=rb (decide (v∈g)):=by
 have:=ch (step:=λrec a=>Q105.s0 K (g,v,()) rec a) g.length (λi=>(i:Int)) (λj=>∃ h:j<g.length,v=g[j]) (some ((-1,()),())) (λj=>some ((((j:Nat):Int),()),())) ?_ ?_ g.length K 0 (by omega) (by omega)
 ·simp only[Q106.f];rcases this with ⟨y,u⟩|⟨j,_,y,⟨H,J⟩,_,u⟩
  ·have e:Q105.f K (g,v,())=some ((-1,()),()):=u;rw[e,decide_eq_false (λM=>by
    obtain⟨i,r,I⟩:=BL M;exact y i (BU _) r ⟨r,I.symm⟩)]
   rfl
  ·have e:Q105.f K (g,v,())=some ((((j:Nat):Int),()),()):=u;rw[e,decide_eq_true (J ▸ BF H:v∈g)];simp only[BD];rw[decide_eq_true (by omega:((j:Nat):Int)>=0)]
 ·intro rec i r;simp only[Q105.s0];rw[bq (by omega:(i:Int)<(BE g:Int)),ag r,ar i (by omega)];simp only[cond_true,BD];by_cases h:v=g[i]
  ·exact .inr ⟨⟨r,h⟩,by rw[show (v==g[i])=true by simpa using h];rfl⟩
  ·exact .inl ⟨λ⟨_,z⟩=>h z,by rw[show (v==g[i])=false by simpa using h];rfl⟩
 ·intro rec;simp only[Q105.s0,aQ];rfl
def wanW (n:aa)(d r:Int):aq:=(2,(nR 6 n (iX n r d)).2)
def ir (n:aa)(d:Int):List aq:=bif iL n then (([0,1]:List Int).filter (λs=>s != ao n.1)).map (wanW n d) else []
theorem wan_s (K:Nat)(n:aa)(d:Int)(h:hY n)(u:(aa.table n).length<=1048576)(y:1048577<K):Q206.f K (n,d,())=some ((ir n d,()),()):=by
 simp only[Q206.f,Q206.pre];rw[yX K n u y];simp only[BD,ir];cases iL n with
 |false=>rfl
 |true =>
  simp only[BM,cond_false,cond_true];refine lH (step:=λrec a=>Q206.s0 K (n,d,()) rec a) ([0,1]:List Int) (λs=>s != ao n.1) (wanW n d) (λr i=>(r,(i:Int))) (λM=>some ((M,()),())) ?_ ?_ (by simp;omega)
  ·intro rec r i J H;have z:i<2:=J;have I:([0,1]:List Int)[i]=(i:Int):=by
    have:i=0\/i=1:=by omega
    rcases this with rfl|rfl <;> rfl
   simp only[Q206.s0,I];rw[decide_eq_true (by omega:(i:Int)<=1),ar i (by omega),eG K n.1];simp only[cond_true,BD];cases (i:Int) != ao n.1 with
   |false=>rfl
   |true =>
    simp only[cond_true];rw[far_s K n (i:Int) d h (by omega) (by omega) y];simp only[BD];refine (congrArg (λo=>CI o _) (nS K n 6 (iX n (i:Int) d) u)).trans ?_;simp only[BD];rw[szw _ _ _ (by omega) (by simp;omega)];rfl
  ·intro rec r H;simp only[Q206.s0];rfl
theorem yZ (K:Nat)(n:aa)(d:Int)(R:NB n)(h:hY n)(hT:ax (aa.table n))(I:1048577<K):Q107.f K (n,d,())=some ((ir n d,()),()):=by
 have O:=R.table;simp only[Q107.f,Q107.pre];rw[show Q103.f K (n.2.2.2.2.2.2.2.2.1,2,())=_ from uT K (aa.table n) O I hT];simp only[BD];rw[yY K (dI (aa.table n)) n.1 (BW (qY _) (by decide)) I];simp only[BD,ir];show (bif !(iL n) then _ else _)=_;cases iL n with
 |false=>rfl
 |true =>
  simp only[BM,cond_false,cond_true];rw[xa K 7];simp only[BD,show wr .i64 (ao 7+1)=2 from rfl];refine lH (step:=λrec a=>Q107.s0 K (n,d,()) rec a) ([0,1]:List Int) (λs=>s != ao n.1) (wanW n d) (λr i=>(r,(2:Int),(i:Int))) (λws=>some ((ws,()),())) ?_ ?_ (by simp;omega)
  ·intro rec r i hi Y;have X:i<2:=hi;have Z:([0,1]:List Int)[i]=(i:Int):=by
    have:i=0\/i=1:=by omega
    rcases this with rfl|rfl <;> rfl
   simp only[Q107.s0,Z];rw[decide_eq_true (by omega:(i:Int)<2),ar i (by omega),qs K n];simp only[cond_true,BD];rw[show ((i:Int) != ao n.1)=!((i:Int)==ao n.1) from rfl];cases (i:Int)==ao n.1 with
   |true=>rfl
   |false =>
    simp only[cond_false,B8,cond_true];rw[z7 K n (i:Int) R I];simp only[BD];have H:ax (dj (aa.others n) (i:Int))/\(dj (aa.others n) (i:Int)).length<=1048576:=by
     rcases mS (l:=aa.others n) (s:=(i:Int)) with e|⟨x,hx,_,e⟩
     ·rw[e];exact⟨⟨by simp,List.Pairwise.nil⟩,by simp⟩
     ·rw[e];exact h.table x hx
    rw[uT K _ H.2 I H.1];simp only[BD];rw[xx (by omega) (by omega)];have hw:=λto=>uU K n 6 to O
    have u:∀ to,to=iX n (i:Int) d->((Q101.f K (n,6,to,())).bind λM=>bif decide ((BE r+BE ([(2,M.1.1.2)]))*104<=ak) then (rec (r++([(2,M.1.1.2)]),(2:Int),((i+1:Nat):Int))) else none)=rec (r++[wanW n d (i:Int)],(2:Int),((i+1:Nat):Int)):=by
     intro to J;rw[hw to,J];simp only[BD];rw[szw _ _ _ (by omega) (by simp;omega)];rfl
    by_cases y:dI (dj (aa.others n) (i:Int))=[]
    ·rw[y];refine u _ ?_;rw[iX,y];rfl
    ·have hl:0<(dI (dj (aa.others n) (i:Int))).length:=CU.2 y;rw[decide_eq_true (by omega:((dI (dj (aa.others n) (i:Int))).length:Int)>0)];simp only[cond_true];cases z:aR .i64 d 4==0 with
     |false =>
      refine u _ ?_;rw[iX,z,DB];rfl
     |true =>
      simp only[cond_true];rw[decide_eq_false (by omega:¬ ((dI (dj (aa.others n) (i:Int))).length:Int)=0),(eJ y).1,(eJ y).2.1];simp only[cond_false,BD];refine u _ ?_;rw[iX,z,decide_eq_true y];rfl
  ·intro rec r Y;simp only[Q107.s0];rfl
def m7 (n:aa)(f:af):Bool:=f.2.2.1 != 4&&f.1 != n.1
def cd (n:aa):List Int:=((aa.table n).filter (m7 n)).map (·.1)
def m8 (n:aa)(to:Int):List aq:=match aa.others n with
 |[]=>[]
 |x::_=>[(1,6,n.1,to,0,n.1,aa.coord n,x.2)]
def eX (n:aa)(r:Int):List aq :=
 bif aR .i64 r 3==1 then ir n (B4 r (2 ^ 2)) else
 bif aR .i64 r 3==3||decide (cd n=[]) then [] else
 bif aR .i64 r 3==0 then [nR 4 n (gK (cd n) (B4 r (2 ^ 2)))] else m8 n (gK (cd n) (B4 r (2 ^ 2)))
theorem and3 (a:Int):aR .i64 a 3=0\/aR .i64 a 3=1\/aR .i64 a 3=2\/aR .i64 a 3=3:=by
 obtain⟨r,u⟩:=lL (a:=a) (m:=3) (by omega);have r:0<=aR .i64 a 3:=r;have u:aR .i64 a 3<=3:=u;omega
theorem xy {n:aa}(y:ax (aa.table n)){v:Int}(r:v∈cd n):0<=v:=by
 obtain⟨f,u,rfl⟩:=BX.1 r;exact (y.1 f (BK.1 u).1).1.1
theorem Bc (K:Nat)(n:aa)(d:Int)(M:(aa.table n).length<=1048576)(I:1048577<K):Q202.f K (n,d,())=some ((bif decide (cd n=[]) then -1 else gK (cd n) d,()),()):=by
 refine (pC (step:=λrec a=>Q202.s0 K (n,d,()) rec a) (aa.table n) (m7 n) (λf=>f.1) (λy=>some ((bif decide (y=[]) then -1 else gK y d,()),())) ?_ ?_ (by omega)).trans rfl
 ·intro rec r i z J;simp only[Q202.s0];rw[show decide ((i:Int)<(BE n.2.2.2.2.2.2.2.2.1:Int))=true from bq (by omega:(i:Int)<(BE (aa.table n):Int)),show idx n.2.2.2.2.2.2.2.2.1 (i:Int)=some (aa.table n)[i] from ag z,ar i (by omega)];simp only[cond_true,BD,m7];rw[szb _ _ _ (by omega) (by simp;omega)];cases (aa.table n)[i].1 != n.1 <;> cases (aa.table n)[i].2.2.1 != 4 <;> rfl
 ·intro rec r _;simp only[Q202.s0];rw[show decide ((BE (aa.table n):Int)<(BE n.2.2.2.2.2.2.2.2.1:Int))=false from aQ _];simp only[cond_false];by_cases u:r=[]
  ·subst u;rfl
  ·have H:0<r.length:=CU.2 u;rw[show ((r.length:Int)==0)=false by simp;exact u,decide_eq_false (by omega:¬ (r.length:Int)=0),decide_eq_false u,(eJ u).1,(eJ u).2.1];rfl
theorem xz (K:Nat)(n:aa)(r:Int)(h:hY n)(M:ax (aa.table n))(H:(aa.table n).length<=1048576)(I:1048577<K):Q207.f K (n,r,())=some ((eX n r,()),()):=by
 simp only[Q207.f];rw[Bc K n _ H I];simp only[BD];rw[wan_s K n _ h H I];simp only[BD,eX];by_cases u:cd n=[]
 ·rw[decide_eq_true u];simp only[cond_true,DR,show decide ((-1:Int)>=0)=false from rfl,cond_false];rcases and3 r with e|e|e|e <;> rw[e] <;> rfl
 ·have O:=xy M (eJ (d:=B4 r (2 ^ 2)) u).2.2;rw[decide_eq_false u];simp only[cond_false,Bool.or_false];rw[decide_eq_true (by omega:gK (cd n) (B4 r (2 ^ 2))>=0)];simp only[cond_true];rw[show Q153.f K (n,4,gK (cd n) (B4 r (2 ^ 2)),0,n.1,n.2.2.2.2.2.2.2.2.1,())=_ from nS K n 4 _ H];simp only[BD];rcases and3 r with e|e|e|e
  ·rw[e];rfl
  ·rw[e];rfl
  ·rw[e];simp only[show ((2:Int)==0)=false from rfl,show ((2:Int)==1)=false from rfl,show ((2:Int)==2)=true from rfl,show ((2:Int)==3)=false from rfl,cond_false,cond_true];unfold m8
   match y:aa.others n with
   |[] =>
    rw[show decide ((BE n.2.2.2.2.2.2.2.2.2.2.2.2.2.2:Int)>0)=false by show decide (((aa.others n).length:Int)>0)=false;rw[y];rfl];rfl
   |[x] =>
    have J:=h.table x (by rw[y];simp);have z:(aa.others n).length=1:=by rw[y];rfl
    rw[show decide ((BE n.2.2.2.2.2.2.2.2.2.2.2.2.2.2:Int)>0)=true by show decide (((aa.others n).length:Int)>0)=true;rw[z];rfl,show decide ((BE n.2.2.2.2.2.2.2.2.2.2.2.2.2.2:Int)=0)=false by show decide (((aa.others n).length:Int)=0)=false;rw[z];rfl];simp only[cond_true,cond_false];rw[show idx n.2.2.2.2.2.2.2.2.2.2.2.2.2.2 (CG (aR .i64 (B4 r (2 ^ 10)) 255) (BE n.2.2.2.2.2.2.2.2.2.2.2.2.2.2:Int))=some x by
     show idx (aa.others n) (CG (aR .i64 (B4 r (2 ^ 10)) 255) ((aa.others n).length:Int))=some x;rw[z,y,show ((1:Nat):Int)=1 from rfl,Int.tmod_one];rfl]
    simp only[BD,Q153.f];rw[szb _ _ _ (by omega) (by have:=J.2;simp;omega)];rfl
   |_::_::_=>exact absurd h.short (by rw[y];simp)
  ·rw[e];rfl
theorem Ai (K:Nat)(n:aa)(r:Int)(M:NB n)(h:hY n)(O:ax (aa.table n))(J:1048577<K):Q109.f K (n,r,())=some ((eX n r,()),()):=by
 have I:=M.table;simp only[Q109.f,zcp4];rw[yZ K n _ M h O J];simp only[BD,eX];cases aR .i64 r 3==1 with
 |true=>rfl
 |false =>
  simp only[cond_false];rw[show Q77.f K (n.2.2.2.2.2.2.2.2.1,(λX=>(Q108.f K (X.1,n,())).map λy=>y.1.1),())=_ from qw K (aa.table n) _ (m7 n) I J (λf _=>by
   simp only[Q108.f,m7];cases f.2.2.1 != 4 <;> cases f.1 != n.1 <;> rfl)]
  simp only[BD];show (bif aR .i64 r 3==3 then some (([],()),()) else (bif ((cd n).length:Int)==0 then _ else _))=_;cases aR .i64 r 3==3 with
  |true=>rfl
  |false =>
   simp only[cond_false,Cq];by_cases u:cd n=[]
   ·rw[decide_eq_true u,show (((cd n).length:Int)==0)=true by rw[u];rfl];rfl
   ·have Y:0<(cd n).length:=CU.2 u;rw[decide_eq_false u,show (((cd n).length:Int)==0)=false by simp;exact u];simp only[cond_false];show (bif decide (((cd n).length:Int)=0) then none else ((idx (cd n) (CG (aR .i64 (B4 r (2 ^ 2)) 255) ((cd n).length:Int))).bind λ_=>(idx (cd n) ((BG (CG (aR .i64 (B4 r (2 ^ 2)) 255) ((cd n).length:Int)):Nat):Int)).bind λZ=>_))=_;rw[decide_eq_false (by omega:¬ ((cd n).length:Int)=0),(eJ u).1,(eJ u).2.1];simp only[cond_false,BD];cases aR .i64 r 3==0 with
    |true =>
     simp only[cond_true];rw[uU K n 4 _ I];rfl
    |false =>
     simp only[cond_false,Q81.f,BD,Q0.f];unfold m8
     match H:aa.others n with
     |[] =>
      rw[show ((BE n.2.2.2.2.2.2.2.2.2.2.2.2.2.2:Int)==0)=true by show (((aa.others n).length:Int)==0)=true;rw[H];rfl];rfl
     |[x] =>
      have R:=h.table x (by rw[H];simp);have z:(aa.others n).length=1:=by rw[H];rfl
      rw[show ((BE n.2.2.2.2.2.2.2.2.2.2.2.2.2.2:Int)==0)=false by show (((aa.others n).length:Int)==0)=false;rw[z];rfl,show decide ((BE n.2.2.2.2.2.2.2.2.2.2.2.2.2.2:Int)=0)=false by show decide (((aa.others n).length:Int)=0)=false;rw[z];rfl];simp only[cond_false];rw[show idx n.2.2.2.2.2.2.2.2.2.2.2.2.2.2 (CG (aR .i64 (B4 (B4 r (2 ^ 2)) (2 ^ 10)) 255) (BE n.2.2.2.2.2.2.2.2.2.2.2.2.2.2:Int))=some x by
       show idx (aa.others n) (CG (aR .i64 (B4 (B4 r (2 ^ 2)) (2 ^ 10)) 255) ((aa.others n).length:Int))=some x;rw[z,H,show ((1:Nat):Int)=1 from rfl,Int.tmod_one];rfl]
      simp only[BD];rw[dY (by have:=R.2;omega)];rfl
     |_::_::_=>exact absurd h.short (by rw[H];simp)
def rk (f:af):Int:=f.2.1*16+f.2.2.1*2+(if f.2.2.2=true then 1 else 0)
theorem qA {f g:af}(u:bA f)(r:bA g):bR f g<->rk g<rk f:=by
 obtain⟨_,_,H,z⟩:=u;obtain⟨_,_,I,y⟩:=r;unfold bR rk;by_cases a:f.2.1=g.2.1
 ·rw[if_neg (by simpa using a)];by_cases c:f.2.2.1=g.2.2.1
  ·rw[if_neg (by simpa using c),a,c];cases f.2.2.2 <;> cases g.2.2.2 <;> simp <;> omega
  ·rw[if_pos c];cases f.2.2.2 <;> cases g.2.2.2 <;> simp <;> omega
 ·rw[if_pos a];cases f.2.2.2 <;> cases g.2.2.2 <;> simp <;> omega
theorem oj {t:List af}(z:Asc (λg:af=>g.1) t)(f:af):bS t f=(t,false)\/(bS t f=(bD (λg=>g.1) f t,true)/\∀ g∈t,g.1=f.1->bR f g):=by
 by_cases h:∃ g∈t,g.1=f.1
 ·obtain⟨g,r,e⟩:=h;obtain⟨i,J,rfl⟩:=BL r;rw[kv z J e];by_cases y:bR f t[i]
  ·rw[if_pos y];refine .inr ⟨rfl,λM u I=>?_⟩;rw[gR z u r (by rw[e,I])];exact y
  ·rw[if_neg y];exact .inl rfl
 ·have H:∀ g∈t,g.1≠f.1:=λg r e=>h ⟨g,r,e⟩
  exact .inr ⟨il H,λg r e=>absurd e (H g r)⟩
theorem ol {n:aa}(R:ax (aa.table n)):iE n<->(∀ d∈aa.doubts n,lG n d)/\Asc (λd:bN=>d.1) (aa.doubts n)/\∀ f∈aa.table n,f.2.2.1=2->∃ d∈aa.doubts n,d.1=f.1:=by
 have M:((aU (aa.table n)).map (λf:af=>f.1)).Pairwise (·<·):=by
  rw[B6];exact Cc _ R.2
 constructor
 ·rintro⟨h1,h2,h3⟩;refine⟨h1,h2,λf I u=>?_⟩;have r:((aa.doubts n).map (λd:bN=>d.1)).Pairwise (·<·):=by rw[B6];exact h2
  have:=(jg _ _ r M (λx y=>by
   obtain⟨d,r,rfl⟩:=BX.1 y;obtain⟨⟨g,J,e,H,_⟩,_⟩:=h1 d r;exact BX.2 ⟨g,BK.2 ⟨J,by simpa using H⟩,e⟩)).2 (by rw[BR,BR,h3])
  have O:f.1∈(aU (aa.table n)).map (λf:af=>f.1):=BX.2 ⟨f,BK.2 ⟨I,by simpa using u⟩,rfl⟩;rw[<- this]at O;obtain⟨d,r,e⟩:=BX.1 O;exact⟨d,r,e⟩
 ·rintro⟨h1,h2,h3⟩;refine⟨h1,h2,?_⟩;have r:((aa.doubts n).map (λd:bN=>d.1)).Pairwise (·<·):=by rw[B6];exact h2
  have Y:=(jg _ _ r M (λx y=>by
   obtain⟨d,r,rfl⟩:=BX.1 y;obtain⟨⟨g,J,e,H,_⟩,_⟩:=h1 d r;exact BX.2 ⟨g,BK.2 ⟨J,by simpa using H⟩,e⟩)).1
  have X:=(jg _ _ M r (λx y=>by
   obtain⟨f,I,rfl⟩:=BX.1 y;obtain⟨z,u⟩:=BK.1 I;obtain⟨d,r,e⟩:=h3 f z (by simpa using u);exact BX.2 ⟨d,r,e⟩)).1
  rw[BR,BR]at Y X;omega
def bd (n:aa):Int:=n.2.2.2.2.2.1
def ff (n:aa)(b:Int):Prop:=InP b 0 7/\ao b=ao n.1
theorem li {n:aa}(r:Asc (λg:af=>g.1) (aa.table n))(f:af)(b:Int):sayOf n f b=n \/
  (sayOf n f b=iT n (bD (λg=>g.1) f (aa.table n)) (dp (aa.cast n) f) (bif kd n f then aa.doubts n else cO (bd n) (aa.doubts n) f b)/\∀ g∈aa.table n,g.1=f.1->bR f g):=by
 rcases oj r f with h|⟨h,u⟩
 ·left;unfold sayOf;rw[h];rfl
 ·right;refine⟨?_,u⟩;unfold sayOf;rw[h];rfl
theorem vT {n:aa}{f:af}{b:Int}(X:ax (aa.table n))(hD:iE n)(hf:bA f)(hb:ff n b)(hn:0<=bd n)(c:List aM) :
  iE (iT n (bD (λg=>g.1) f (aa.table n)) c (bif kd n f then aa.doubts n else cO (bd n) (aa.doubts n) f b)):=by
 obtain⟨h1,h2,h3⟩:=(ol X).1 hD;have a1:ax (bD (λg:af=>g.1) f (aa.table n)):=⟨λg y=>by
  rcases aX.1 y with rfl|⟨y,_⟩
  ·exact hf
  ·exact X.1 g y,fh X.2⟩
 refine (ol (n:=iT n _ c _) a1).2 ?_;have J:∀ d∈aa.doubts n,d.1≠f.1->∀ ds,lG (iT n (bD (λg:af=>g.1) f (aa.table n)) c ds) d:=λd z u ds=>by
  obtain⟨⟨g,y,Y,O,R⟩,r⟩:=h1 d z;exact⟨⟨g,aX.2 (.inr ⟨y,by rw[Y];exact u⟩),Y,O,R⟩,r⟩
 have I:∀ g∈bD (λg:af=>g.1) f (aa.table n),g.1≠f.1->g.2.2.1=2->∃ d∈aa.doubts n,d.1=g.1:=λg y u h=>by
  rcases aX.1 y with rfl|⟨y,_⟩
  ·exact absurd rfl u
  ·exact h3 g y h
 cases hs:kd n f with
 |true =>
  obtain⟨g0,M,s1,s2,s3⟩:=of_decide_eq_true hs;refine⟨λd z=>?_,h2,λg y h=>?_⟩
  ·by_cases u:d.1=f.1
   ·obtain⟨⟨g,y,Y,O,R⟩,r⟩:=h1 d z;rw[gR X.2 y M (by rw[Y,s1,u])]at O R;exact⟨⟨f,aX.2 (.inl rfl),u.symm,by rw[<- s3];exact O,by rw[<- s2];exact R⟩,r⟩
   ·exact J d z u _
  ·by_cases u:g.1=f.1
   ·have a0:g=f:=by
     rcases aX.1 y with h|⟨_,h⟩
     ·exact h
     ·exact absurd u h
    rw[a0]at h ⊢;obtain⟨d,z,e⟩:=h3 g0 M (by rw[s3];exact h);exact⟨d,z,by rw[e,s1]⟩
   ·exact I g y u h
 |false =>
  by_cases H:f.2.2.1=2
  ·have e:cO (bd n) (aa.doubts n) f b=bD (λd=>d.1) (mkD (bd n) f b) (aa.doubts n):=by unfold cO;rw[if_pos H]
   simp only[cond_false];rw[e];refine⟨λd z=>?_,fh h2,λg y h=>?_⟩
   ·rcases aX.1 z with rfl|⟨z,u⟩
    ·exact⟨⟨f,aX.2 (.inl rfl),rfl,H,rfl⟩,⟨hn,CJ _⟩,List.cons_ne_nil _ _,λx hx=>by rw[CD.1 hx];exact hb,C0 _ _⟩
    ·exact J d z u _
   ·by_cases u:g.1=f.1
    ·exact⟨mkD (bd n) f b,aX.2 (.inl rfl),u.symm⟩
    ·obtain⟨d,z,e⟩:=I g y u h;exact⟨d,aX.2 (.inr ⟨z,λe'=>u (e.symm.trans e')⟩),e⟩
  ·have e:cO (bd n) (aa.doubts n) f b=(aa.doubts n).filter (λd=>!(d.1==f.1)):=by unfold cO;rw[if_neg H]
   simp only[cond_false];rw[e];refine⟨λd z=>?_,md h2 _,λg y h=>?_⟩
   ·obtain⟨z,u⟩:=BK.1 z;exact J d z (by simpa using u) _
   ·have u:g.1≠f.1:=λu=>by
     rcases aX.1 y with Z|⟨_,Z⟩
     ·rw[Z]at h;exact H h
     ·exact Z u
    obtain⟨d,z,e⟩:=I g y u h;exact⟨d,BK.2 ⟨z,by rw[e];simpa using u⟩,e⟩
theorem vU {n:aa}{f:af}(R:ax (aa.table n))(O:cR (aa.cast n))(Y:gV (aa.table n) (aa.cast n))(M:bA f)(X:∀ g∈aa.table n,g.1=f.1->bR f g) :
  gV (bD (λg=>g.1) f (aa.table n)) (dp (aa.cast n) f):=by
 have z:∀ x∈aa.cast n,∃ g∈bD (λg:af=>g.1) f (aa.table n),g.1=x.1.1/\¬ bR x.1 g:=λx r=>by
  obtain⟨g,J,e,H⟩:=Y x r;by_cases u:g.1=f.1
  ·refine⟨f,aX.2 (.inl rfl),by rw[<- e,u],λh=>H ?_⟩;have I:=(O.1 x r).1;have y:=R.1 g J;have:=X g J u;rw[qA M y]at this;rw[qA I M]at h;rw[qA I y];omega
  ·exact⟨g,aX.2 (.inr ⟨J,u⟩),e,H⟩
 intro x r;unfold dp at r;split at r
 ·exact z x r
 ·rcases aX.1 r with rfl|⟨r,_⟩
  ·exact⟨f,aX.2 (.inl rfl),rfl,xw f⟩
  ·exact z x r
structure UpX (n:aa):Prop where
 me:InP n.1 0 7
 now0:0<=bd n
 table:ax (aa.table n)
 site:ce (aa.table n) (ao n.1)
 cast:cR (aa.cast n)
 vs:gV (aa.table n) (aa.cast n)
 probe:cW n
 doubts:iE n
 coord:cC (aa.coord n)
 places:ew n.1 (aa.places n)
 others:c8 n.1 (aa.others n)
theorem UpX.of {n:aa}(h:UpP n)(H:InP n.1 0 7)(O:0<=bd n):UpX n:=by
 obtain⟨R,X,_,⟨z,J⟩,I,M,y,r,u⟩:=h;exact⟨H,O,R,X,z,J,I,M,y,r,u⟩
theorem UpX.up {n:aa}(h:UpX n)(r:cL n):UpP n:=⟨h.table,h.site,r,⟨h.cast,h.vs⟩,h.probe,h.doubts,h.coord,h.places,h.others⟩
theorem UpX.say {n:aa}(h:UpX n):b7 n:=by
 refine b7.mk' h.table h.cast h.doubts.2.1 λd r=>?_
 obtain⟨f,u,e,_⟩:=(h.doubts.1 d r).1;rw[<- e];exact (h.table.1 f u).1
theorem ff.me {n:aa}(h:InP n.1 0 7):ff n n.1:=⟨h,rfl⟩
theorem re {n m:aa}(h:cW n)(hm:m.1=n.1)(X:aa.probe m=aa.probe n)(H:∀ g∈aa.table n,∃ r∈aa.table m,r.1=g.1)(Z:bd n<=bd m)(hs:n.2.2.2.2.2.2.1<=m.2.2.2.2.2.2.1):cW m:=by
 unfold cW at h ⊢;rw[X,hm];split at h
 ·rename_i y;rw[if_pos y];exact h
 ·rename_i y;rw[if_neg y];obtain⟨J,⟨g,Y,O⟩,⟨M,p3⟩,⟨R,z⟩⟩:=h;obtain⟨r,u,I⟩:=H g Y;exact⟨J,⟨r,u,I.trans O⟩,⟨M,Cs p3 Z⟩,⟨R,Cs z hs⟩⟩
theorem UpX.said {n:aa}{f:af}{b:Int}(h:UpX n)(u:bA f)(z:ao f.1=ao n.1)(I:ff n b):UpX (sayOf n f b):=by
 rcases li h.table.2 f b with e|⟨e,H⟩
 ·rw[e];exact h
 ·have y:=λg r=>iI (n:=n) (f:=f) (b:=b) (g:=g) r
  rw[e]at y ⊢;refine⟨h.me,h.now0,⟨λg r=>?_,fh h.table.2⟩,λg r=>?_,pI h.cast u,vU h.table h.cast h.vs u H,re h.probe rfl rfl y (CJ _) (CJ _),vT h.table h.doubts u I h.now0 _,h.coord,h.places,h.others⟩
  ·rcases aX.1 r with rfl|⟨r,_⟩
   ·exact u
   ·exact h.table.1 g r
  ·rcases aX.1 r with rfl|⟨r,_⟩
   ·exact z
   ·exact h.site g r
theorem xA {n:aa}(u:Asc (λg:af=>g.1) (aa.table n)){f g:af}{b:Int}(r:g.1≠f.1):g∈aa.table (sayOf n f b)<->g∈aa.table n:=by
 rcases li u f b with e|⟨e,_⟩
 ·rw[e]
 ·rw[e];exact aX.trans ⟨λh=>h.elim (λh=>absurd (by rw[h]) r) (·.1),λh=>.inr ⟨h,r⟩⟩
theorem rg {n:aa}(y:Asc (λg:af=>g.1) (aa.table n)){f:af}{b:Int}(h:∀ g∈aa.table n,g.1=f.1->bR f g):f∈aa.table (sayOf n f b):=by
 have H:bS (aa.table n) f=(bD (λg=>g.1) f (aa.table n),true):=by
  rcases oj y f with e|⟨e,_⟩
  ·by_cases u:∃ g∈aa.table n,g.1=f.1
   ·obtain⟨g,r,z⟩:=u;obtain⟨i,I,rfl⟩:=BL r;rw[kv y I z,if_pos (h _ r z)]
   ·exact il λg r e=>u ⟨g,r,e⟩
  ·exact e
 unfold Go.Proofs.YtaegajachoklkaaGreatEv.sayOf;rw[H];exact aX.2 (.inl rfl)
def OnN (n m:aa):Prop:=∃ t c r,m=iT n t c r
theorem OnN.refl (n:aa):OnN n n:=⟨_,_,_,rfl⟩
theorem OnN.say {n m:aa}(h:OnN n m)(f:af)(b:Int):OnN n (Go.Proofs.YtaegajachoklkaaGreatEv.sayOf m f b):=by
 obtain⟨t,c,z,rfl⟩:=h;obtain⟨u,y,r,e,_⟩:=iH (iT n t c z) f b;exact⟨u,y,r,e⟩
def ml (n:aa):af:=(n.1,n.2.2.2.2.1,(if n.2.2.1=true then 4 else 1),n.2.2.2.1)
theorem mm {n m:aa}(I:Asc (λg:af=>g.1) (aa.table m))(y:OnN n m){f:af}{b:Int}(r:f.1≠n.1)(h:cL m):cL (sayOf m f b):=by
 obtain⟨t,c,R,e⟩:=y.say f b;obtain⟨O,M,z,H⟩:=y;have J:ml n∈aa.table m:=by rw[H]at h ⊢;exact h
 have u:=(xA I (f:=f) (b:=b) (g:=ml n) (λh=>r h.symm)).2 J;rw[e]at u ⊢;exact u
theorem tf {n:aa}(h:UpX n)(H:cL n){d:bN}(u:d∈aa.doubts n):d.1≠n.1:=by
 obtain⟨⟨g,y,e,r,_⟩,_⟩:=h.doubts.1 d u;intro z;have I:ml n∈aa.table n:=H;have:=gR h.table.2 y I (by rw[e,z];rfl);rw[this]at r;revert r;show (if n.2.2.1=true then (4:Int) else 1)=2->False;split <;> omega
theorem kS {n:aa}(h:UpX n)(hs:cL n):UpX (c9 n)/\cL (c9 n)/\OnN n (c9 n):=by
 have:=jj (st:=cP) (Inv:=λm=>(UpX m/\cL m/\OnN n m)/\∀ g∈aa.table n,∃ z∈aa.table m,z.1=g.1) (ds:=aa.doubts n) (n:=n) ⟨⟨h,hs,OnN.refl n⟩,λg u=>⟨g,u,rfl⟩⟩ ?_
 ·exact this.1
 ·rintro m d Z ⟨⟨r,y,Y⟩,R⟩;have X:=tf h hs Z;unfold cP;cases jS m.2.2.2.2.2.1 d.2.2.1 d.2.2.2.length with
  |false=>exact⟨⟨r,y,Y⟩,R⟩
  |true =>
   obtain⟨⟨g,u,e,_⟩,_⟩:=h.doubts.1 d Z;obtain⟨z,H,e'⟩:=R g u;obtain⟨h1,h2,h3⟩:=cD r.table ⟨z,H,e'.trans e⟩;have O:ao (fZ (aB (aa.table m) d.1)).1=ao m.1:=by
    show ao (aB (aa.table m) d.1).1=ao m.1;exact r.site _ h3
   have I:(fZ (aB (aa.table m) d.1)).1≠n.1:=by rw[show (fZ (aB (aa.table m) d.1)).1=_ from h2];exact X
   refine⟨⟨r.said (lJ h1) O (ff.me r.me),mm r.table.2 Y I y,Y.say _ _⟩,λg u=>?_⟩;obtain⟨g1,M,e1⟩:=R g u;obtain⟨g2,J,e2⟩:=iI (f:=fZ (aB (aa.table m) d.1)) (b:=m.1) M;exact⟨g2,J,e2.trans e1⟩
theorem UpX.setProbe {n:aa}(h:UpX n){p:af}(r:cW (setP n p)):UpX (setP n p):=⟨h.me,h.now0,h.table,h.site,h.cast,h.vs,r,h.doubts,h.coord,h.places,h.others⟩
theorem xB (n:aa):cW (setP n noP):=by
 unfold cW;exact (if_pos rfl).mpr rfl
theorem xC {n:aa}(h:UpX n)(z:cL n):UpX (a7 n).1/\cL (a7 n).1/\∃ p,OnN (setP n p) (a7 n).1:=by
 have r:UpX n/\cL n/\∃ p,OnN (setP n p) n:=⟨h,z,aa.probe n,OnN.refl n⟩;have y:UpX (setP n noP):=h.setProbe (xB n);unfold a7;cases J:(aa.probe n).1==-1 with
 |true=>exact r
 |false =>
  have H:(aa.probe n).1≠-1:=by simpa using J
  have u:=h.probe;unfold cW at u;rw[if_neg H]at u;simp only[cond_false];cases M:cN (aB (aa.table n) (aa.probe n).1) with
  |false=>exact⟨y,z,_,OnN.refl _⟩
  |true =>
   obtain⟨R,O,X⟩:=cD h.table (el M);simp only[BM,cond_false];cases decide (n.2.2.2.2.2.1-(aa.probe n).2.1>=4) with
   |true =>
    simp only[cond_true];cases (aB (aa.table n) (aa.probe n).1).2.2.1==1 with
    |true =>
     have I:ao (mf (aB (aa.table n) (aa.probe n).1)).1=ao (setP n noP).1:=by
      show ao (aB (aa.table n) (aa.probe n).1).1=ao n.1;exact h.site _ X
     refine⟨y.said (qx R) I (ff.me (n:=setP n noP) h.me),mm (n:=setP n noP) (m:=setP n noP) h.table.2 (OnN.refl (setP n noP)) ?_ z,noP,(OnN.refl (setP n noP)).say _ _⟩;rw[show (mf (aB (aa.table n) (aa.probe n).1)).1=_ from O];exact u.1
    |false=>exact⟨y,z,_,OnN.refl _⟩
   |false =>
    simp only[cond_false];cases decide (n.2.2.2.2.2.1-(aa.probe n).2.1>=2) with
    |false=>exact r
    |true =>
     simp only[cond_true];cases (aa.probe n).2.2.2 with
     |true=>exact r
     |false =>
      refine⟨h.setProbe ?_,z,_,OnN.refl _⟩;show cW (jL n);unfold cW;rw[if_neg (show ¬ (aa.probe (jL n)).1=-1 from H)];exact u
def gY (n:aa):Option Int:=((List.range 8).map (bh n)).find? λx=>x != n.1&&cN (aB (aa.table n) x)
def jm (n:aa):Int:=n.2.2.2.2.2.2.1
def dL (n:aa):aa×List aq:=bif decide (jm n>=999999) then (n,[]) else match gY n with
 |some to=>(qz n to,[sg n to])
 |none=>(n,[])
theorem rh {n:aa}{to:Int}(h:gY n=some to):to≠n.1/\cN (aB (aa.table n) to)=true:=by
 have:=C6 h;simpa using this
theorem xD {l:List aM}{T:List Int}{x:aM}(h:x∈dx l T l.length):∃ y∈l,x.1=y.1:=by
 unfold dx at h;obtain⟨u,_⟩:=BK.1 h;obtain⟨i,r,rfl⟩:=BL u;rw[eH]at r;rw[fj l T r];refine⟨l[i],BF r,?_⟩;unfold dK;rw[cn r];cases decide ((i:Int)∈T) <;> rfl
theorem UpX.way {n:aa}(h:UpX n):UpX (iq n):=⟨h.me,h.now0,h.table,h.site,te h.cast _,λx r=>by
 obtain⟨y,I,e⟩:=xD r;obtain⟨g,u,H,z⟩:=h.vs y I;exact⟨g,u,by rw[e,H],by rw[e];exact z⟩,h.probe,h.doubts,h.coord,h.places,h.others⟩
structure tg (n:aa):Prop where
 seq:InP (jm n) 0 999999
 turn:InP n.2.2.2.2.2.2.2.1 0 8
theorem Bd {n:aa}(h:UpX n)(u:cL n)(y:tg n):UpX (dL n).1/\cL (dL n).1/\tg (dL n).1/\(dL n).1.1=n.1/\bd (dL n).1=bd n/\(dL n).1.2.2.2.2.1=n.2.2.2.2.1:=by
 unfold dL;by_cases I:jm n>=999999
 ·rw[decide_eq_true I];exact⟨h,u,y,rfl,rfl,rfl⟩
 ·rw[decide_eq_false I];simp only[cond_false];cases O:gY n with
  |none=>exact⟨h,u,y,rfl,rfl,rfl⟩
  |some to =>
   obtain⟨z,R⟩:=rh O;obtain⟨M,J,X⟩:=cD h.table (el R);obtain⟨⟨Y,Z⟩,_⟩:=y;have r:InP to 0 7:=J ▸ M.1;have H:=h.way;refine⟨⟨h.me,h.now0,h.table,h.site,H.cast,H.vs,?_,h.doubts,h.coord,h.places,h.others⟩,u,⟨⟨show 0<=jm n+1 by omega,show jm n+1<=999999 by omega⟩,show 0<=to+1 by have:=r.1;omega,show to+1<=8 by have:=r.2;omega⟩,rfl,rfl,rfl⟩;show cW (qz n to);unfold cW;rw[if_neg (show ¬ (aa.probe (qz n to)).1=-1 by have:=r.1;show ¬ to=-1;omega)];exact⟨z,⟨_,X,J⟩,⟨h.now0,CJ _⟩,show 1<=jm n+1 by omega,CJ _⟩
def cF (n:aa):aa:=(n.1,n.2.1,n.2.2.1,n.2.2.2.1,n.2.2.2.2.1,n.2.2.2.2.2.1+1,n.2.2.2.2.2.2)
def dQ (m:aa):aa×List aq:=bif (aa.probe m).1==-1 then dL m else (m,[])
def fk (n:aa):aa×List aq:=a7 (c9 (cF n))
def f9 (n:aa):aa:=(dQ (fk n).1).1
def mn (n:aa)(r:Int):List aq:=(fk n).2++(dQ (fk n).1).2++eX (f9 n) r
theorem UpX.later {n:aa}(h:UpX n):UpX (cF n):=by
 have M:bd (cF n)=bd n+1:=rfl;have J:=h.now0;refine⟨h.me,by omega,h.table,h.site,h.cast,h.vs,re h.probe rfl rfl (λg r=>⟨g,r,rfl⟩) (by omega) (CJ _),⟨λd u=>?_,h.doubts.2⟩,h.coord,h.places,h.others⟩;obtain⟨H,⟨z,I⟩,y⟩:=h.doubts.1 d u;exact⟨H,⟨z,Cs I (show bd n<=bd (cF n) by omega)⟩,y⟩
structure UpN (n:aa):Prop where
 x:UpX n
 self:cL n
 now1:bd n<=999999
 seq:tg n
 inc:InP n.2.2.2.2.1 0 999
 up:n.2.1=true
theorem UpN.of {n:aa}(h:hX n)(u:n.2.1=true):UpN n:=by
 obtain⟨I,y,J,z,H,r⟩:=h;rw[if_pos u]at r;exact⟨UpX.of r I y.1,r.2.2.1,y.2,⟨J,z⟩,H,u⟩
theorem UpN.ok {n:aa}(h:UpN n):hX n:=⟨h.x.me,⟨h.x.now0,h.now1⟩,h.seq.seq,h.seq.turn,h.inc,by rw[if_pos h.up];exact h.x.up h.self⟩
theorem pM {n:aa}(h:UpN n)(Y:bd n<999999):UpN (fk n).1/\(fk n).1.1=n.1/\(fk n).1.2.2.1=n.2.2.1:=by
 have y:cL (cF n):=h.self;obtain⟨z,O,I⟩:=kS h.x.later y;obtain⟨H,J,p,u⟩:=xC z O;obtain⟨t,c,ds,R⟩:=I;obtain⟨Z,X,r,M⟩:=u;have e:(fk n).1=_:=M;rw[R]at e;refine⟨⟨H,J,?_,⟨?_,?_⟩,?_,?_⟩,?_,?_⟩
 ·show bd (fk n).1<=999999;rw[e];show bd n+1<=999999;omega
 ·show InP (jm (fk n).1) 0 999999;rw[e];exact h.seq.seq
 ·show InP (fk n).1.2.2.2.2.2.2.2.1 0 8;rw[e];exact h.seq.turn
 ·show InP (fk n).1.2.2.2.2.1 0 999;rw[e];exact h.inc
 ·show (fk n).1.2.1=true;rw[e];exact h.up
 ·rw[e];rfl
 ·rw[e];rfl
theorem th {m:aa}:(dL m).1.2.1=m.2.1/\(dL m).1.2.2.1=m.2.2.1:=by
 unfold dL;cases decide (jm m>=999999) with
 |true=>exact⟨rfl,rfl⟩
 |false =>
  cases gY m with
  |none=>exact⟨rfl,rfl⟩
  |some to=>exact⟨rfl,rfl⟩
theorem vV {m:aa}(h:UpN m):UpN (dQ m).1/\(dQ m).1.1=m.1/\(dQ m).1.2.2.1=m.2.2.1:=by
 unfold dQ;cases (aa.probe m).1==-1 with
 |false=>exact⟨h,rfl,rfl⟩
 |true =>
  obtain⟨I,r,z,y,u,H⟩:=Bd h.x h.self h.seq;refine⟨⟨I,r,?_,z,?_,?_⟩,y,th.2⟩
  ·show bd (dL m).1<=999999;rw[u];exact h.now1
  ·show InP (dL m).1.2.2.2.2.1 0 999;rw[H];exact h.inc
  ·show (dL m).1.2.1=true;rw[th.1];exact h.up
theorem lM {n:aa}(h:UpN n)(y:bd n<999999):UpN (f9 n)/\(f9 n).1=n.1/\(f9 n).2.2.1=n.2.2.1:=by
 obtain⟨I,z,J⟩:=pM h y;obtain⟨r,H,u⟩:=vV I;exact⟨r,H.trans z,u.trans J⟩
theorem za {f g:af}(h:g.2.1<f.2.1):bR f g:=by
 unfold bR;rw[if_pos (by omega)];exact h
theorem Aj {f g:af}(h:bR f g):g.2.1<=f.2.1:=by
 unfold bR at h;split at h <;> omega
theorem UpX.inc {n:aa}(h:UpX n)(i:Int):UpX (im n i):=⟨h.me,h.now0,h.table,h.site,h.cast,h.vs,h.probe,h.doubts,h.coord,h.places,h.others⟩
theorem ri {n:aa}(h:UpX n)(u:cL n){g:af}(r:g∈aa.table n)(e:g.1=n.1):g=ml n:=gR h.table.2 r u (by rw[e];rfl)
theorem xE {n:aa}(h:UpX n)(r:cL n):aB (aa.table n) n.1=ml n:=jI h.table.2 (f:=ml n) r
theorem zb {n:aa}(h:UpN n)(z:n.2.2.1=false):UpN (mU n)/\(mU n).1=n.1:=by
 have H:bA (n.1,n.2.2.2.2.1,4,n.2.2.2.1):=⟨h.x.me,h.inc,show (1:Int)<=4 by omega,show (4:Int)<=4 by omega⟩;have r:=h.x.said H rfl (ff.me h.x.me);have y:(n.1,n.2.2.2.2.1,(4:Int),n.2.2.2.1)∈aa.table (sayOf n (n.1,n.2.2.2.2.1,4,n.2.2.2.1) n.1):=rg h.x.table.2 λg u e=>by
  rw[ri h.x h.self u e];unfold bR ml;rw[z];simp
 obtain⟨t,c,I,e⟩:=(OnN.refl n).say (n.1,n.2.2.2.2.1,4,n.2.2.2.1) n.1;unfold mU;rw[e]at r y ⊢;exact⟨⟨⟨r.me,r.now0,r.table,r.site,r.cast,r.vs,r.probe,r.doubts,r.coord,r.places,r.others⟩,y,h.now1,⟨h.seq.seq,h.seq.turn⟩,h.inc,h.up⟩,rfl⟩
theorem xF {n:aa}{f:af}(h:UpN n)(u:n.2.2.1=false)(M:bA f):UpN (fI n f)/\(fI n f).1=n.1/\(fI n f).2.2.1=false:=by
 unfold fI;cases H:decide (bR f (aB (aa.table n) n.1))&&decide (f.2.1<999) with
 |false=>exact⟨h,rfl,u⟩
 |true =>
  rw[CK,decide_eq_true_eq,decide_eq_true_eq,xE h.x h.self]at H;obtain⟨R,O⟩:=H;have J:n.2.2.2.2.1<=f.2.1:=Aj R;have r:=uW (n:=n) h.x.me M O;have z:UpX (sayOf (im n (f.2.1+1)) (n.1,f.2.1+1,1,n.2.2.2.1) n.1):=(h.x.inc (f.2.1+1)).said r rfl (ff.me (n:=im n (f.2.1+1)) h.x.me);have I:(n.1,f.2.1+1,(1:Int),n.2.2.2.1)∈aa.table (sayOf (im n (f.2.1+1)) (n.1,f.2.1+1,1,n.2.2.2.1) n.1):=rg (n:=im n (f.2.1+1)) h.x.table.2 λg y e=>by
   rw[ri h.x h.self y e];exact za (show n.2.2.2.2.1<f.2.1+1 by omega)
  obtain⟨t,c,X,e⟩:=(OnN.refl (im n (f.2.1+1))).say (n.1,f.2.1+1,1,n.2.2.2.1) n.1;simp only[cond_true];rw[show sayOf (im n (f.2.1+1)) (n.1,f.2.1+1,1,n.2.2.2.1) n.1=iT (im n (f.2.1+1)) t c X from e]at z I ⊢;refine⟨⟨z,?_,h.now1,⟨h.seq.seq,h.seq.turn⟩,r.2.1,h.up⟩,rfl,u⟩;show (n.1,f.2.1+1,(if n.2.2.1=true then (4:Int) else 1),n.2.2.2.1)∈_;rw[u];exact I
theorem m9 (f:af)(b:Int)(d:bN):(eh f b d).1=d.1/\(eh f b d).2.1=d.2.1/\(eh f b d).2.2.1=d.2.2.1:=by
 unfold eh;cases d.1==f.1&&d.2.1==f.2.1&&f.2.2.1==2 <;> exact⟨rfl,rfl,rfl⟩
theorem UpX.conf {n:aa}(h:UpX n)(f:af){b:Int}(Z:ff n b):UpX (kR n f b):=by
 refine⟨h.me,h.now0,h.table,h.site,h.cast,h.vs,h.probe,⟨λd H=>?_,?_,?_⟩,h.coord,h.places,h.others⟩
 ·obtain⟨r,u,rfl⟩:=BX.1 H;obtain⟨k1,R,Y⟩:=m9 f b r;obtain⟨⟨g,hg,X,I,M⟩,J,O,z⟩:=h.doubts.1 r u;refine⟨⟨g,hg,by rw[k1];exact X,I,by rw[R];exact M⟩,by rw[Y];exact J,?_⟩;unfold eh;cases r.1==f.1&&r.2.1==f.2.1&&f.2.2.1==2 with
  |false=>exact⟨O,z⟩
  |true =>
   refine⟨List.ne_nil_of_mem (aX.2 (.inl rfl)),λx y=>?_,fh z.2⟩;rcases aX.1 y with rfl|⟨y,_⟩
   ·exact Z
   ·exact z.1 x y
 ·show Asc _ ((aa.doubts n).map (eh f b));unfold Asc;rw[B6];exact h.doubts.2.1.imp λ {a c} h=>by show (eh f b a).1<(eh f b c).1;rw[(m9 f b a).1,(m9 f b c).1];exact h
 ·show _=((aa.doubts n).map (eh f b)).length;rw[BR];exact h.doubts.2.2
theorem tj {n:aa}{f:af}{b:Int}(h:UpN n)(z:n.2.2.1=false)(H:bA f)(J:ao f.1=ao n.1)(I:ff n b):UpN (eo b n f)/\(eo b n f).1=n.1/\(eo b n f).2.2.1=false:=by
 unfold eo;by_cases r:f.1=n.1
 ·rw[show (f.1==n.1)=true by simpa using r];exact xF h z H
 ·rw[show (f.1==n.1)=false by simpa using r];have y:=h.x.said H J I;have u:=mm h.x.table.2 (OnN.refl n) (b:=b) r h.self;obtain⟨t,c,M,e⟩:=(OnN.refl n).say f b;simp only[cond_false];rw[show sayOf n f b=iT n t c M from e]at y u ⊢;exact⟨⟨y.conf f I,u,h.now1,⟨h.seq.seq,h.seq.turn⟩,h.inc,h.up⟩,rfl,z⟩
theorem mo {n:aa}{t:List af}{b:Int}(h:UpN n)(z:n.2.2.1=false)(H:ax t)(I:ce t (ao n.1))(y:ff n b):UpN (jk n t b)/\(jk n t b).1=n.1/\(jk n t b).2.2.1=false:=by
 refine jj (st:=eo b) (Inv:=λm=>UpN m/\m.1=n.1/\m.2.2.1=false) (ds:=t) (n:=n) ⟨h,rfl,z⟩ λm f u ⟨J,r,M⟩=>?_
 have:=tj (b:=b) J M (H.1 f u) (by rw[r];exact I f u) ⟨y.1,by rw[r];exact y.2⟩;exact⟨this.1,this.2.1.trans r,this.2.2⟩
theorem UpN.learns {n:aa}(h:UpN n):ey n:=⟨h.x.say,h.x.me,⟨_,h.self,rfl⟩,λd y=>by
 obtain⟨_,_,_,r⟩:=h.x.doubts.1 d y;exact⟨r.2,λx u=>(r.1 x u).1⟩⟩
def setO (n:aa)(o:List cV):aa:=(n.1,n.2.1,n.2.2.1,n.2.2.2.1,n.2.2.2.2.1,n.2.2.2.2.2.1,n.2.2.2.2.2.2.1,n.2.2.2.2.2.2.2.1,n.2.2.2.2.2.2.2.2.1,n.2.2.2.2.2.2.2.2.2.1,n.2.2.2.2.2.2.2.2.2.2.1,n.2.2.2.2.2.2.2.2.2.2.2.1,n.2.2.2.2.2.2.2.2.2.2.2.2.1,n.2.2.2.2.2.2.2.2.2.2.2.2.2.1,o)
theorem UpN.setOthers {n:aa}(h:UpN n){o:List cV}(r:c8 n.1 o):UpN (setO n o):=⟨⟨h.x.me,h.x.now0,h.x.table,h.x.site,h.x.cast,h.x.vs,h.x.probe,h.x.doubts,h.x.coord,h.x.places,r⟩,h.self,h.now1,⟨h.seq.seq,h.seq.turn⟩,h.inc,h.up⟩
theorem vW {H s:Int}{r:List af}{o:List cV}(I:c8 H o)(J:InP s 0 1)(z:s≠ao H)(O:r≠[])(M:ax r)(y:ce r s):c8 H (bD (λx:cV=>x.1) (s,r) o) :=
 ⟨λx u=>by
  rcases aX.1 u with rfl|⟨u,_⟩
  ·exact⟨J,z,O,M,y⟩
  ·exact I.1 x u,fh I.2⟩
def gZ (l:List Int)(t:Int):List Int:=(l++[t]).drop ((l++[t]).length-3)
def dD (l:List dH)(r:Int):List Int:=((l.find? λp=>p.1==r).map (·.2.2)).getD []
def o8 (l:List dH)(r:Int)(c:dw)(t:Int):List dH:=bD (λp=>p.1) (r,c,gZ (dD l r) t) l
def pN (n:aa)(c:dw)(p:List dH):aa:=(n.1,n.2.1,n.2.2.1,n.2.2.2.1,n.2.2.2.2.1,n.2.2.2.2.2.1,n.2.2.2.2.2.2.1,n.2.2.2.2.2.2.2.1,n.2.2.2.2.2.2.2.2.1,n.2.2.2.2.2.2.2.2.2.1,noP,n.2.2.2.2.2.2.2.2.2.2.2.1,c,p,n.2.2.2.2.2.2.2.2.2.2.2.2.2.2)
theorem ut {l:List dH}{r:Int}{t:Int}(h:t∈dD l r):∃ p∈l,t∈p.2.2:=by
 unfold dD at h;cases u:l.find? λp=>p.1==r with
 |none=>rw[u]at h;simp at h
 |some p =>
  rw[u]at h;exact⟨p,Cf u,h⟩
theorem xG {l:List Int}{t:Int}(u:∀ x∈l,InP x 1 60000)(y:InP t 1 60000):InP ((gZ l t).length:Int) 1 3/\∀ x∈gZ l t,InP x 1 60000:=by
 unfold gZ;constructor
 ·simp only[CA,BS,BJ,BN];constructor <;> omega
 ·intro x r;have:=List.mem_of_mem_drop r;rcases CN.1 this with h|h
  ·exact u x h
  ·rw[CD.1 h];exact y
theorem vX {y r:Int}{l:List dH}{c:dw}{t:Int}(h:ew y l)(R:InP r 0 7)(O:ao r=ao y)(M:r≠y)(I:cC c)(J:InP t 1 60000):ew y (o8 l r c t):=by
 have H:=xG (l:=dD l r) (t:=t) (λx z=>by
  obtain⟨p,u,z⟩:=ut z;exact (h.1 p u).2.2.2.2.2 x z) J
 exact⟨λp u=>by
  rcases aX.1 u with rfl|⟨u,_⟩
  ·exact⟨R,O,M,I,H.1,H.2⟩
  ·exact h.1 p u,fh h.2⟩
theorem UpN.heard {n:aa}(h:UpN n){c:dw}{p:List dH}(r:cC c)(u:ew n.1 p):UpN (pN n c p):=⟨⟨h.x.me,h.x.now0,h.x.table,h.x.site,h.x.cast,h.x.vs,xB n,h.x.doubts,r,u,h.x.others⟩,h.self,h.now1,⟨h.seq.seq,h.seq.turn⟩,h.inc,h.up⟩
theorem UpN.way {n:aa}(h:UpN n):UpN (iq n):=⟨h.x.way,h.self,h.now1,⟨h.seq.seq,h.seq.turn⟩,h.inc,h.up⟩
def Tot {α:Type}(o:Option α)(P:α->Prop):Prop:=∃ v,o=some v/\P v
section
variable {α β:Type} {P:α->Prop} {Q:β->Prop}
theorem Tot.ret {v:α}(h:P v):Tot (some v) P:=⟨v,rfl,h⟩
theorem Tot.mono {o:Option α}{r:α->Prop}(h:Tot o P)(k:∀ v,P v->r v):Tot o r:=by obtain⟨v,e,u⟩:=h;exact⟨v,e,k v u⟩
theorem Tot.bind {o:Option α}{g:α->Option β}(h:Tot o P)(k:∀ v,P v->Tot (g v) Q):Tot (o.bind g) Q:=by obtain⟨v,e,r⟩:=h;rw[e];exact k v r
theorem Tot.vl {o:Option α}{v:α}{g:α->Option β}(e:o=some v)(k:Tot (g v) Q):Tot (o.bind g) Q:=by rw[e];exact k
theorem Tot.cnd {b:Bool}{x y:Option α}(u:b=true->Tot x P)(r:b=false->Tot y P):Tot (bif b then x else y) P:=by
 cases b
 ·exact r rfl
 ·exact u rfl
theorem Tot.must {b:Bool}{x y:Option α}(r:b=true)(h:Tot x P):Tot (bif b then x else y) P:=by rw[r];exact h
theorem Tot.not {b:Bool}{x y:Option α}(r:b=false)(h:Tot x P):Tot (bif b then y else x) P:=by rw[r];exact h
theorem Tot.ix {xs:List α}{i:Int}{g:α->Option β}(u:0<=i)(z:i<xs.length)(k:∀ y∈xs,idx xs i=some y->Tot (g y) Q):Tot ((idx xs i).bind g) Q:=by
 obtain⟨n,rfl⟩:=BI u;have r:n<xs.length:=by omega
 have:=ag r;rw[this];exact k _ (BF r) this
theorem Tot.iter {A:Type}{step:(A->Option β)->A->Option β}(Inv:A->Prop)(m:A->Nat)(h:∀ (rec:A->Option β) (a:A),Inv a->(∀ r,Inv r->m r<m a->Tot (rec r) Q)->Tot (step rec a) Q):∀ (k:Nat) (a:A),m a<k->Inv a->Tot (ae step k a) Q:=by
 intro k;induction k with
 |zero=>intro a y;omega
 |succ k I =>
  intro a y H;exact h (ae step k) a H λr u z=>I r (by omega) u
end
theorem Ret.tot {o:Option RB}{P:Prop}(h:Ret o P):Tot o λv=>(v.1.1=true<->P):=by
 obtain⟨b,e,r⟩:=h;exact⟨_,e,r⟩
section
variable {α β:Type} {Q:β->Prop}
theorem Tot.cat {x y:ByteArray}{k:ByteArray->Option β}{a b:Nat}(r:x.size<=a)(u:y.size<=b)(h:∀ z:ByteArray,z.size<=a+b->Tot (k z) Q)(H:a+b<=4611686018427387904:=by omega):Tot (aV x y k) Q:=by
 unfold aV;rw[decide_eq_true (by omega)];exact h _ (by rw[ByteArray.size_append];omega)
theorem Tot.fit {a b c:Nat}{x y:Option β}(h:Tot x Q)(u:c<=1000:=by omega)(r:a+b<=2097152:=by omega):Tot (bif decide ((a+b)*c<=ak) then x else y) Q:=by
 have:=Ci r u;rw[decide_eq_true (by unfold ak;omega)];exact h
theorem Tot.ix2 {xs:List α}{i:Int}{g:α->Option β}(r:0<=i)(z:i<xs.length)(k:∀ y∈xs,idx xs i=some y->Tot (g y) Q):Tot ((idx xs i).bind λ_=>(idx xs ((BG i:Nat):Int)).bind g) Q :=
 Tot.ix r z λy u e=>by rw[Int.toNat_of_nonneg r,e];exact k y u e
end
theorem fJ (s:ByteArray):s.data.toList.length=s.size:=Array.length_toList
theorem iY (xs:List Int):(gF xs).size=xs.length:=by
 unfold gF;show (List.toArray _).size=_;rw[List.size_toArray,BR]
theorem rj (s:ByteArray):(eu s).length=s.size:=by
 unfold eu;rw[BR];exact fJ s
theorem dec_t:∀ (d k:Nat) (n:Int),0<=n->n<10 ^ (d+1)->n<=1000000000->d<=100->d<k->Tot (Q10.f k (n,())) λr=>r.1.1.size<=d+1:=by
 intro d;induction d with
 |zero =>
  intro k n H u O M R;obtain⟨k,rfl⟩:∃ m,k=m+1:=⟨k-1,by omega⟩;show Tot (Q10.step (Q10.f k) (n,())) _;simp only[Q10.step];refine Tot.not (decide_eq_false (show ¬ n< -9223372036854775807 by omega)) (Tot.not (decide_eq_false (show ¬ n<0 by omega)) (Tot.must (decide_eq_true (show n<10 by exact u)) (Tot.ret ?_)));show (gF _).size<=1;rw[iY];exact BT _
 |succ d X =>
  intro k n H u O M R;obtain⟨k,rfl⟩:∃ m,k=m+1:=⟨k-1,by omega⟩;show Tot (Q10.step (Q10.f k) (n,())) _;simp only[Q10.step];refine Tot.not (decide_eq_false (show ¬ n< -9223372036854775807 by omega)) (Tot.not (decide_eq_false (show ¬ n<0 by omega)) (Tot.cnd (λ_=>Tot.ret ?_) λh=>?_))
  ·show (gF _).size<=_;rw[iY];exact Nat.succ_le_succ (BU _)
  ·have h:¬ n<10:=of_decide_eq_false h;have e:Cl n 10=n / 10:=by rw[CC H]
   have y:(10:Int) ^ (d+1+1)=10 ^ (d+1)*10:=Int.pow_succ ..;have J:n / 10<10 ^ (d+1):=Int.ediv_lt_of_lt_mul (by omega) (by rw[<- y];exact u);rw[e,aE (by omega) (by omega)];refine Tot.bind (X k (n / 10) (by omega) J (by omega) (by omega) (by omega)) λv I=>Tot.cat I (b:=1) (by rw[iY];exact BT _) (λz Y=>Tot.ret Y) (by omega)
theorem lj (K:Nat)(n:Int)(u:0<=n)(z:n<=999999)(y:1048577<K):Tot (Q10.f K (n,())) λr=>r.1.1.size<=6 :=
 dec_t 5 K n u (by show n<1000000;omega) (by omega) (by omega) (by omega)
theorem tk (K:Nat)(i:Int)(y:0<=i)(u:i<=4):Tot (Q137.f K (i,())) λr=>r.1.1.size<=7:=by
 have:i=0\/i=1\/i=2\/i=3\/i=4:=by omega
 rcases this with rfl|rfl|rfl|rfl|rfl <;> exact⟨_,rfl,by decide⟩
theorem tm (K:Nat)(i:Int)(y:0<=i)(u:i<=6):Tot (Q134.f K (i,())) λr=>r.1.1.size<=4:=by
 have:i=0\/i=1\/i=2\/i=3\/i=4\/i=5\/i=6:=by omega
 rcases this with rfl|rfl|rfl|rfl|rfl|rfl|rfl <;> exact⟨_,rfl,by decide⟩
theorem zc (K:Nat)(t:List af)(J:ax t)(hK:1048577<K):Tot (Q140.f K (t,())) λr=>r.1.1.size<=240:=by
 have hl:=iU J.2 (λg hg=>(J.1 g hg).1);refine Tot.iter (step:=λrec a=>Q140.s0 K (t,()) rec a) (λa=>0<=a.2/\a.2<=t.length/\(a.1.size:Int)<=30*a.2) (λa=>t.length-a.2.toNat) ?_ K _ (by show t.length-BG 0<K;omega) ⟨by show (0:Int)<=0;omega,by show (0:Int)<=_;omega,by show (0:Int)<=30*0;omega⟩;rintro rec ⟨s,i⟩ ⟨h0,h1,h2⟩ ih;simp only at h0 h1 h2 ih ⊢;simp only[Q140.s0];refine Tot.cnd (λh=>?_) λh=>?_
 ·have h:=of_decide_eq_true h;obtain⟨n,rfl⟩:=BI h0;have hn:n<t.length:=by omega
  obtain⟨⟨f1,f2⟩,⟨f3,f4⟩,f5,f6⟩:=J.1 t[n] (BF hn);rw[ag hn,ar n (by omega)];simp only[BD];have go:∀ z:ByteArray,z.size<=s.size+29->Tot (rec (z,((n+1:Nat):Int))) λr=>r.1.1.size<=240:=λz hz=>ih _ ⟨by show (0:Int)<=((n+1:Nat):Int);omega,by show ((n+1:Nat):Int)<=_;omega,by show (z.size:Int)<=30*((n+1:Nat):Int);omega⟩ (by show t.length-BG ((n+1:Nat):Int)<t.length-BG (n:Int);omega)
  have body:∀ Y:ByteArray,Y.size<=s.size+1->Tot ((Q10.f K (t[n].1,())).bind λy3=>aV Y y3.1.1 λy4=>aV y4 (ByteArray.mk #[58]) λy5=>(Q10.f K (t[n].2.1,())).bind λy7=>aV y5 y7.1.1 λy8=>aV y8 (ByteArray.mk #[58]) λy9=>(Q137.f K (t[n].2.2.1,())).bind λX=>aV y9 X.1.1 λu=>bif t[n].2.2.2 then (aV u (ByteArray.mk #[42]) λy=>rec (y,((n+1:Nat):Int))) else (rec (u,((n+1:Nat):Int)))) λr=>r.1.1.size<=240:=λY O =>
   Tot.bind (lj K _ f1 (by omega) hK) λv1 s1=>Tot.cat O s1 λz1 I=>Tot.cat I (b:=1) (by decide) λz2 Z =>
   Tot.bind (lj K _ f3 (by omega) hK) λv2 s2=>Tot.cat Z s2 λz3 H=>Tot.cat H (b:=1) (by decide) λz4 R =>
   Tot.bind (tk K _ (by omega) f6) λv3 s3=>Tot.cat R s3 λz5 M =>
   Tot.cnd (λ_=>Tot.cat M (b:=1) (by decide) λz6 a0=>go z6 (by omega)) λ_=>go z5 (by omega)
  exact Tot.cnd (λ_=>Tot.cat (BT _) (b:=1) (by decide) λz hz=>body z hz) λ_=>body s (by omega)
 ·have h:=of_decide_eq_false h;exact Tot.ret (by show s.size<=240;omega)
theorem om (K:Nat)(t:List af)(z:t.length<=1048576)(u:1048577<K):Tot (Q141.f K (t,())) λr=>r.1.1.size<=240:=by
 simp only[Q141.f];refine Tot.bind (gp K t z u).tot λv y=>Tot.cnd (λ_=>Tot.ret (by show (0:Nat)<=240;omega)) λh=>?_
 have H:=y.1 (by simpa using h);exact Tot.cnd (λ_=>Tot.ret (by show (1:Nat)<=240;omega)) λ_=>Tot.bind (zc K t H u) λv h=>Tot.ret h
theorem pO (K:Nat)(n:Int)(I:-999999<=n)(H:n<=999999)(y:1048577<K):Tot (Q144.f K (n,())) λr=>r.1.1.size<=7:=by
 simp only[Q144.f];refine Tot.cnd (λh=>?_) λh=>?_
 ·have h:n<0:=of_decide_eq_true h;rw[aE (by omega) (by omega)];exact Tot.bind (lj K _ (by omega) (by omega) y) λv s=>Tot.cat (a:=1) (by decide) s λz u=>Tot.ret u
 ·have h:¬ n<0:=of_decide_eq_false h;exact Tot.bind (lj K _ (by omega) (by omega) y) λv s=>Tot.cat (a:=1) (by decide) s λz u=>Tot.ret u
theorem zd (K:Nat)(w:aq)(I:iS w)(y:1048577<K):Tot (Q145.f K (w,())) λr=>r.1.1.size<=400:=by
 obtain⟨_,⟨a1,Y⟩,⟨H,b2⟩,⟨X,c2⟩,⟨z,d2⟩,⟨R,e2⟩,⟨⟨x1,x2⟩,⟨y1,y2⟩,⟨O,z2⟩,⟨u1,Z⟩⟩,M,_⟩:=I;have J:=cq M;simp only[Q145.f];have u:(ByteArray.mk #[32]).size<=1:=by decide
 refine Tot.cnd (λ_=>?_) λ_=>?_ <;>
 exact Tot.cat (a:=3) (by decide) u λ_ h=>Tot.bind (tm K _ (by omega) Y) λ_ s=>Tot.cat h s λ_ h=>Tot.cat h u λ_ h =>
  Tot.bind (lj K _ H (by omega) y) λ_ s=>Tot.cat h s λ_ h=>Tot.cat h u λ_ h =>
  Tot.bind (lj K _ X (by omega) y) λ_ s=>Tot.cat h s λ_ h=>Tot.cat h u λ_ h =>
  Tot.bind (lj K _ z (by omega) y) λ_ s=>Tot.cat h s λ_ h=>Tot.cat h u λ_ h =>
  Tot.bind (lj K _ R (by omega) y) λ_ s=>Tot.cat h s λ_ h=>Tot.cat h u λ_ h =>
  Tot.bind (pO K _ (by show -999999<=(aq.coord w).1;omega) (by show (aq.coord w).1<=999999;omega) y) λ_ s=>Tot.cat h s λ_ h=>Tot.cat h u λ_ h =>
  Tot.bind (pO K _ (by show -999999<=(aq.coord w).2.1;omega) (by show (aq.coord w).2.1<=999999;omega) y) λ_ s=>Tot.cat h s λ_ h=>Tot.cat h u λ_ h =>
  Tot.bind (lj K _ O (by show (aq.coord w).2.2.1<=999999;omega) y) λ_ s=>Tot.cat h s λ_ h=>Tot.cat h u λ_ h =>
  Tot.bind (lj K _ (by show 0<=(aq.coord w).2.2.2;omega) (by show (aq.coord w).2.2.2<=999999;omega) y) λ_ s=>Tot.cat h s λ_ h=>Tot.cat h u λ_ h =>
  Tot.bind (om K _ J y) λ_ s=>Tot.cat h s λ_ h=>Tot.ret (BW h (by decide))
theorem ze (K:Nat)(n:Int)(I:1048577<K):Tot (Q147.f K (n,())) λ_=>True:=by
 refine Tot.iter (step:=λrec a=>Q147.s0 K (n,()) rec a) (λa=>0<=a.2/\a.2<=8) (λa=>8-a.2.toNat) ?_ K _ (by show 8-BG 0<K;omega) ⟨by show (0:Int)<=0;omega,by show (0:Int)<=8;omega⟩;rintro rec ⟨s,i⟩ ⟨r,H⟩ u;simp only at r H u ⊢;simp only[Q147.s0];obtain⟨i,rfl⟩:=BI r;refine Tot.cnd (λh=>?_) λ_=>Tot.ret trivial
 have h:=of_decide_eq_true h;rw[ar i (by omega)];have y:∀ z:Int,Tot (rec (z,((i+1:Nat):Int))) λ_=>True:=λz=>u _ ⟨by show (0:Int)<=((i+1:Nat):Int);omega,by show ((i+1:Nat):Int)<=8;omega⟩ (by show 8-BG ((i+1:Nat):Int)<8-BG (i:Int);omega)
 exact Tot.cnd (λ_=>y _) λ_=>y _
theorem Ak (K:Nat)(s:ByteArray)(J:s.size<=1000000)(H:1048577<K):Tot (Q148.f K (s,())) λ_=>True:=by
 refine Tot.iter (step:=λrec a=>Q148.s0 K (s,()) rec a) (λa=>0<=a.2/\a.2<=s.size) (λa=>s.size-a.2.toNat) ?_ K _ (by show s.size-BG 0<K;omega) ⟨by show (0:Int)<=0;omega,by show (0:Int)<=_;omega⟩;rintro rec ⟨z,i⟩ ⟨r,I⟩ u;simp only at r I u ⊢;simp only[Q148.s0];obtain⟨i,rfl⟩:=BI r;refine Tot.cnd (λh=>?_) λ_=>Tot.ret trivial
 have h:=of_decide_eq_true h;rw[ar i (by omega)];exact Tot.ix r (by rw[fJ];exact h) λy _ _=>Tot.bind (ze K _ H) λv _=>u _ ⟨by show (0:Int)<=((i+1:Nat):Int);omega,by show ((i+1:Nat):Int)<=_;omega⟩ (by show s.size-BG ((i+1:Nat):Int)<s.size-BG (i:Int);omega)
theorem hex_t (K:Nat)(n:Int)(R:1048577<K):Tot (Q146.f K (n,())) λr=>r.1.1.size<=8:=by
 refine Tot.iter (step:=λrec a=>Q146.s0 K (n,()) rec a) (λa=>-1<=a.2/\a.2<=7/\a.1.length=7-a.2) (λa=>(a.2+1).toNat) ?_ K _ (by show BG 8<K;omega) ⟨by show (-1:Int)<=7;omega,by show (7:Int)<=7;omega,by show (0:Int)=7-7;omega⟩;rintro rec ⟨z,i⟩ ⟨M,J,I⟩ u;simp only at M J I u ⊢;simp only[Q146.s0];refine Tot.cnd (λh=>?_) λh=>?_
 ·have h:=of_decide_eq_true h;rw[aE (n:=4*i) (by omega) (by omega),aE (n:=i-1) (by omega) (by omega)];obtain⟨H,O⟩:=lL (a:=B4 n (2 ^ min (BG (4*i)) 64)) (m:=15) (by omega);refine Tot.not (decide_eq_false (by omega)) (Tot.ix H (Int.lt_of_le_of_lt O (by decide)) λy _ _=>Tot.fit ?_ (by omega) (by simp only[BJ,BN];omega));exact u _ ⟨by show -1<=i-1;omega,by show i-1<=7;omega,by show ((z++[_]).length:Int)=7-(i-1);rw[BS,CZ];omega⟩ (by show BG (i-1+1)<BG (i+1);omega)
 ·have h:=of_decide_eq_false h;refine Tot.ret ?_;show (gF z).size<=8;rw[iY];omega
theorem oo (K:Nat)(w:aq)(J:(aq.table w).length<=1048576)(u:1048577<K):Tot (Q149.f K (w,())) λr=>r.1.1.size<=409/\(¬ iS w->r.1.1=ByteArray.mk #[]):=by
 simp only[Q149.f];refine Tot.bind (sM K w J u).tot λv M=>Tot.cnd (λ_=>Tot.ret ⟨by show (0:Nat)<=409;omega,λ_=>rfl⟩) λh=>?_
 have H:=M.1 (by simpa using h);exact Tot.bind (zd K w H u) λb O=>Tot.cat O (b:=1) (by decide) λz y=>Tot.bind (Ak K _ (by omega) u) λs _=>Tot.bind (hex_t K _ u) λx I=>Tot.cat y I λz y=>Tot.ret ⟨y,λh=>absurd H h⟩
theorem vY (K:Nat)(s:ByteArray)(c:Int)(hs:s.size<=100000)(hK:1048577<K):Tot (Q133.f K (s,c,())) λr=>r.1.1.length<=s.size+1/\∀ p∈r.1.1,p.size<=s.size:=by
 have H:∀ i j:Nat,(s.extract i j).size<=s.size:=λi j=>by rw[Cm];omega
 refine Tot.iter (step:=λrec a=>Q133.s0 K (s,c,()) rec a) (λa=>0<=a.2.1/\a.2.1<=a.2.2/\a.2.2<=s.size/\a.1.length<=a.2.2/\∀ p∈a.1,p.size<=s.size) (λa=>s.size-a.2.2.toNat) ?_ K _ (by show s.size-BG 0<K;omega) ⟨by show (0:Int)<=0;omega,by show (0:Int)<=0;omega,by show (0:Int)<=_;omega,by show (0:Int)<=0;omega,λp M=>by cases M⟩;rintro rec ⟨u,from_,i⟩ ⟨z,J,X,Y,O⟩ R;simp only at z J X Y O R ⊢;simp only[Q133.s0];obtain⟨i,rfl⟩:=BI (Cs z J);have I:∀ x:ByteArray,x.size<=s.size->∀ p∈u++[x],p.size<=s.size:=λx Z p M=>by
  rcases CN.1 M with h|h
  ·exact O p h
  ·rw[CD.1 h];exact Z
 refine Tot.cnd (λh=>?_) λh=>?_
 ·have h:=of_decide_eq_true h;rw[ar i (by omega)];refine Tot.ix (Cs z J) (by rw[fJ];exact h) λy _ _=>Tot.cnd (λ_=>Tot.must (by rw[decide_eq_true z,decide_eq_true J,decide_eq_true X];rfl) (Tot.fit (R _ ⟨?_,?_,?_,?_,I _ (H _ _)⟩ ?_) (by omega) (by simp only[BJ,BN];omega))) λ_=>R _ ⟨z,?_,?_,?_,O⟩ ?_
  ·show (0:Int)<=((i+1:Nat):Int);omega
  ·show ((i+1:Nat):Int)<=((i+1:Nat):Int);omega
  ·show ((i+1:Nat):Int)<=s.size;omega
  ·show ((u++[_]).length:Int)<=((i+1:Nat):Int);rw[BS,CZ];omega
  ·show s.size-BG ((i+1:Nat):Int)<s.size-BG (i:Int);omega
  ·show from_<=((i+1:Nat):Int);omega
  ·show ((i+1:Nat):Int)<=s.size;omega
  ·show (u.length:Int)<=((i+1:Nat):Int);omega
  ·show s.size-BG ((i+1:Nat):Int)<s.size-BG (i:Int);omega
 ·refine Tot.must (by rw[decide_eq_true z,decide_eq_true (by omega),decide_eq_true (CJ _)];rfl) (Tot.fit (Tot.ret ⟨?_,I _ (H _ _)⟩) (by omega) (by simp only[BJ,BN];omega));show (u++[_]).length<=_;rw[BS,CZ];omega
theorem ke (K:Nat)(s:ByteArray)(Y:s.size<=100000)(X:1048577<K):Tot (Q135.f K (s,())) λ_=>True:=by
 simp only[Q135.f,Q135.pre];have r:((s.size:Int)<=6)->Tot (Q135.l0 K (s,()) (0,0)) λ_=>True:=λR=>by
  refine Tot.iter (step:=λrec a=>Q135.s0 K (s,()) rec a) (λa=>0<=a.2/\a.2<=s.size) (λa=>s.size-a.2.toNat) ?_ K _ (by show s.size-BG 0<K;omega) ⟨by show (0:Int)<=0;omega,by show (0:Int)<=_;omega⟩;rintro rec ⟨z,i⟩ ⟨H,O⟩ J;simp only at H O J ⊢;simp only[Q135.s0];obtain⟨i,rfl⟩:=BI H;refine Tot.cnd (λh=>?_) λ_=>Tot.ret trivial
  have h:=of_decide_eq_true h;have I:((i:Nat):Int)<s.data.toList.length:=by rw[fJ];exact h
  rw[ar i (by omega)];exact Tot.ix H I λy _ _=>Tot.cnd (λ_=>Tot.ret trivial) λ_=>Tot.ix H I λy _ _=>Tot.cnd (λ_=>Tot.ret trivial) λ_=>Tot.ix H I λy _ _=>J _ ⟨by show (0:Int)<=((i+1:Nat):Int);omega,by show ((i+1:Nat):Int)<=_;omega⟩ (by show s.size-BG ((i+1:Nat):Int)<s.size-BG (i:Int);omega)
 refine Tot.bind (cB K _ _ _).tot λv M=>Tot.cnd (λ_=>Tot.ret trivial) λh=>?_
 have u:=M.1 (by simpa using h);exact Tot.cnd (λh=>Tot.ix (by omega) (by rw[fJ];have:=of_decide_eq_true h;omega) λy _ _=>Tot.cnd (λ_=>Tot.ret trivial) λ_=>r u.2) λ_=>r u.2
theorem u5 (K:Nat)(s:ByteArray)(J:s.size<=100000)(H:1048577<K):Tot (Q136.f K (s,())) λ_=>True:=by
 simp only[Q136.f];refine Tot.cnd (λ_=>Tot.ret trivial) λh=>?_
 have h:=of_decide_eq_false h;have u:(0:Int)<s.data.toList.length:=by rw[fJ];omega
 have r:Tot (bif decide ((0:Int)<=1)&&decide ((1:Int)<=(s.size:Int))&&decide ((s.size:Int)<=(s.size:Int)) then ((Q135.f K (s.extract (BG 1) (BG (s.size:Int)),())).bind λz=>bif decide (z.1.1<0) then (some (((-1),false,()),())) else (bif s.toList==(ByteArray.mk #[45,48]).toList then (some (((-1),false,()),())) else ((idx s.data.toList 0).bind λI=>bif (I.toNat:Int)==45 then (some ((wr .i64 (0-z.1.1),true,()),())) else (some ((z.1.1,true,()),()))))) else none) λ (_:(Int×Bool×Unit)×Unit)=>True :=
  Tot.must (by rw[decide_eq_true (by omega:(0:Int)<=1),decide_eq_true (by omega:(1:Int)<=s.size),decide_eq_true (CJ _)];rfl) (Tot.bind (ke K _ (by rw[Cm];omega) H) λv _=>Tot.cnd (λ_=>Tot.ret trivial) λ_=>Tot.cnd (λ_=>Tot.ret trivial) λ_=>Tot.ix (by omega) u λy _ _=>Tot.cnd (λ_=>Tot.ret trivial) λ_=>Tot.ret trivial)
 exact Tot.ix (by omega) u λy _ _=>Tot.cnd (λ_=>Tot.ix (by omega) u λy _ _=>Tot.cnd (λ_=>Tot.ret trivial) λ_=>r) λ_=>r
theorem Al (K:Nat)(s:ByteArray)(hs:s.size<=100000)(X:1048577<K):Tot (Q138.f K (s,())) λ_=>True:=by
 simp only[Q138.f,Q138.pre];have H:∀ (Y:List ByteArray) (n1 n2:Int) (b:Bool),Y.length=3->Tot (Q138.l0 K (s,()) (Y,1,n1,n2,0,b)) λ_=>True:=λY n1 n2 b hx=>by
  refine Tot.iter (step:=λrec a=>Q138.s0 K (s,()) rec a) (λa=>a.1.length=3/\1<=a.2.1/\a.2.1<=5) (λa=>5-a.2.1.toNat) ?_ K _ (by show 5-BG 1<K;omega) ⟨hx,by show (1:Int)<=1;omega,by show (1:Int)<=5;omega⟩;rintro rec ⟨ys,i,m1,m2,m3,m4⟩ ⟨h0,h1,h2⟩ Z;simp only at h0 h1 h2 Z ⊢;simp only[Q138.s0];refine Tot.cnd (λh=>?_) λ_=>Tot.bind (oT K _).tot λ_ _=>Tot.ret trivial
  have h:=of_decide_eq_true h;rw[aE (n:=i+1) (by omega) (by omega)];have go:∀ m:Int,Tot (rec (ys,i+1,m1,m2,m,m4)) λ_=>True:=λm=>Z _ ⟨h0,by show 1<=i+1;omega,by show i+1<=5;omega⟩ (by show 5-BG (i+1)<5-BG i;omega)
  exact Tot.bind (tk K i (by omega) h) λv _=>Tot.ix2 (by omega) (by omega) λy _ _=>Tot.cnd (λ_=>go _) λ_=>go _
 have u:∀ (z:ByteArray) (b:Bool),z.size<=s.size->Tot ((Q133.f K (z,58,())).bind λr=>bif (BE r.1.1:Int) != 3 then (some (((0,(0,(0,b))),false,()),())) else ((idx r.1.1 0).bind λ_=>(idx r.1.1 (BG 0:Nat)).bind λO=>(Q135.f K (O,())).bind λM=>(idx r.1.1 1).bind λ_=>(idx r.1.1 (BG 1:Nat)).bind λR=>(Q135.f K (R,())).bind λI=>Q138.l0 K (s,()) (r.1.1,1,M.1.1,I.1.1,0,b))) λ_=>True:=λz b hz =>
  Tot.bind (vY K z 58 (by omega) X) λv ⟨_,hp⟩=>Tot.cnd (λ_=>Tot.ret trivial) λh=>by
   have h3:(v.1.1.length:Int)=3:=by simpa using h
   exact Tot.ix2 (by omega) (by omega) λy J _=>Tot.bind (ke K y (by have:=hp y J;omega) X) λ_ _=>Tot.ix2 (by omega) (by omega) λy J _=>Tot.bind (ke K y (by have:=hp y J;omega) X) λ_ _=>H _ _ _ _ (by omega)
 refine Tot.cnd (λh=>?_) λ_=>u s false (BT _)
 have h:=of_decide_eq_true h;rw[aE (n:=(s.size:Int)-1) (by omega) (by omega)];exact Tot.ix (by omega) (by rw[fJ];omega) λy _ _=>Tot.cnd (λ_=>Tot.must (by simp only[CK,decide_eq_true_eq];omega) (u _ true (by rw[Cm];omega))) λ_=>u s false (BT _)
theorem Am (K:Nat)(s:ByteArray)(X:s.size<=100000)(I:1048577<K):Tot (Q139.f K (s,())) λr=>r.1.1.length<=100001:=by
 simp only[Q139.f,Q139.pre];refine Tot.cnd (λ_=>Tot.ret (by show (0:Nat)<=_;omega)) λ_=>Tot.bind (vY K s 44 X I) ?_
 rintro⟨⟨xs,⟨⟩⟩,⟨⟩⟩ ⟨hl,hp⟩;dsimp only at hl hp ⊢;refine Tot.iter (step:=λrec a=>Q139.s0 K (s,()) rec a) (λa=>a.2.1=xs/\0<=a.2.2/\a.2.2<=xs.length/\(a.1.length:Int)<=a.2.2) (λa=>xs.length-a.2.2.toNat) ?_ K _ (by show xs.length-BG 0<K;omega) ⟨rfl,by show (0:Int)<=0;omega,by show (0:Int)<=_;omega,by show (0:Int)<=0;omega⟩;rintro rec ⟨u,J,i⟩ ⟨rfl,z,R,O⟩ H;simp only at z R O hl hp H ⊢;simp only[Q139.s0];obtain⟨i,rfl⟩:=BI z;refine Tot.cnd (λh=>?_) λ_=>Tot.ret (by show u.length<=_;omega)
 have h:=of_decide_eq_true h;rw[ar i (by omega)];exact Tot.ix2 z h λy M _=>Tot.bind (Al K y (by have:=hp y M;omega) I) λv _=>Tot.cnd (λ_=>Tot.ret (by show (0:Nat)<=_;omega)) λ_=>Tot.fit (H _ ⟨rfl,by show (0:Int)<=((i+1:Nat):Int);omega,by show ((i+1:Nat):Int)<=_;omega,by show ((u++[_]).length:Int)<=((i+1:Nat):Int);rw[BS,CZ];omega⟩ (by show J.length-BG ((i+1:Nat):Int)<J.length-BG (i:Int);omega)) (by omega) (by simp only[BJ,BN];omega)
theorem An (K:Nat)(s:ByteArray)(z:s.size<=100000)(u:1048577<K):Tot (Q142.f K (s,())) λr=>r.1.1.length<=100001:=by
 simp only[Q142.f];exact Tot.bind (Am K s z u) λv y=>Tot.cnd (λ_=>Tot.ret (by show (0:Nat)<=_;omega)) λ_=>Tot.bind (om K _ (by omega) u) λx _=>Tot.cnd (λ_=>Tot.ret (by show (0:Nat)<=_;omega)) λ_=>Tot.ret y
theorem pP (K:Nat)(s:ByteArray)(Z:s.size<=100000)(H:1048577<K):Tot (Q150.f K (s,())) λr=>r.1.2.1=true->iS r.1.1:=by
 simp only[Q150.f,Q150.pre];refine Tot.bind (vY K s 32 Z H) ?_;rintro⟨⟨xs,⟨⟩⟩,⟨⟩⟩ ⟨hl,hp⟩;dsimp only at hl hp ⊢;refine Tot.cnd (λ_=>Tot.ret λh=>by cases h) λ_=>Tot.cnd (λ_=>Tot.ret λh=>by cases h) λh=>?_
 have M:(xs.length:Int)=12:=by simpa using h
 have u:∀ y∈xs,y.size<=100000:=λy z=>BW (hp y z) Z
 have I:∀ p:Int,Tot (Q150.l0 K (s,()) (xs,1,p,0)) λr=>r.1.2.1=true->iS r.1.1:=λp=>by
  refine Tot.iter (step:=λrec a=>Q150.s0 K (s,()) rec a) (λa=>a.1=xs/\1<=a.2.1/\a.2.1<=7) (λa=>7-a.2.1.toNat) ?_ K _ (by show 7-BG 1<K;omega) ⟨rfl,by show (1:Int)<=1;omega,by show (1:Int)<=7;omega⟩;rintro rec ⟨ys,i,p,k⟩ ⟨rfl,X,h2⟩ O;simp only at X h2 hl M u O ⊢;simp only[Q150.s0];refine Tot.cnd (λh=>?_) λ_=>?_
  ·have h:=of_decide_eq_true h;rw[aE (n:=i+1) (by omega) (by omega)];have Y:∀ m:Int,Tot (rec (ys,i+1,p,m)) λr=>r.1.2.1=true->iS r.1.1:=λm=>O _ ⟨rfl,by show 1<=i+1;omega,by show i+1<=7;omega⟩ (by show 7-BG (i+1)<7-BG i;omega)
   exact Tot.bind (tm K i (by omega) h) λv _=>Tot.ix2 (by omega) (by omega) λy _ _=>Tot.cnd (λ_=>Y _) λ_=>Y _
  ·refine Tot.ix2 (by omega) (by omega) λy z _=>Tot.bind (ke K y (u y z) H) λ_ _=>Tot.ix2 (by omega) (by omega) λy z _=>Tot.bind (ke K y (u y z) H) λ_ _=>Tot.ix2 (by omega) (by omega) λy z _=>Tot.bind (ke K y (u y z) H) λ_ _=>Tot.ix2 (by omega) (by omega) λy z _=>Tot.bind (ke K y (u y z) H) λ_ _ =>
    Tot.ix2 (by omega) (by omega) λy z _=>Tot.bind (u5 K y (u y z) H) λ_ _=>Tot.ix2 (by omega) (by omega) λy z _=>Tot.bind (u5 K y (u y z) H) λ_ _=>Tot.ix2 (by omega) (by omega) λy z _=>Tot.bind (An K y (u y z) H) λt ht=>Tot.ix2 (by omega) (by omega) λy z _=>Tot.bind (ke K y (u y z) H) λ_ _=>Tot.ix2 (by omega) (by omega) λy z _=>Tot.bind (ke K y (u y z) H) λ_ _ =>
    Tot.cnd (λ_=>Tot.ret λh=>by cases h) λ_=>Tot.cnd (λ_=>Tot.ret λh=>by cases h) λ_=>Tot.cnd (λ_=>Tot.ret λh=>by cases h) λ_=>Tot.bind (oo K _ (by show t.1.1.length<=1048576;omega) H) λx ⟨_,hx⟩=>Tot.cnd (λ_=>Tot.ret λh=>by cases h) λJ=>Tot.ret λ_=>?_
   refine Classical.byContradiction λhn=>?_
   rw[hx hn]at J;have R:(ByteArray.mk #[]).toList=s.toList:=by
    have:((ByteArray.mk #[]).toList != s.toList)=false:=J;simpa using this
   rw[DD,DD]at R;have h0:=congrArg BE R;rw[fJ,fJ]at h0;have X:(ByteArray.mk #[]).size=0:=rfl;omega
 exact Tot.ix2 (by omega) (by omega) λy _ _=>Tot.cnd (λ_=>I 2) λ_=>I 1
def Rt (v r:Nat):Prop:=r*r<=v/\v<(r+1)*(r+1)
theorem Be (K:Nat)(v:Nat)(hv:v<1500000001*1500000001)(hK:1048577<K):∃ r,Rt v r/\Q173.f K ((v:Int),())=some (((r:Int),()),()):=by
 have H:∀ (e k l h:Nat),h-l<2 ^ e->e<k->l<=h->h<=1500000000->l*l<=v->v<(h+1)*(h+1)->∃ r,Rt v r/\ae (λrec a=>Q173.s0 K ((v:Int),()) rec a) k ((l:Int),(h:Int))=some (((r:Int),()),()):=by
  intro e;induction e with
  |zero =>
   intro k l h O hk z R u y;obtain⟨k,rfl⟩:∃ I,k=I+1:=⟨k-1,by omega⟩;have:l=h:=by omega
   subst this;refine⟨l,⟨u,y⟩,?_⟩;show Q173.s0 K _ _ _=_;simp only[Q173.s0];rw[decide_eq_false (by omega)];rfl
  |succ e X =>
   intro k l h O hk z R u y;obtain⟨k,rfl⟩:∃ I,k=I+1:=⟨k-1,by omega⟩;show ∃ r,Rt v r/\Q173.s0 K _ _ _=_;simp only[Q173.s0];by_cases hl:l<h
   ·rw[decide_eq_true (show (l:Int)<(h:Int) by omega)];have e1:wr .i64 ((l:Int)+(h:Int))=(l:Int)+h:=aE (by omega) (by omega);have e2:wr .i64 ((l:Int)+(h:Int)+1)=((l+h+1:Nat):Int):=(aE (by omega) (by omega)).trans (by omega);have e3:Cl ((l+h+1:Nat):Int) 2=(((l+h+1) / 2:Nat):Int):=by
     rw[CC (by omega)];omega
    rw[e1,e2,e3];have hm:l<(l+h+1) / 2/\(l+h+1) / 2<=h:=by omega
    have M:h-(l+h+1) / 2<2 ^ e/\(l+h+1) / 2-1-l<2 ^ e:=by
     rw[Nat.pow_succ]at O;omega
    generalize (l+h+1) / 2=m at *;have e4:wr .i64 (m:Int)=m:=aE (by omega) (by omega);have e5:Cl (v:Int) (m:Int)=((v / m:Nat):Int):=by
     rw[CC (by omega)];rfl
    have a0:v / m<=v:=Nat.div_le_self _ _;have J:m<=v / m<->m*m<=v:=Nat.le_div_iff_mul_le (by omega);generalize v / m=q at *;have e6:wr .i64 (q:Int)=(q:Int):=aE (by omega) (by omega);rw[e4,e5,e6,decide_eq_false (show ¬ (m:Int)=0 by omega)];simp only[cond_true,cond_false];by_cases Y:m<=q
    ·rw[decide_eq_true (by omega)];exact X k m h M.1 (by omega) (by omega) R (J.1 Y) y
    ·rw[decide_eq_false (by omega)];have Z:¬ m*m<=v:=λh4=>Y (J.2 h4)
     have e7:wr .i64 ((m:Int)-1)=((m-1:Nat):Int):=eU m (by omega) (by omega);rw[e7];exact X k l (m-1) M.2 (by omega) (by omega) (by omega) u (by rw[show m-1+1=m by omega];omega)
   ·have:l=h:=by omega
    subst this;refine⟨l,⟨u,y⟩,?_⟩;rw[decide_eq_false (by omega)];rfl
 exact H 31 K 0 1500000000 (by decide) (by omega) (by omega) (by omega) (by omega) hv
def iZ (x:Int):Int:=if x< -1000000000 then -1000000000 else if x>1000000000 then 1000000000 else x
theorem qB (K:Nat)(x:Int):Q172.f K (x,())=some ((iZ x,()),()):=by
 simp only[Q172.f,Q169.f,iZ];by_cases h:x< -1000000000
 ·rw[decide_eq_true h,if_pos h];rfl
 ·rw[decide_eq_false h,if_neg h];by_cases r:x>1000000000
  ·rw[decide_eq_true r,if_pos r];rfl
  ·rw[decide_eq_false r,if_neg r];rfl
theorem tn (x:Int):-1000000000<=iZ x/\iZ x<=1000000000:=by
 unfold iZ;split
 ·omega
 ·split <;> omega
theorem zK {a:Int}(h:-1000000000<=a/\a<=1000000000):0<=a*a/\a*a<=1000000000000000000:=by
 have e:∃ b:Nat,b<=1000000000/\a*a=((b*b:Nat):Int):=by
  refine⟨a.natAbs,by omega,?_⟩;exact (Int.natAbs_mul_self).symm
 obtain⟨b,r,u⟩:=e;have:=Ci r r;omega
theorem xH (K:Nat)(x y:Int)(z:1048577<K):Tot (Q174.f K (x,y,())) λ_=>True:=by
 simp only[Q174.f];rw[qB K x,qB K y];simp only[BD];have O:=zK (tn x);have M:=zK (tn y);generalize iZ x*iZ x=a at *;generalize iZ y*iZ y=b at *;have H:wr .i64 a=a:=aE (by omega) (by omega);have u:wr .i64 b=b:=aE (by omega) (by omega);have I:wr .i64 (a+b)=(((a+b).toNat:Nat):Int):=(aE (by omega) (by omega)).trans (by omega);rw[H,u,I];obtain⟨r,_,J⟩:=Be K (a+b).toNat (by omega) z;rw[J];simp only[BD];rw[qB K r];exact⟨_,rfl,trivial⟩
theorem Bf (K:Nat)(c d:dw)(r:1048577<K):Tot (Q175.f K (c,d,())) λ_=>True:=by
 simp only[Q175.f];exact Tot.bind (iD K c).tot λ_ _=>Tot.cnd (λ_=>Tot.ret trivial) λ_=>Tot.bind (iD K d).tot λ_ _=>Tot.cnd (λ_=>Tot.ret trivial) λ_=>Tot.bind (xH K _ _ r) λ_ _=>Tot.ret trivial
theorem kT (K:Nat)(n u y:Int)(h:u<=y):Tot (Q169.f K (n,u,y,())) λr=>InP r.1.1 u y:=by
 simp only[Q169.f];exact Tot.cnd (λ_=>Tot.ret ⟨CJ _,h⟩) λH=>Tot.cnd (λ_=>Tot.ret ⟨h,CJ _⟩) λz=>Tot.ret ⟨Int.not_lt.1 (of_decide_eq_false H),Int.not_lt.1 (of_decide_eq_false z)⟩
theorem Bg (K:Nat)(c b:dw)(t s:Int)(H:cC c)(R:1048577<K):Tot (Q180.f K (c,b,t,s,())) λr=>cC r.1.1:=by
 simp only[Q180.f];refine Tot.bind (iD K c).tot λv I=>Tot.cnd (λh=>?_) λ_=>Tot.bind (iD K b).tot λv I=>Tot.cnd (λ_=>Tot.ret H) λu=>Tot.bind (cB K _ _ _).tot λv' J=>Tot.cnd (λ_=>Tot.ret H) λy=>?_
 ·rw[I.2 H]at h;cases h
 have hb:=I.1 (by simpa using u);have Z:=J.1 (by simpa using y);obtain⟨_,_,_,⟨c1,c2⟩⟩:=H;obtain⟨_,_,_,⟨b1,b2⟩⟩:=hb;obtain⟨t1,t2⟩:=Z;have Y:¬ wr .i64 (c.2.2.2+b.2.2.2)=0:=by rw[aE (by omega) (by omega)];omega
 have z:∀ w:Int,Tot (Q179.f K (c,b,w,t,())) λr=>InP r.1.1 1 1500:=λw=>by
  simp only[Q179.f,Q178.f];refine Tot.bind (P:=λ_=>True) (Tot.cnd (λ_=>Tot.ret trivial) λ_=>Tot.ret trivial) λ_ _=>Tot.not (decide_eq_false (show ¬ t=0 by omega)) (Tot.bind (kT K _ _ _ (by omega)) λ_ _=>Tot.not (decide_eq_false Y) (Tot.bind (kT K _ _ _ (by omega)) λ_ h=>Tot.ret h))
 refine Tot.bind (Bf K c b R) λ_ _=>?_
 simp only[Q176.f];refine Tot.bind (P:=λ_=>True) (Tot.not (decide_eq_false Y) (Tot.ret trivial)) λ_ _=>Tot.bind (xH K _ _ R) λn _=>Tot.cnd (λ_=>?_) λh=>?_
 ·simp only[Q177.f];refine Tot.bind (P:=λ_=>True) (Tot.cnd (λ_=>Tot.ret trivial) λ_=>Tot.cnd (λ_=>Tot.ret trivial) λ_=>Tot.cnd (λ_=>Tot.ret trivial) λ_=>Tot.ret trivial) λ_ _=>Tot.cnd (λ_=>?_) λ_=>?_ <;>
  exact Tot.bind (kT K _ _ _ (by omega)) λ_ M=>Tot.bind (kT K _ _ _ (by omega)) λ_ u=>Tot.bind (kT K _ _ _ (by omega)) λ_ y=>Tot.bind (z _) λ_ O=>Tot.ret ⟨M,u,y,O⟩
 ·have X:¬ n.1.1=0:=by simpa using h
  refine Tot.cnd (λ_=>?_) λ_=>?_ <;>
  exact Tot.not (decide_eq_false X) (Tot.bind (kT K _ _ _ (by omega)) λ_ M=>Tot.not (decide_eq_false X) (Tot.bind (kT K _ _ _ (by omega)) λ_ u=>Tot.bind (kT K _ _ _ (by omega)) λ_ y=>Tot.bind (z _) λ_ O=>Tot.ret ⟨M,u,y,O⟩))
noncomputable def pQ (K:Nat)(c b:dw)(t s:Int):dw:=((Q180.f K (c,b,t,s,())).getD (((0,0,0,0),()),())).1.1
noncomputable def si (K:Nat)(l:List Int):Int:=((Q181.f K (l,())).getD ((0,()),())).1.1
theorem xI (K:Nat)(c b:dw)(t s:Int)(u:cC c)(r:1048577<K):Q180.f K (c,b,t,s,())=some ((pQ K c b t s,()),())/\cC (pQ K c b t s):=by
 obtain⟨⟨⟨v,⟨⟩⟩,⟨⟩⟩,e,h⟩:=Bg K c b t s u r;unfold pQ;rw[e];exact⟨rfl,h⟩
theorem med_t (K:Nat)(l:List Int)(hl:l.length<=100)(hK:1048577<K):Tot (Q181.f K (l,())) λ_=>True:=by
 simp only[Q181.f,Q181.pre];have u:∀ J:List Int,J.length<=100->Tot (Q181.l0 K (l,()) (J,[],0)) λ_=>True:=λJ hx=>by
  refine Tot.iter (step:=λrec a=>Q181.s0 K (l,()) (Q181.l1 K (l,()) rec) rec a) (λa=>a.1=J/\0<=a.2.2/\a.2.2<=J.length/\(a.2.1.length:Int)=a.2.2) (λa=>J.length-a.2.2.toNat) ?_ K _ (by show J.length-BG 0<K;omega) ⟨rfl,by show (0:Int)<=0;omega,by show (0:Int)<=_;omega,rfl⟩;rintro rec ⟨ys,H,i⟩ ⟨rfl,X,h1,h2⟩ ih;simp only at X h1 h2 hx ih ⊢;simp only[Q181.s0];obtain⟨i,rfl⟩:=BI X;refine Tot.cnd (λh=>?_) λ_=>Tot.cnd (λ_=>Tot.ret trivial) λh=>?_
  ·have I:=of_decide_eq_true h;clear h;refine Tot.iter (step:=λz a=>Q181.s1 K (l,()) rec z a) (λa=>a.1=ys/\a.2.1=H/\a.2.2.1=i/\0<=a.2.2.2/\a.2.2.2<=H.length) (λa=>H.length-a.2.2.2.toNat) ?_ K _ (by show H.length-BG 0<K;omega) ⟨rfl,rfl,rfl,by show (0:Int)<=0;omega,by show (0:Int)<=_;omega⟩;rintro z ⟨M,r,j,k⟩ ⟨rfl,rfl,e,Z,k1⟩ O;simp only at e Z k1 I h1 h2 hx O ih ⊢;subst e;simp only[Q181.s1];obtain⟨k,rfl⟩:=BI Z;have a0:∀ y:Int,Tot (rec (M,(([]++((r.take (BG (k:Int))).drop (BG 0)))++([y]))++((r.take (BG (BE r:Int))).drop (BG (k:Int))),wr .i64 ((i:Int)+1))) λ_=>True:=λy=>by
    rw[ar i (by omega)];refine ih _ ⟨rfl,by show (0:Int)<=((i+1:Nat):Int);omega,by show ((i+1:Nat):Int)<=_;omega,?_⟩ (by show M.length-BG ((i+1:Nat):Int)<M.length-BG (i:Int);omega);simp only[BH,Ca,BY,BQ,BS,BV,CA,BJ,BN];omega
   have R:Tot (bif decide (0<=0)&&decide ((0:Int)<=(k:Int))&&decide ((k:Int)<=(BE r:Int))&&true then (bif decide ((BE ([]:List (Ty.den (.int .i64)))+BE ((r.take (BG (k:Int))).drop (BG 0)))*8<=ak) then ((idx M (i:Int)).bind λY=>bif decide ((BE ([]++((r.take (BG (k:Int))).drop (BG 0)))+BE ([Y]))*8<=ak) then (bif decide ((0:Int)<=(k:Int))&&decide ((k:Int)<=(BE r:Int))&&decide ((BE r:Int)<=(BE r:Int))&&true then (bif decide ((BE (([]++((r.take (BG (k:Int))).drop (BG 0)))++([Y]))+BE ((r.take (BG (BE r:Int))).drop (BG (k:Int))))*8<=ak) then (rec (M,(([]++((r.take (BG (k:Int))).drop (BG 0)))++([Y]))++((r.take (BG (BE r:Int))).drop (BG (k:Int))),wr .i64 ((i:Int)+1))) else none) else none) else none) else none) else none) λ_=>True:=by
    refine Tot.must (by simp only[CK,decide_eq_true_eq,Cy];omega) (Tot.fit (Tot.ix X I λy _ _=>Tot.fit (Tot.must (by simp only[CK,decide_eq_true_eq,Cy];omega) (Tot.fit (a0 y) (by omega) ?_)) (by omega) ?_) (by omega) ?_) <;>
    simp only[BH,Ca,BY,BQ,BS,BV,CA,BJ,BN] <;> omega
   refine Tot.cnd (λh4=>?_) λ_=>R
   have h4:=of_decide_eq_true h4;refine Tot.ix Z h4 λy1 _ _=>Tot.ix X I λy2 _ _=>Tot.cnd (λ_=>?_) λ_=>R
   rw[ar k (by omega)];exact O _ ⟨rfl,rfl,rfl,by show (0:Int)<=((k+1:Nat):Int);omega,by show ((k+1:Nat):Int)<=_;omega⟩ (by show r.length-BG ((k+1:Nat):Int)<r.length-BG (k:Int);omega)
  ·have h:¬ (H.length:Int)=0:=by simpa using h
   rw[aE (n:=(H.length:Int)-1) (by omega) (by omega)];have e:Cl ((H.length:Int)-1) 2=((H.length:Int)-1) / 2:=by rw[CC (by omega)]
   rw[e,aE (by omega) (by omega)];exact Tot.ix (by omega) (by omega) λy _ _=>Tot.ret trivial
 refine Tot.cnd (λh=>?_) λ_=>u l hl
 have h:=of_decide_eq_true h;rw[aE (n:=(l.length:Int)-3) (by omega) (by omega)];exact Tot.must (by simp only[CK,decide_eq_true_eq,Cy];omega) (u _ (by simp only[CA,BV];omega))
theorem med_s (K:Nat)(l:List Int)(r:l.length<=100)(u:1048577<K):Q181.f K (l,())=some ((si K l,()),()):=by
 obtain⟨⟨⟨v,⟨⟩⟩,⟨⟩⟩,e,_⟩:=med_t K l r u;unfold si;rw[e];rfl
end Go.Proofs.YtaegajachoklkaaGreatEv
