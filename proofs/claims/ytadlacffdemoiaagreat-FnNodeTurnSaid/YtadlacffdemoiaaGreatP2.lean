/- The marks that a law writes into what was answered, and the look whether they still stand. -/
import Derived.Test.YtadlacffdemoiaaGreatP1
import Derived.Test.YtadlacffdemoiaaGreatE0
import Derived.Laws.Strings
set_option linter.unusedVariables false
set_option linter.unusedSimpArgs false
open Bool renaming not_true->BY,not_false->CM,and_eq_true->CX,true_and->Ce,and_self->Ch,false_and->Cm,eq_iff_iff->Cu,false_or->DC,and_true->DD,true_or->DH,and_false->Dc,or_true->De
open ByteArray renaming size_extract->Cz
open Classical renaming not_not->Ck
open Eq renaming trans->DE
open Go.ByteArray renaming toList_eq->DN
open Go.IntKind renaming wrap_i64->DX
open Int renaming toNat->BT,eq_ofNat_of_zero_le->BU,toNat_natCast->BV,tdiv_eq_ediv_of_nonneg->CQ,fdiv->CT,le_refl->CW,toNat_zero->Cl,tmod->Cp,tdiv->Cx,le_trans->Cy,tmod_eq_emod_of_nonneg->C8,le_of_lt->DG,tmod_lt_of_pos->DQ,tdiv_le_self->DY,tmod_nonneg->Da,tdiv_nonneg->Db
open List renaming length->BR,getElem_mem->BS,length_cons->BW,mem_filter->BX,getElem_of_mem->BZ,drop_eq_getElem_cons->B3,length_nil->B4,append_nil->B5,getElem?_eq_getElem->B6,nil_append->B7,length_append->B8,pairwise_cons->B9,filter_eq_self->CB,length_map->CC,filter_cons->CD,length_take->CE,filter_eq_nil_iff->CF,mem_map->CH,drop_zero->CI,reverse_reverse->CJ,pairwise_map->CL,mem_singleton->CN,length_drop->CO,take_of_length_le->CP,mem_append->CR,filter_append->CS,append_assoc->CU,mem_cons->CV,length_filter_le->CZ,pairwise_iff_getElem->Ca,pairwise_append->Cb,take_succ_eq_append_getElem->Cc,reverse_cons->Cd,take_length->Cf,getElem?_eq_none->Ci,length_singleton->Cj,replicate->Co,ext_getElem->Cq,mem_of_find?_eq_some->Cr,length_take_le->Cs,length_reverse->Ct,getElem_take->Cv,take_append_drop->C0,length_replicate->C3,drop_length->C4,not_mem_nil->C5,map_append->C6,length_pos_iff->C7,filter_congr->DA,map_cons->DB,pairwise_singleton->DF,find?_cons->DI,find?_some->DJ,length_set->DK,set_append_right->DL,mem_of_mem_take->DM,find?_eq_none->DO,mem_cons_self->DP,getElem_drop->DR,take_add_one->DS,perm_middle->DT,cons_append->DU,getElem_set->DV,mem_range->Dd,map_nil->Df
open List.Pairwise renaming filter->Cn
open Nat renaming le_refl->CA,zero_le->CG,le_trans->CK,lt_or_eq_of_le->CY,mul_le_mul->Cw,lt_trichotomy->C9
open Option renaming bind_some->BQ,bind->Cg,getD_some->DW,map_some->DZ
namespace Go.Proofs.YtadlacffdemoiaaGreatEv
open Go
theorem kX {α β R:Type}(t:List α)(p:α->Bool)(g:α->β)(n:Nat)(y:List β->Option R){step:(List β×Int->Option R)->List β×Int->Option R}
  (h:∀ (rec:List β×Int->Option R) (r:List β) (i:Nat) (M:i<t.length),r.length<=i->r.length<n->step rec (r,(i:Int))=rec (bif p t[i] then r++[g t[i]] else r,((i+1:Nat):Int)))
  (O:∀ (rec:List β×Int->Option R) (r:List β) (i:Nat),i<t.length->r.length<=i->n<=r.length->step rec (r,(i:Int))=y r)
  (z:∀ (rec:List β×Int->Option R) (r:List β),r.length<=t.length->step rec (r,(t.length:Int))=y r) :
  ∀ (d i k:Nat) (r:List β),i+d=t.length->d<k->r.length<=i->r.length<=n->ae step k (r,(i:Int))=y (r++(((t.drop i).filter p).map g).take (n-r.length)):=by
 intro d;induction d with
 |zero =>
  intro i k r M Y H _;obtain⟨k,rfl⟩:∃ I,k=I+1:=⟨k-1,by omega⟩;have:i=t.length:=by omega
  subst this;show step (ae step k) _=_;rw[z _ _ H];simp
 |succ d J =>
  intro i k r M Y H X;obtain⟨k,rfl⟩:∃ I,k=I+1:=⟨k-1,by omega⟩;have u:i<t.length:=by omega
  show step (ae step k) _=_;by_cases Z:r.length<n
  ·rw[h _ _ _ u H Z,B3 u,CD];cases hp:p t[i] with
   |true =>
    simp only[cond_true,if_true,DB];rw[J (i+1) k _ (by omega) (by omega) (by simp;omega) (by simp;omega)];congr 1;obtain⟨m,hm⟩:∃ m,n-r.length=m+1:=⟨n-r.length-1,by omega⟩;rw[hm,List.take_succ_cons,CU];simp only[B8,BW,B4];rw[show n-(r.length+(0+1))=m by omega];rfl
   |false =>
    simp only[cond_false];rw[J (i+1) k _ (by omega) (by omega) (by omega) (by omega)];rfl
  ·rw[O _ _ _ u H (by omega)];rw[show n-r.length=0 by omega];simp
theorem vS {α β R:Type}(t:List α)(p:α->Bool)(g:α->β)(u:List β->Option R){step:(List β×Int->Option R)->List β×Int->Option R}
  (h:∀ (rec:List β×Int->Option R) (r:List β) (i:Nat) (z:i<t.length),r.length<=i->step rec (r,(i:Int))=rec (bif p t[i] then r++[g t[i]] else r,((i+1:Nat):Int)))
  (y:∀ (rec:List β×Int->Option R) (r:List β),r.length<=t.length->step rec (r,(t.length:Int))=u r) {k:Nat} (I:t.length<k) :
  ae step k ([],0)=u ((t.filter p).map g):=by
 have:=kX t p g (t.length+1) u (λrec r i z H _=>h rec r i z H) (λrec r i z H J=>by omega) y t.length 0 k [] (by omega) I (CA _) (by simp);refine this.trans ?_;congr 1;simp only[B7,B4,CI];exact CP (by have:=CZ p t;simp;omega)
theorem d5 {e:Ty}{b:Nat}{xs:List e.den}(h:xs.length*b<=140737488355328):fR e b xs=some ((xs,()),()):=by
 unfold fR;rw[decide_eq_true (by simpa[an]using h)];rfl
theorem Bb {α β:Type}{xs r:List α}{b:Nat}{x y:β}(h:(xs.length+r.length)*b<=140737488355328):(bif decide ((BR xs+BR r)*b<=an) then x else y)=x:=by
 rw[decide_eq_true (by simpa[an]using h)];rfl
theorem z9 (K:Nat)(xs:List Int)(n:Int)(I:xs.length<=1048576):Q189.f K (xs,n,())=some ((xs.take n.toNat,()),()):=by
 simp only[Q189.f,Q188.f,BQ,Q9.f];obtain⟨c,u,y,z,r⟩:∃ c:Int,(bif decide (0<(bif decide ((xs.length:Int)<n) then (xs.length:Int) else n)) then bif decide ((xs.length:Int)<n) then (xs.length:Int) else n else 0)=c/\0<=c/\c<=xs.length/\xs.take c.toNat=xs.take n.toNat:=by
  by_cases h:(xs.length:Int)<n
  ·rw[decide_eq_true h];simp only[cond_true];by_cases r:0<(xs.length:Int)
   ·rw[decide_eq_true r];refine⟨_,rfl,by simp,by simp,?_⟩;simp only[cond_true];rw[CP (by omega),CP (by omega)]
   ·rw[decide_eq_false r];refine⟨_,rfl,by simp,by simp,?_⟩;have:xs=[]:=List.eq_nil_of_length_eq_zero (by omega);subst this;simp
  ·rw[decide_eq_false h];simp only[cond_false];by_cases r:0<n
   ·rw[decide_eq_true r];exact⟨_,rfl,by simp;omega,by simp;omega,rfl⟩
   ·rw[decide_eq_false r];refine⟨_,rfl,by simp,by simp,?_⟩;simp only[cond_false];rw[show n.toNat=0 by omega];rfl
 rw[u,decide_eq_true y,decide_eq_true z];simp only[Cl,CI,decide_true,Ch,cond_true];rw[d5 (by
  have:=Cs c.toNat xs;have H:(List.take c.toNat xs).length<=1048576:=by omega
  omega)]
 simp only[BQ];rw[r];rfl
def mV (f:af):Bool:=f.2.2.2&&f.2.2.1==1
def fN (t:List af):List Int:=((t.filter mV).map (·.1)).take 2
theorem u7 (K:Nat)(t:List af)(I:t.length<=1048576)(J:1048577<K):Q99.f K (t,2,())=some ((fN t,()),()):=by
 have:=kX (step:=λrec a=>Q99.s0 K (t,2,()) rec a) t mV (λf=>f.1) 2 (λz=>some ((z,()),())) ?_ ?_ ?_ t.length 0 K [] (by omega) (by omega) (CA _) (by simp)
 ·exact this
 ·intro rec r i u H y;simp only[Q99.s0];rw[bi (by omega:(i:Int)<(BR t:Int)),ag u,ar i (by omega),decide_eq_true (by omega:(BR r:Int)<2)];simp only[cond_true,BQ,mV];cases t[i].2.2.2 with
  |true =>
   simp only[cond_true,Ce];cases t[i].2.2.1==1 with
   |true=>simp only[cond_true];rw[Bb (by simp;omega)]
   |false=>rfl
  |false=>rfl
 ·intro rec r i u H y;simp only[Q99.s0];rw[bi (by omega:(i:Int)<(BR t:Int)),decide_eq_false (by omega:¬ (BR r:Int)<2)];rfl
 ·intro rec r _;simp only[Q99.s0,aN];rfl
theorem xn (t:List af):(fN t).length<=2:=by
 unfold fN;exact Cs _ _
def eM (l:List bY)(s:Int):List af:=((l.find? λx=>x.1==s).map (·.2)).getD []
theorem pR {R:Type}(l:List bY)(s:Int)(r:List af->Option R){step:(Int->Option R)->Int->Option R}
  (h:∀ (rec:Int->Option R) (i:Nat) (H:i<l.length),step rec (i:Int)=bif l[i].1==s then r l[i].2 else rec ((i+1:Nat):Int))
  (u:∀ rec:Int->Option R,step rec (l.length:Int)=r []) :
  ∀ (d i k:Nat),i+d=l.length->d<k->ae step k (i:Int)=r (eM (l.drop i) s):=by
 intro d;induction d with
 |zero =>
  intro i k H J;obtain⟨k,rfl⟩:∃ z,k=z+1:=⟨k-1,by omega⟩;have:i=l.length:=by omega
  subst this;show step (ae step k) _=_;rw[u];simp[eM]
 |succ d I =>
  intro i k H J;obtain⟨k,rfl⟩:∃ z,k=z+1:=⟨k-1,by omega⟩;have y:i<l.length:=by omega
  show step (ae step k) _=_;rw[h _ _ y,B3 y];simp only[eM,DI];cases l[i].1==s with
  |true=>rfl
  |false=>exact I (i+1) k (by omega) (by omega)
theorem Aa (K:Nat)(n:aa)(s:Int)(r:NB n)(z:1048577<K):Q182.f K (n,s,())=some ((eM (aa.others n) s,()),()):=by
 have y:=r.others;refine pR (step:=λrec a=>Q182.s0 K (n,s,()) rec a) (aa.others n) s (λt=>some ((t,()),())) ?_ ?_ (aa.others n).length 0 K (by omega) (by omega)
 ·intro rec i u;simp only[Q182.s0];rw[bi (by omega:(i:Int)<(BR (aa.others n):Int)),ag u,ar i (by omega)];rfl
 ·intro rec;simp only[Q182.s0,aN];rfl
theorem rm {l:List bY}{s:Int}:eM l s=[]\/∃ x∈l,x.1=s/\eM l s=x.2:=by
 unfold eM;cases h:l.find? λx=>x.1==s with
 |none=>exact .inl rfl
 |some x=>exact .inr ⟨x,Cr h,by simpa using DJ h,rfl⟩
def bh {α:Type}(k:α->Int)(x:α)(xs:List α):List α:=xs.filter (λy=>decide (k y<k x))++x::xs.filter (λy=>decide (k x<k y))
theorem rq {α:Type}{k:α->Int}{xs:List α}{v:Int}{m:Nat}(J:m<=xs.length)(H:∀ i,(z:i<xs.length)->i<m->k xs[i]<v)(z:∀ i,(h:i<xs.length)->m<=i->v<=k xs[i]):xs.filter (λy=>decide (k y<v))=xs.take m:=by
 conv=>lhs;rw[<- C0 m xs]
 rw[CS];have r:(xs.take m).filter (λy=>decide (k y<v))=xs.take m:=by
  rw[CB];intro y u;obtain⟨i,r,rfl⟩:=BZ u;rw[CE]at r;rw[Cv];exact decide_eq_true (H i (by omega) (by omega))
 have I:(xs.drop m).filter (λy=>decide (k y<v))=[]:=by
  rw[CF];intro y u;obtain⟨i,r,rfl⟩:=BZ u;rw[CO]at r;rw[DR];have:=z (m+i) (by omega) (by omega);simp only[decide_eq_true_eq];omega
 rw[r,I,B5]
theorem rr {α:Type}{k:α->Int}{xs:List α}{v:Int}{m:Nat}(J:m<=xs.length)(H:∀ i,(z:i<xs.length)->i<m->k xs[i]<=v)(z:∀ i,(h:i<xs.length)->m<=i->v<k xs[i]):xs.filter (λy=>decide (v<k y))=xs.drop m:=by
 conv=>lhs;rw[<- C0 m xs]
 rw[CS];have r:(xs.take m).filter (λy=>decide (v<k y))=[]:=by
  rw[CF];intro y u;obtain⟨i,r,rfl⟩:=BZ u;rw[CE]at r;rw[Cv];have:=H i (by omega) (by omega);simp only[decide_eq_true_eq];omega
 have I:(xs.drop m).filter (λy=>decide (v<k y))=xs.drop m:=by
  rw[CB];intro y u;obtain⟨i,r,rfl⟩:=BZ u;rw[CO]at r;rw[DR];exact decide_eq_true (z (m+i) (by omega) (by omega))
 rw[r,I,B7]
theorem iq {α:Type}{k:α->Int}{xs:List α}{x:α}{m:Nat}(h:Asc k xs)(H:m<xs.length)(e:k xs[m]=k x):xs.set m x=bh k x xs:=by
 have I:=cE.1 h;have M:∀ i,(u:i<xs.length)->i<m->k xs[i]<k x:=λi u y=>by rw[<- e];exact I i m u H y
 have J:∀ i,(u:i<xs.length)->m<i->k x<k xs[i]:=λi u y=>by rw[<- e];exact I m i H u y
 rw[bh,rq (m:=m) (by omega) M (λi u r=>by
   rcases CY r with z|z
   ·exact DG (J i u z)
   ·subst z;omega),
  rr (m:=m+1) (by omega) (λi u r=>by
   rcases CY (Nat.le_of_lt_succ r) with z|z
   ·exact DG (M i u z)
   ·subst z;omega) (λi u r=>J i u r),
  List.set_eq_take_append_cons_drop,if_pos H]
theorem gy {α:Type}{k:α->Int}{xs:List α}{x:α}{m:Nat}(H:m<=xs.length)(z:∀ i,(y:i<xs.length)->i<m->k xs[i]<k x)(y:∀ i,(h:i<xs.length)->m<=i->k x<k xs[i]):xs.take m++[x]++xs.drop m=bh k x xs:=by
 rw[bh,rq H z (λi r u=>DG (y i r u)),rr H (λi r u=>DG (z i r u)) y,CU];rfl
theorem aW {α:Type}{k:α->Int}{xs:List α}{x y:α}:y∈bh k x xs<->y=x\/(y∈xs/\k y≠k x):=by
 simp only[bh,CR,CV,BX,decide_eq_true_eq];constructor
 ·rintro (⟨r,u⟩|rfl|⟨r,u⟩)
  ·exact .inr ⟨r,by omega⟩
  ·exact .inl rfl
  ·exact .inr ⟨r,by omega⟩
 ·rintro (rfl|⟨r,u⟩)
  ·exact .inr (.inl rfl)
  ·rcases Int.lt_or_gt_of_ne u with z|z
   ·exact .inl ⟨r,z⟩
   ·exact .inr (.inr ⟨r,z⟩)
theorem eE {α:Type}{k:α->Int}{xs:List α}{x:α}(h:Asc k xs):Asc k (bh k x xs):=by
 unfold Asc bh;rw[Cb,B9];refine⟨h.filter _,⟨λy r=>?_,h.filter _⟩,λy r z u=>?_⟩
 ·simpa using (BX.1 r).2
 ·have H:k y<k x:=by simpa using (BX.1 r).2
  rcases CV.1 u with rfl|u
  ·exact H
  ·have I:k x<k z:=by simpa using (BX.1 u).2
   omega
theorem yI {α:Type}{k:α->Int}{xs:List α}{x:α}:(bh k x xs).length<=xs.length+1:=by
 have:∀ l:List α,(l.filter (λy=>decide (k y<k x))).length+(l.filter (λy=>decide (k x<k y))).length<=l.length:=by
  intro l;induction l with
  |nil=>simp
  |cons y l u =>
   simp only[CD,BW];by_cases r:k y<k x
   ·rw[if_pos (decide_eq_true r),if_neg (by simp;omega)];simp only[BW];omega
   ·rw[if_neg (by simpa using r)];split <;> (try simp only[BW]) <;> omega
 have:=this xs;simp only[bh,B8,BW];omega
theorem pd {α:Type}{k:α->Int}{xs:List α}(h:Asc k xs){i:Nat}(u:i<xs.length){v:Int}(e:k xs[i]=v):xs.find? (λy=>k y==v)=some xs[i]:=by
 cases r:xs.find? (λy=>k y==v) with
 |none =>
  have:=DO.1 r xs[i] (BS u);simp[e]at this
 |some y =>
  have z:k y=v:=by simpa using DJ r
  obtain⟨j,H,rfl⟩:=BZ (Cr r);have:=o6 h H u (by rw[z,e]);subst this;rfl
theorem nU {α:Type}{k:α->Int}{xs:List α}{v:Int}(h:∀ y∈xs,k y≠v):xs.find? (λy=>k y==v)=none:=by
 rw[DO];intro y r;simpa using h y r
def jX {α:Type}(k:α->Int)(x:α):Bool->List α->List α
 |d,[]=>bif d then [] else [x]
 |d,y::r=>(bif !d&&decide (k x<=k y) then [x] else [])++((bif k y != k x then [y] else [])++jX k x (d||decide (k x<=k y)) r)
theorem pS {α:Type}{k:α->Int}{x:α}:∀ {r:List α},(∀ y∈r,k x<k y)->jX k x true r=r
 |[],_=>rfl
 |y::r,h=>by
  have H:=h y (by simp);simp only[jX,BY,Cm,cond_false,DH,B7];rw[pS (λz u=>h z (by simp[u])),show (k y != k x)=true by simp;omega];rfl
theorem kY {α:Type}{k:α->Int}{x:α}:∀ {xs:List α},Asc k xs->jX k x false xs=bh k x xs
 |[],_=>rfl
 |y::u,h=>by
  have M:Asc k u:=(B9.1 h).2;have H:∀ z∈u,k y<k z:=(B9.1 h).1;simp only[jX,CM,Ce,DC];by_cases J:k x<=k y
  ·rw[decide_eq_true J,pS (λz r=>by have:=H z r;omega)];simp only[cond_true,bh,CD];have O:u.filter (λz=>decide (k z<k x))=[]:=by
    rw[CF];intro z r;have:=H z r;simp;omega
   have R:u.filter (λz=>decide (k x<k z))=u:=by
    rw[CB];intro z r;have:=H z r;simp;omega
   rw[O,R,if_neg (by simp;omega)];by_cases I:k y=k x
   ·rw[if_neg (by simp;omega),show (k y != k x)=false by simpa using I];rfl
   ·rw[if_pos (by simp;omega),show (k y != k x)=true by simpa using I];rfl
  ·rw[decide_eq_false J,kY M,show (k y != k x)=true by simp;omega];simp only[cond_false,cond_true,bh,CD,B7];rw[if_pos (by simp;omega),if_neg (by simp;omega)];rfl
theorem sZ {α A R:Type}(k:α->Int)(x:α)(t:List α)(q:α->Bool)(O:Option R)(H:List α->Option R)(S:List α->Bool->Nat->A){step:(A->Option R)->A->Option R}
  (h:∀ (rec:A->Option R) (r:List α) (d:Bool) (i:Nat) (Y:i<t.length),r.length<=i+1->(d=false->r.length<=i)->step rec (S r d i)=bif q t[i] then O else rec (S ((r++(bif !d&&decide (k x<=k t[i]) then [x] else []))++(bif k t[i] != k x then [t[i]] else [])) (d||decide (k x<=k t[i])) (i+1)))
  (I:∀ (rec:A->Option R) (r:List α) (d:Bool),r.length<=t.length+1->(d=false->r.length<=t.length)->step rec (S r d t.length)=H (r++(bif d then [] else [x]))) :
  ∀ (n i K:Nat) (r:List α) (d:Bool),i+n=t.length->n<K->r.length<=i+1->(d=false->r.length<=i)->ae step K (S r d i)=bif (t.drop i).any q then O else H (r++jX k x d (t.drop i)):=by
 intro n;induction n with
 |zero =>
  intro i K r d Y Z M z;obtain⟨K,rfl⟩:∃ J,K=J+1:=⟨K-1,by omega⟩;have:i=t.length:=by omega
  subst this;show step (ae step K) _=_;rw[I _ _ _ M z,C4];rfl
 |succ n ih =>
  intro i K r d Y Z M z;obtain⟨K,rfl⟩:∃ J,K=J+1:=⟨K-1,by omega⟩;have u:i<t.length:=by omega
  show step (ae step K) _=_;rw[h _ _ _ _ u M z,B3 u,List.any_cons];cases hq:q t[i] with
  |true=>rfl
  |false =>
   simp only[cond_false,DC,jX];rw[ih (i+1) K _ _ (by omega) (by omega) ?_ ?_]
   ·simp only[CU]
   ·cases d with
    |true =>
     simp only[BY,Cm,cond_false,B5];cases k t[i] != k x <;> simp <;> omega
    |false =>
     have:=z rfl;cases X:decide (k x<=k t[i]) <;> cases k t[i] != k x <;> simp <;> omega
   ·intro y;rw[Bool.or_eq_false_iff]at y;obtain⟨rfl,X⟩:=y;have:=z rfl;rw[X];cases k t[i] != k x <;> simp <;> omega
theorem uv (K:Nat)(n:aa)(r:NB n)(y:1048577<K):∃ b,Q221.f K (n,())=rb b/\Q166.f K (n,())=rb b/\(b=true<->fa n):=by
 obtain⟨b,H,u⟩:=pb K n r y;obtain⟨z,I,J⟩:=pc K n r y;have:b=z:=by rw[Cu,u,J]
 subst this;exact⟨b,H,I,u⟩
theorem fa.up {n:aa}(h:fa n)(r:n.2.1=true):UpP n:=by
 have:=h.2.2.2.2.2
 rwa [if_pos r]at this
abbrev ah:=Int×Int×Int×Int×Int×Int×dC×List af
abbrev ah.table (w:ah):List af:=w.2.2.2.2.2.2.2
abbrev ah.coord (w:ah):dC:=w.2.2.2.2.2.2.1
def mb:List af->Prop
 |[]=>False
 |f::l=>cd (f::l) (ak f.1)
def cZ (w:ah):Prop:=InP w.1 1 2/\InP w.2.1 1 6/\InP w.2.2.1 0 7/\InP w.2.2.2.1 0 7/\InP w.2.2.2.2.1 0 999999/\InP w.2.2.2.2.2.1 0 7/\cJ (ah.coord w)/\ax (ah.table w) /\
 (if w.2.1=6 then mb (ah.table w) else cd (ah.table w) (ak w.2.2.1))
theorem mc (K:Nat)(w:ah)(r:(ah.table w).length<=1048576)(u:1048577<K):Ret (Q22.f K (w,())) (cZ w):=by
 refine Ret.nx (cI K _ _ _) λ_=>Ret.nx (cI K _ _ _) λ_=>Ret.nx (cI K _ _ _) λ_=>Ret.nx (cI K _ _ _) λ_=>Ret.nx (cI K _ _ _) λ_=>Ret.nx (cI K _ _ _) λ_=>Ret.nx (iG K _) λ_=>Ret.nx (gw K _ r u) λ_=>?_
 dsimp only;by_cases h:w.2.1=6
 ·rw[show (w.2.1==6)=true by simpa using h,if_pos h];obtain⟨w1,w2,w3,w4,y,H,z,t⟩:=w;cases t with
  |nil=>exact Ret.no (λh=>h)
  |cons f l =>
   rw[show decide ((BR (f::l):Int)>0)=true from decide_eq_true (by simp only[BW];omega)];simp only[cond_true];exact Ret.vl (ag (xs:=f::l) (i:=0) (by simp)) (d4 K _ _ r u).id
 ·rw[show (w.2.1==6)=false by simpa using h,if_neg h];exact (d4 K _ _ r u).id
theorem ta (K:Nat)(w:ah)(r:(ah.table w).length<=1048576)(u:1048577<K):Ret (Q167.f K (w,())) (cZ w):=by
 refine Ret.iff (Q:=cZ w) (Ret.nx (eO K _ _ _) λ_=>Ret.nx (eO K _ _ _) λ_=>Ret.nx (jf K _) λ_=>Ret.nx (jf K _) λ_=>Ret.nx (jf K _) λ_=>Ret.nx (eO K _ _ _) λ_=>Ret.nx (nT K _) λ_=>Ret.nx (gx K _ r u)
  (Q:=if w.2.1=6 then mb (ah.table w) else cd (ah.table w) (ak w.2.2.1)) λ_=>?_) ?_
 ·dsimp only;by_cases h:w.2.1=6
  ·rw[show (w.2.1==6)=true by simpa using h,if_pos h];obtain⟨w1,w2,w3,w4,y,H,z,t⟩:=w;cases t with
   |nil=>exact Ret.no (λh=>h)
   |cons f l =>
    rw[show decide ((BR (f::l):Int)>0)=true from decide_eq_true (by simp only[BW];omega)];simp only[cond_true];exact Ret.vl (ag (xs:=f::l) (i:=0) (by simp)) (Ret.vl (lA K _) (fK K _ _ r u).id)
  ·rw[show (w.2.1==6)=false by simpa using h,if_neg h];simp only[cond_false];exact Ret.vl (lA K _) (fK K _ _ r u).id
 ·unfold cZ;constructor
  ·rintro⟨h1,h2,h3,h4,h5,h6,h7,h8,h9⟩;exact⟨h1,h2,h3,h4,h6,h5,h7,h8,h9⟩
  ·rintro⟨h1,h2,h3,h4,h6,h5,h7,h8,h9⟩;exact⟨h1,h2,h3,h4,h5,h6,h7,h8,h9⟩
theorem iI {α A R:Type}(xs:List α)(S:List α->Nat->A)(r:Option R){step:(A->Option R)->A->Option R}
  (h:∀ (rec:A->Option R) (u:List α) (i:Nat) (z:i<xs.length),u.length=i->step rec (S u i)=rec (S (u++[xs[i]]) (i+1))) (y:∀ rec:A->Option R,step rec (S xs xs.length)=r) {k:Nat} (H:xs.length<k):ae step k (S [] 0)=r:=by
 refine fw (step:=step) xs.length (λi=>S (xs.take i) i) r ?_ ?_ H
 ·intro rec i z;show step rec (S (xs.take i) i)=rec (S (xs.take (i+1)) (i+1));rw[h rec (xs.take i) i z (by simp;omega),Cc z]
 ·intro rec;show step rec (S (xs.take xs.length) xs.length)=r;rw[Cf];exact y rec
theorem szb (a b c:Nat)(r:c<=64)(h:a+b<=2097152):decide ((a+b)*c<=an)=true:=by
 have:=Cw h r;exact decide_eq_true (by unfold an;omega)
theorem mW (K:Nat)(n:aa)(u:NB n)(M:1048577<K):Q109.f K (n,())=some ((n,()),()):=by
 have H:=u.table;have O:=u.cast;have I:=u.doubts;have J:=u.places;have R:=u.others;simp only[Q109.f,Q109.pre];rw[szb _ _ _ (by omega) (by show (BR ([]:List af))+(aa.table n).length<=_;simp;omega),szb _ _ _ (by omega) (by show (BR ([]:List aL))+(aa.cast n).length<=_;simp;omega)];simp only[cond_true];refine iI (aa.doubts n) (step:=λrec a=>Q109.s0 K (n,()) (Q109.l1 K (n,())) rec a) (λr i=>((i:Int),r)) _ ?_ ?_ (by omega)
 ·intro rec r i y z;have:=u.by_ _ (BS y);simp only[Q109.s0];rw[bi (by omega:(i:Int)<(BR (aa.doubts n):Int)),ag y,ar i (by omega)];simp only[cond_true,BQ];rw[szb _ _ _ (by omega) (by simp;omega),szb _ _ _ (by omega) (by simp;omega)];rfl
 ·intro rec;simp only[Q109.s0,aN,cond_false];refine iI (aa.places n) (step:=λrec a=>Q109.s1 K (n,()) (Q109.l2 K (n,())) rec a) (λr i=>((i:Int),aa.doubts n,r)) _ ?_ ?_ (by omega)
  ·intro rec r i y z;have:=u.trips _ (BS y);simp only[Q109.s1];rw[bi (by omega:(i:Int)<(BR (aa.places n):Int)),ag y,ar i (by omega)];simp only[cond_true,BQ];rw[szb _ _ _ (by omega) (by simp;omega),szb _ _ _ (by omega) (by simp;omega)];rfl
  ·intro rec;simp only[Q109.s1,aN,cond_false];refine iI (aa.others n) (step:=λrec a=>Q109.s2 K (n,()) rec a) (λr i=>((i:Int),aa.doubts n,aa.places n,r)) _ ?_ ?_ (by omega)
   ·intro rec r i y z;have:=u.facts _ (BS y);simp only[Q109.s2,zcp8];rw[bi (by omega:(i:Int)<(BR (aa.others n):Int)),ag y,ar i (by omega)];simp only[cond_true,BQ];rw[szb _ _ _ (by omega) (by simp;omega),szb _ _ _ (by omega) (by simp;omega)];rfl
   ·intro rec;simp only[Q109.s2,zcp8,aN,cond_false];rfl
theorem yJ (K:Nat)(n:aa)(u:NB n)(M:1048577<K):Q210.f K (n,())=some ((n,()),()):=by
 have H:=u.table;have O:=u.cast;have I:=u.doubts;have J:=u.places;have R:=u.others;simp only[Q210.f,Q210.pre];refine iI (aa.doubts n) (step:=λrec a=>Q210.s0 K (n,()) (Q210.l1 K (n,())) rec a) (λr i=>(r,(i:Int))) _ ?_ ?_ (by omega)
 ·intro rec r i y z;have:=u.by_ _ (BS y);simp only[Q210.s0,Q9.f];rw[bi (by omega:(i:Int)<(BR (aa.doubts n):Int)),ag y,ar i (by omega)];simp only[cond_true,BQ];rw[d5 (by omega)];simp only[BQ];rw[szb _ _ _ (by omega) (by simp;omega)];rfl
 ·intro rec;simp only[Q210.s0,aN,cond_false];refine iI (aa.places n) (step:=λrec a=>Q210.s1 K (n,()) (Q210.l2 K (n,())) rec a) (λr i=>(aa.doubts n,r,(i:Int))) _ ?_ ?_ (by omega)
  ·intro rec r i y z;have:=u.trips _ (BS y);simp only[Q210.s1,Q9.f];rw[bi (by omega:(i:Int)<(BR (aa.places n):Int)),ag y,ar i (by omega)];simp only[cond_true,BQ];rw[d5 (by omega)];simp only[BQ];rw[szb _ _ _ (by omega) (by simp;omega)];rfl
  ·intro rec;simp only[Q210.s1,aN,cond_false];refine iI (aa.others n) (step:=λrec a=>Q210.s2 K (n,()) rec a) (λr i=>(aa.doubts n,aa.places n,r,(i:Int))) _ ?_ ?_ (by omega)
   ·intro rec r i y z;have:=u.facts _ (BS y);simp only[Q210.s2,zcp8,Q1.f];rw[bi (by omega:(i:Int)<(BR (aa.others n):Int)),ag y,ar i (by omega)];simp only[cond_true,BQ];rw[d5 (by omega)];simp only[BQ];rw[szb _ _ _ (by omega) (by simp;omega)];rfl
   ·intro rec;simp only[Q210.s2,zcp8,aN,cond_false,Q1.f,Q3.f];rw[d5 (by show (aa.table n).length*_<=_;omega),d5 (by show (aa.cast n).length*_<=_;omega)];rfl
instance (f g:af):Decidable (bC f g):=by unfold bC;infer_instance
theorem pT (K:Nat)(f g:af):Q26.f K (f,g,())=rb (decide (bC f g)):=by
 obtain⟨b,r,u⟩:=sY K f g;rw[r,show b=decide (bC f g) by rw[Cu,u];simp]
def bj (t:List af)(f:af):List af×Bool :=
 match t.find? (λg=>g.1==f.1) with
 |some g=>if bC f g then (bh (λg=>g.1) f t,true) else (t,false)
 |none=>(bh (λg=>g.1) f t,true)
theorem ir {t:List af}{f:af}(r:Asc (λg:af=>g.1) t){i:Nat}(u:i<t.length)(e:t[i].1=f.1):bj t f=if bC f t[i] then (bh (λg=>g.1) f t,true) else (t,false):=by
 unfold bj;rw[show t.find? (λg=>g.1==f.1)=some t[i] from pd r u e]
theorem fO {t:List af}{f:af}(h:∀ g∈t,g.1≠f.1):bj t f=(bh (λg=>g.1) f t,true):=by
 unfold bj;rw[show t.find? (λg=>g.1==f.1)=none from nU h]
theorem jC {e:Ty}{b:Nat}{xs:List e.den}{m:Nat}{v:e.den}(u:m<=xs.length)(r:b<=64)(y:xs.length<=1048576):fV e b xs (m:Int) [v]=some ((xs.take m++[v]++xs.drop m,()),()):=by
 unfold fV;have:(xs.length+[v].length)*b<=140737488355328:=CK (Cw (show xs.length+[v].length<=1048577 by simp;omega) r) (by decide);rw[if_pos ⟨by omega,by omega,by simp,by simpa only[an]using this⟩,BV]
theorem ru {e:Ty}{xs:List e.den}{u:e.den×Unit->Option Bool}(p:e.den->Bool)(z:xs.length<=1048576)(h:∀ x∈xs,u (x,())=some (p x)):gP e xs u=some ((xs.filter (λx=>!p x),()),()):=by
 have:∀ r:List e.den,(∀ x∈r,u (x,())=some (p x))->lY u r=some (r.filter (λx=>!p x)):=by
  intro r;induction r with
  |nil=>intro _;rfl
  |cons y r H =>
   intro h;simp only[lY,h y (by simp),BQ,H (λx z=>h x (by simp[z])),DZ,CD];cases p y <;> rfl
 unfold gP;rw[if_pos z,this xs h];rfl
theorem put_s (K:Nat)(t:List af)(f:af)(ht:t.length<=1048576)(O:Asc (λg:af=>g.1) t)(hK:1048577<K):Q27.f K (t,f,())=some (((bj t f).1,(bj t f).2,()),()):=by
 simp only[Q27.f,Q27.pre];obtain⟨o,z,I⟩:=fq K t f.1 ht hK;rw[I];simp only[BQ];cases z with
 |at_ i r e =>
  simp only;rw[ir O r e,decide_eq_true (by omega:((i:Nat):Int)>=0),ag r];simp only[cond_true,BQ];rw[show Q26.f K (f,t[i],())=_ from pT K f t[i]];simp only[BQ];by_cases z:bC f t[i]
  ·rw[decide_eq_true z,if_pos z];simp only[BY,cond_false];rw[szb _ _ _ (by omega) (by show (BR ([]:List af))+t.length<=_;simp;omega)];simp only[cond_true,B7,ag r,BQ,BV];rw[iq (k:=λg:af=>g.1) O r e]
  ·rw[decide_eq_false z,if_neg z];rfl
 |no h =>
  simp only;rw[fO h,decide_eq_false (by omega:¬ (-1:Int)>=0)];simp only[cond_false];have J:∀ m:Nat,m<=t.length->(bif decide ((0:Int)<=0)&&decide ((0:Int)<=(m:Int))&&decide ((m:Int)<=(BR t:Int))&&true then (bif decide ((BR ([]:List af)+BR ((t.take (BT (m:Int))).drop (BT 0)))*32<=an) then (bif decide ((BR ([]++((t.take (BT (m:Int))).drop (BT 0)))+BR ([f]))*32<=an) then (bif decide ((0:Int)<=(m:Int))&&decide ((m:Int)<=(BR t:Int))&&decide ((BR t:Int)<=(BR t:Int))&&true then (bif decide ((BR (([]++((t.take (BT (m:Int))).drop (BT 0)))++([f]))+BR ((t.take (BT (BR t:Int))).drop (BT (m:Int))))*32<=an) then (some (((([]++((t.take (BT (m:Int))).drop (BT 0)))++([f]))++((t.take (BT (BR t:Int))).drop (BT (m:Int))),true,()),())) else none) else none) else none) else none) else (none:Option ((List af×Bool×Unit)×Unit)))=some ((t.take m++[f]++t.drop m,true,()),()):=by
   intro m X;rw[decide_eq_true (by omega:(0:Int)<=0),decide_eq_true (by omega:(0:Int)<=(m:Int)),decide_eq_true (by omega:(m:Int)<=(BR t:Int)),decide_eq_true (by omega:(BR t:Int)<=(BR t:Int))];simp only[BV,Cl,CI,B7,Cf,Ch,cond_true];have I:(t.take m).length=m:=by rw[CE];omega
   have H:(t.drop m).length=t.length-m:=CO;rw[szb _ _ _ (by omega) (by simp only[B4];omega),szb _ _ _ (by omega) (by simp only[BW,B4];omega),szb _ _ _ (by omega) (by simp only[B8,BW,B4];omega)];rfl
  have:=ct (step:=λrec a=>Q27.s0 K (t,f,()) rec a) t.length (λi=>(i:Int)) (λj=>∃ h:j<t.length,¬ t[j].1<f.1) (some ((t.take t.length++[f]++t.drop t.length,true,()),())) (λj=>some ((t.take j++[f]++t.drop j,true,()),())) ?_ ?_ t.length K 0 (by omega) (by omega)
  ·have M:∀ m,m<=t.length->(∀ i,(r:i<t.length)->i<m->t[i].1<f.1)->(∀ i,(r:i<t.length)->m<=i->f.1<t[i].1)->t.take m++[f]++t.drop m=bh (λg=>g.1) f t:=λm X Z r=>gy (k:=λg:af=>g.1) X Z r
   rcases this with ⟨I,H⟩|⟨j,_,I,⟨h3,h4⟩,h5,H⟩
   ·rw[M t.length (CA _) (λi r _=>by
     have:=I i (CG _) r;exact Ck.1 λh=>this ⟨r,h⟩) (λi r h=>by omega)]at H
    exact H
   ·rw[M j (by omega) (λi r y=>by
     have:=h5 i (CG _) y;exact Ck.1 λh=>this ⟨r,h⟩) (λi r y=>by
     have Y:=h t[i] (BS r);rcases CY y with R|R
     ·have:=cE.1 O j i h3 r R;omega
     ·subst R;omega)]at H
    exact H
  ·intro rec i r;simp only[Q27.s0];rw[bi (by omega:(i:Int)<(BR t:Int)),ag r,ar i (by omega)];simp only[cond_true,BQ];by_cases u:t[i].1<f.1
   ·exact .inl ⟨λ⟨_,h⟩=>h u,by rw[decide_eq_true u];rfl⟩
   ·exact .inr ⟨⟨r,u⟩,by rw[decide_eq_false u];exact J i (by omega)⟩
  ·intro rec;simp only[Q27.s0,aN,cond_false];exact J t.length (CA _)
theorem vT (K:Nat)(t:List af)(f:af)(X:t.length<=1048576)(z:Asc (λg:af=>g.1) t)(R:1048577<K):Q170.f K (t,f,())=some (((bj t f).1,(bj t f).2,()),()):=by
 simp only[Q170.f,Q1.f,Q2.f];rw[d5 (by omega)];simp only[BQ];obtain⟨m,r,Y⟩:=sX K t f.1 X z R;rw[Y];simp only[BQ];by_cases I:∃ h:m<t.length,t[m].1=f.1
 ·obtain⟨M,H⟩:=I;rw[decide_eq_true ⟨M,H⟩,ir z M H];simp only[BY,cond_false,ag M,BQ,BV];rw[mT K f t[m] R];simp only[BQ];by_cases J:bC f t[m]
  ·rw[decide_eq_true ((jB H.symm).2 J),if_pos J,iq (k:=λg:af=>g.1) z M H];rfl
  ·rw[decide_eq_false (λh=>J ((jB H.symm).1 h)),if_neg J];rfl
 ·rw[decide_eq_false I,fO (λg Z e=>by
   obtain⟨i,u,rfl⟩:=BZ Z;rcases C9 i m with h|h|h
   ·have:=r.lo i u h;omega
   ·subst h;exact I ⟨u,e⟩
   ·have h5:=r.hi m (by omega) (CA _);have O:=cE.1 z m i (by omega) u h;omega)]
  simp only[CM,cond_true];rw[jC r.le (by omega) X];simp only[BQ];rw[gy (k:=λg:af=>g.1) r.le r.lo (λi u y=>by
   have:=r.hi i u y;rcases CY y with O|O
   ·have h5:=r.hi m (by omega) (CA _);have h7:=cE.1 z m i (by omega) u O;omega
   ·subst O;have:t[m].1≠f.1:=λe=>I ⟨u,e⟩
    omega)]
def dv (l:List aL)(f:af):List aL:=if ∃ x∈l,x.1.1=f.1/\¬ bC f x.1 then l else bh (λx=>x.1.1) (f,4) l
theorem uw {l:List aL}{f:af}:dv l f=bif l.any (λx=>x.1.1==f.1&&!decide (bC f x.1)) then l else bh (λx=>x.1.1) (f,4) l:=by
 unfold dv;have:(∃ x∈l,x.1.1=f.1/\¬ bC f x.1)<->l.any (λx=>x.1.1==f.1&&!decide (bC f x.1))=true:=by
  rw[List.any_eq_true];simp
 by_cases h:∃ x∈l,x.1.1=f.1/\¬ bC f x.1
 ·rw[if_pos h,this.1 h];rfl
 ·rw[if_neg h,show l.any (λx=>x.1.1==f.1&&!decide (bC f x.1))=false by rw[Bool.eq_false_iff];exact λr=>h (this.2 r)];rfl
theorem Ab (K:Nat)(l:List aL)(f:af)(Y:l.length<=1048576)(I:Asc (λx:aL=>x.1.1) l)(X:1048577<K):Q28.f K (l,f,())=some ((dv l f,()),()):=by
 have:=sZ (step:=λrec a=>Q28.s0 K (l,f,()) rec a) (λx:aL=>x.1.1) (f,4) l (λx=>x.1.1==f.1&&!decide (bC f x.1)) (some ((l,()),())) (λM=>some ((M,()),())) (λr d i=>(r,d,(i:Int))) ?_ ?_ l.length 0 K [] false (by omega) (by omega) (by simp) (by simp)
 ·refine DE (this:Q28.f K (l,f,())=_) ?_;rw[CI,uw,kY I];cases l.any (λx=>x.1.1==f.1&&!decide (bC f x.1)) <;> rfl
 ·intro rec r d i R J H;simp only[Q28.s0];rw[bi (by omega:(i:Int)<(BR l:Int)),ag R,ar i (by omega)];simp only[cond_true,BQ];have y:decide ((r.length+[((f,4):af×Nat)].length)*40<=an)=true:=szb _ _ _ (by omega) (by simp;omega);have O:decide (((r++[((f,4):aL)]).length+[l[i]].length)*40<=an)=true:=szb _ _ _ (by omega) (by simp;omega);have z:decide ((r.length+[l[i]].length)*40<=an)=true:=szb _ _ _ (by omega) (by simp;omega);by_cases u:l[i].1.1=f.1
  ·rw[show (l[i].1.1==f.1)=true by simpa using u,show (l[i].1.1 != f.1)=false by simpa using u,show decide (f.1<=l[i].1.1)=true from decide_eq_true (by omega)];simp only[cond_true,cond_false,Ce,DD,De,B5];rw[show Q26.f K (f,l[i].1,())=_ from pT K f l[i].1];simp only[BQ];cases decide (bC f l[i].1) with
   |false=>rfl
   |true =>
    simp only[BY,cond_false];cases d with
    |true=>simp only[BY,cond_false,B5]
    |false =>
     simp only[CM,cond_true];rw[y];rfl
  ·rw[show (l[i].1.1==f.1)=false by simpa using u,show (l[i].1.1 != f.1)=true by simpa using u];simp only[cond_true,cond_false,Cm];cases d with
   |true =>
    simp only[BY,cond_false,Cm,B5,DH];rw[z];rfl
   |false =>
    simp only[CM,cond_true,Ce,DC];cases decide (f.1<=l[i].1.1) with
    |true =>
     simp only[cond_true];rw[y];simp only[cond_true];rw[O];rfl
    |false =>
     simp only[cond_false,B5];rw[z];rfl
 ·intro rec r d J H;simp only[Q28.s0,aN];cases d with
  |true=>simp only[BY,cond_false,cond_true,B5]
  |false =>
   have:=H rfl;have y:decide ((r.length+[((f,4):af×Nat)].length)*40<=an)=true:=szb _ _ _ (by omega) (by simp;omega);simp only[CM,cond_true,cond_false];rw[y];rfl
theorem xo (K:Nat)(l:List aL)(f:af)(hl:l.length<=1048576)(O:cU l)(hf:aX f)(Y:1048577<K):Q172.f K (l,f,())=some ((dv l f,()),()):=by
 simp only[Q172.f,Q3.f,Q4.f];obtain⟨b1,e1,e2⟩:=o9 K l hl Y;have a2:=e2.2 O;subst a2;obtain⟨b2,e3,e4⟩:=ma K f;have a1:=e4.2 hf;subst a1;rw[e1];simp only[BQ,BY,cond_false];rw[e3];simp only[BQ,BY,cond_false];rw[d5 (by omega)];simp only[BQ];rw[u6 K l hl Y];simp only[BQ];have hA:Asc (λg:af=>g.1) (l.map (·.1)):=by
  have:=O.2;unfold Asc at this ⊢;rw[CL];exact this
 have r:(l.map (·.1)).length=l.length:=CC _;obtain⟨m,hm,h1⟩:=sX K (l.map (·.1)) f.1 (by rw[r];exact hl) hA Y;rw[h1];simp only[BQ];have y:∀ i (h:i<l.length),(l.map (·.1))[i]'(by rw[r];exact h)=l[i].1:=λi h=>List.getElem_map _
 have J:=hm.le;rw[r]at J;have lo:∀ i,(u:i<l.length)->i<m->l[i].1.1<f.1:=λi u I=>by have:=hm.lo i (by rw[r];exact u) I;rwa [y i u]at this
 have X:∀ i,(u:i<l.length)->m<=i->f.1<=l[i].1.1:=λi u I=>by have:=hm.hi i (by rw[r];exact u) I;rwa [y i u]at this
 by_cases he:∃ h:m<l.length,l[m].1.1=f.1
 ·obtain⟨z,H⟩:=he;rw[decide_eq_true ⟨by rw[r];exact z,by rw[y m z];exact H⟩];simp only[BY,cond_false,ag z,BQ,BV];rw[show Q152.f K (f,l[m].1,())=_ from mT K f l[m].1 Y];simp only[BQ];have a3:∀ x∈l,x.1.1=f.1->x=l[m]:=λx M e=>by
   obtain⟨i,u,rfl⟩:=BZ M;have:=o6 O.2 u z (by show l[i].1.1=l[m].1.1;rw[e,H]);subst this;rfl
  by_cases Z:bC f l[m].1
  ·rw[decide_eq_true ((jB H.symm).2 Z),dv,if_neg (λ⟨x,M,e,hn⟩=>hn (by rw[a3 x M e];exact Z)),iq (k:=λx:aL=>x.1.1) (x:=(f,4)) O.2 z H];rfl
  ·rw[decide_eq_false (λh=>Z ((jB H.symm).1 h)),dv,if_pos ⟨l[m],BS z,H,Z⟩];rfl
 ·have R:∀ x∈l,x.1.1≠f.1:=λx M e=>by
   obtain⟨i,u,rfl⟩:=BZ M;rcases C9 i m with h|h|h
   ·have:=lo i u h;omega
   ·subst h;exact he ⟨u,e⟩
   ·have h5:=X m (by omega) (CA _);have h6:l[m].1.1<l[i].1.1:=cE.1 O.2 m i (by omega) u h;omega
  rw[decide_eq_false (λ⟨z,H⟩=>he ⟨by rw[r]at z;exact z,by rw[y m (by rw[r]at z;exact z)]at H;exact H⟩),dv,if_neg (λ⟨x,M,e,_⟩=>R x M e)];simp only[CM,cond_true];rw[jC J (by omega) hl];simp only[BQ];rw[gy (k:=λx:aL=>x.1.1) (x:=(f,4)) J lo (λi u a0=>by
   have h1:=X i u a0;have z:=R l[i] (BS u);show f.1<l[i].1.1;omega)]
theorem ov {α:Type}{k:α->Int}{x:α}:∀ {r:List α},jX k x true r=r.filter (λy=>k y != k x)
 |[]=>rfl
 |y::r=>by
  simp only[jX,BY,Cm,cond_false,DH,B7,CD];rw[ov];cases k y != k x <;> rfl
theorem ux {α:Type}{k:α->Int}{x:α}{xs:List α}:bh k x (xs.filter λy=>!(k y==k x))=bh k x xs:=by
 simp only[bh,List.filter_filter];congr 1
 ·refine DA λy _=>?_
  by_cases h:k y<k x
  ·rw[decide_eq_true h];simp;omega
  ·rw[decide_eq_false h];rfl
 ·congr 1;refine DA λy _=>?_
  by_cases h:k x<k y
  ·rw[decide_eq_true h];simp;omega
  ·rw[decide_eq_false h];rfl
def mkD (r:Int)(f:af)(b:Int):bO:=(f.1,f.2.1,r,[b])
def cQ (r:Int)(ds:List bO)(f:af)(b:Int):List bO:=if f.2.2.1=2 then bh (λd=>d.1) (mkD r f b) ds else ds.filter (λd=>!(d.1==f.1))
theorem Ac (K:Nat)(n:aa)(f:af)(b:Int)(Y:(aa.doubts n).length<=1048576)(I:Asc (λd:bO=>d.1) (aa.doubts n))(X:1048577<K) :
  Q29.f K (n,f,b,())=some ((cQ n.2.2.2.2.2.1 (aa.doubts n) f b,()),()):=by
 have:=sZ (step:=λrec a=>Q29.s0 K (n,f,b,()) rec a) (λd:bO=>d.1) (mkD n.2.2.2.2.2.1 f b) (aa.doubts n) (λ_=>false) none (λM=>some ((M,()),())) (λr d i=>(r,d,(i:Int))) ?_ ?_ (aa.doubts n).length 0 K [] (f.2.2.1 != 2) (by omega) (by omega) (by simp) (by simp)
 ·refine DE (this:Q29.f K (n,f,b,())=_) ?_;rw[CI,show (aa.doubts n).any (λ_=>false)=false by simp,cQ];by_cases u:f.2.2.1=2
  ·rw[if_pos u,show (f.2.2.1 != 2)=false by simpa using u,kY I];rfl
  ·rw[if_neg u,show (f.2.2.1 != 2)=true by simpa using u,ov];rfl
 ·intro rec r d i R J z;simp only[Q29.s0];rw[bi (by omega:(i:Int)<(BR (aa.doubts n):Int)),ag R,ar i (by omega)];simp only[cond_true,cond_false,BQ];have y:decide ((r.length+[mkD n.2.2.2.2.2.1 f b].length)*48<=an)=true:=szb _ _ _ (by omega) (by simp;omega);have O:decide (((r++[mkD n.2.2.2.2.2.1 f b]).length+[(aa.doubts n)[i]].length)*48<=an)=true:=szb _ _ _ (by omega) (by simp;omega);have H:decide ((r.length+[(aa.doubts n)[i]].length)*48<=an)=true:=szb _ _ _ (by omega) (by simp;omega);show (bif !d then (bif decide (f.1<=(aa.doubts n)[i].1) then (bif decide ((r.length+[mkD n.2.2.2.2.2.1 f b].length)*48<=an) then (bif (aa.doubts n)[i].1 != f.1 then (bif decide (((r++[mkD n.2.2.2.2.2.1 f b]).length+[(aa.doubts n)[i]].length)*48<=an) then (rec ((r++[mkD n.2.2.2.2.2.1 f b])++[(aa.doubts n)[i]],true,((i+1:Nat):Int))) else none) else (rec (r++[mkD n.2.2.2.2.2.1 f b],true,((i+1:Nat):Int)))) else none) else (bif (aa.doubts n)[i].1 != f.1 then (bif decide ((r.length+[(aa.doubts n)[i]].length)*48<=an) then (rec (r++[(aa.doubts n)[i]],d,((i+1:Nat):Int))) else none) else (rec (r,d,((i+1:Nat):Int))))) else (bif (aa.doubts n)[i].1 != f.1 then (bif decide ((r.length+[(aa.doubts n)[i]].length)*48<=an) then (rec (r++[(aa.doubts n)[i]],d,((i+1:Nat):Int))) else none) else (rec (r,d,((i+1:Nat):Int)))))=rec ((r++(bif !d&&decide (f.1<=(aa.doubts n)[i].1) then [mkD n.2.2.2.2.2.1 f b] else []))++(bif (aa.doubts n)[i].1 != f.1 then [(aa.doubts n)[i]] else []),d||decide (f.1<=(aa.doubts n)[i].1),((i+1:Nat):Int));rw[y,O,H];cases d <;> cases decide (f.1<=(aa.doubts n)[i].1) <;> cases (aa.doubts n)[i].1 != f.1 <;> simp only[BY,CM,Ce,Cm,DH,DC,cond_true,cond_false,B5]
 ·intro rec r d J z;simp only[Q29.s0,aN];cases d with
  |true=>simp only[BY,cond_false,cond_true,B5]
  |false =>
   have:=z rfl;have y:decide ((r.length+[mkD n.2.2.2.2.2.1 f b].length)*48<=an)=true:=szb _ _ _ (by omega) (by simp;omega);show (bif decide ((r.length+[mkD n.2.2.2.2.2.1 f b].length)*48<=an) then some ((r++[mkD n.2.2.2.2.2.1 f b],()),()) else none)=some ((r++[mkD n.2.2.2.2.2.1 f b],()),());rw[y];rfl
theorem Ad (K:Nat)(t:List bO)(r:Int)(ht:t.length<=1048576)(z:Asc (λd:bO=>d.1) t)(h7:∀ d∈t,InP d.1 0 7)(R:InP r 0 7)(hK:1048577<K) :
  ∃ m,m<=t.length/\(∀ i,(h:i<t.length)->i<m->t[i].1<r)/\(∀ i,(h:i<t.length)->m<=i->r<=t[i].1)/\∃ b,Q175.f K (t,r,(λH=>(Q176.f K (H.1,H.2.1,())).map λy=>y.1.1),())=some ((((m:Nat):Int),b,()),()):=by
 let ks:Nat->Int:=λi=>if h:i<t.length then t[i].1 else 0
 have u:∀ i (h:i<t.length),ks i=t[i].1:=λi h=>by simp[ks,h]
 let I:Nat->Option ((Int×Bool×Unit)×Unit):=λm=>some ((((m:Nat):Int),decide (∃ h:m<t.length,t[m].1=r),()),())
 have Y:∀ d∈t,((Q176.f K (d,r,())).map λy=>y.1.1)=some (d.1-r):=λd hd=>by
  obtain⟨a1,a2⟩:=h7 d hd;obtain⟨a3,a4⟩:=R;simp only[Q176.f];rw[aJ (by omega) (by omega)];rfl
 have:=pO (step:=λrec a=>Q175.s0 K (t,r,(λH=>(Q176.f K (H.1,H.2.1,())).map λy=>y.1.1),()) rec a) (ks:=ks) (n:=t.length) (t:=r) I ht
  (λi j M X=>by
   rw[u i (by omega),u j X];exact cE.1 z i j (by omega) X M) ?_ ?_ t.length K 0 t.length (by omega) (CG _) (CA _) (by omega) (λi J=>by omega) (λi J R=>by omega)
 ·obtain⟨m,Z,h2,h3,h4⟩:=this;exact⟨m,Z,λi h J=>by rw[<- u i h];exact h2 i J,λi h J=>by rw[<- u i h];exact h3 i J h,_,h4⟩
 ·intro rec a b a0 hb;have O:(a+b) / 2<t.length:=by omega
  simp only[Q175.s0];rw[decide_eq_true (by omega:(a:Int)<(b:Int)),nR (by omega)];simp only[cond_true];rw[ag O];simp only[BQ,Y _ (BS O)];rw[u _ O,ar _ (by omega)];by_cases h:t[(a+b) / 2].1<r
  ·rw[if_pos h,decide_eq_true (by omega:t[(a+b) / 2].1-r<0)];rfl
  ·rw[if_neg h,decide_eq_false (by omega:¬ t[(a+b) / 2].1-r<0)];rfl
 ·intro rec a ha;simp only[Q175.s0];rw[decide_eq_false (by omega)];simp only[cond_false];by_cases h:a<t.length
  ·rw[decide_eq_true (by omega:(a:Int)<(BR t:Int)),ag h];simp only[cond_true,BQ,Y _ (BS h)];have:(t[a].1-r==0)=decide (∃ h:a<t.length,t[a].1=r):=by
    rw[Cu];simp only[beq_iff_eq,decide_eq_true_eq];exact⟨λe=>⟨h,by omega⟩,λ⟨_,e⟩=>by omega⟩
   rw[this]
  ·rw[decide_eq_false (by omega:¬ (a:Int)<(BR t:Int))];simp only[cond_false,I];rw[decide_eq_false (λ⟨h',_⟩=>h h')]
def gb (n:aa)(t:List af)(c:List aL)(ds:List bO):aa :=
 (n.1,n.2.1,n.2.2.1,n.2.2.2.1,n.2.2.2.2.1,n.2.2.2.2.2.1,n.2.2.2.2.2.2.1,n.2.2.2.2.2.2.2.1,t,c,n.2.2.2.2.2.2.2.2.2.2.1,ds,n.2.2.2.2.2.2.2.2.2.2.2.2)
def jY (n:aa)(f:af):Bool:=decide (∃ g∈aa.table n,g.1=f.1/\g.2.1=f.2.1/\g.2.2.1=f.2.2.1)
def sayOf (n:aa)(f:af)(b:Int):aa :=
 bif (bj (aa.table n) f).2 then gb n (bj (aa.table n) f).1 (dv (aa.cast n) f) (bif jY n f then aa.doubts n else cQ n.2.2.2.2.2.1 (aa.doubts n) f b) else n
structure cz (n:aa):Prop where
 table:ax (aa.table n)
 cast:cU (aa.cast n)
 asc:Asc (λd:bO=>d.1) (aa.doubts n)
 inp:∀ d∈aa.doubts n,InP d.1 0 7
 lt:(aa.table n).length<=1048576
 lc:(aa.cast n).length<=1048576
 ld:(aa.doubts n).length<=1048576
theorem tc {n:aa}{f g:af}(u:Asc (λg:af=>g.1) (aa.table n))(r:g∈aa.table n)(e:g.1=f.1):jY n f=(g.2.1==f.2.1&&g.2.2.1==f.2.2.1):=by
 rw[Cu,jY,decide_eq_true_eq,CX,beq_iff_eq,beq_iff_eq];constructor
 ·rintro⟨x,hx,h1,h2,h3⟩;have:=fu u hx r (by rw[h1,e]);subst this;exact⟨h2,h3⟩
 ·rintro⟨h1,h2⟩;exact⟨g,r,e,h1,h2⟩
theorem td {n:aa}{f:af}(h:∀ g∈aa.table n,g.1≠f.1):jY n f=false :=
 decide_eq_false λ⟨g,r,e,_⟩=>h g r e
theorem pU (K:Nat)(n:aa)(f:af)(b:Int)(h:cz n)(r:1048577<K):Q90.f K (n,f,b,())=some ((sayOf n f b,()),()):=by
 simp only[Q90.f,zcp8];rw[show Q27.f K (n.2.2.2.2.2.2.2.2.1,f,())=_ from put_s K (aa.table n) f h.lt h.table.2 r];simp only[BQ];cases z:(bj (aa.table n) f).2 with
 |false =>
  simp only[sayOf,z];rfl
 |true =>
  simp only[sayOf,z,BY,cond_false,cond_true];obtain⟨o,M,J⟩:=fq K (aa.table n) f.1 h.lt r;rw[show Q25.f K (n.2.2.2.2.2.2.2.2.1,f.1,())=_ from J];simp only[BQ];have H:=Ac K (n.1,n.2.1,n.2.2.1,n.2.2.2.1,n.2.2.2.2.1,n.2.2.2.2.2.1,n.2.2.2.2.2.2.1,n.2.2.2.2.2.2.2.1,(bj (aa.table n) f).1,dv (aa.cast n) f,n.2.2.2.2.2.2.2.2.2.2) f b h.ld h.asc r;have y:=Ab K (aa.cast n) f h.lc h.cast.2 r;cases M with
  |at_ i I e =>
   simp only;rw[tc h.table.2 (BS I) e,decide_eq_true (by omega:((i:Nat):Int)>=0)];simp only[cond_true];rw[show idx n.2.2.2.2.2.2.2.2.1 (i:Int)=some (aa.table n)[i] from ag I];simp only[BQ];rw[show Q28.f K (n.2.2.2.2.2.2.2.2.2.1,f,())=_ from y];simp only[BQ];rw[H];cases (aa.table n)[i].2.1==f.2.1 with
   |true =>
    cases (aa.table n)[i].2.2.1==f.2.2.1 <;> rfl
   |false=>rfl
  |no u =>
   simp only;rw[td u,decide_eq_false (by omega:¬ (-1:Int)>=0)];simp only[cond_false];rw[show Q28.f K (n.2.2.2.2.2.2.2.2.2.1,f,())=_ from y];simp only[BQ];rw[H];rfl
theorem md {α:Type}{k:α->Int}{xs:List α}(h:Asc k xs)(p:α->Bool):Asc k (xs.filter p):=Cn p h
theorem Ae {R:Type}(K:Nat)(r:Int)(ds:List bO)(f:af)(b:Int)(G:List bO->Option R)(M:ds.length<=1048576)(hA:Asc (λd:bO=>d.1) ds)(h7:∀ d∈ds,InP d.1 0 7)(hf:aX f)(hK:1048577<K) :
  ((Q5.f K (ds,(λJ=>(Q174.f K (J.1,f,())).map λy=>y.1.1),())).bind λI=>bif f.2.2.1==2 then ((Q175.f K (I.1.1,f.1,(λO=>(Q176.f K (O.1,O.2.1,())).map λy=>y.1.1),())).bind λy7=>(Q6.f K (I.1.1,y7.1.1,[mkD r f b],())).bind λY=>G Y.1.1) else G I.1.1)=G (cQ r ds f b):=by
 rw[show Q5.f K (ds,(λJ=>(Q174.f K (J.1,f,())).map λy=>y.1.1),())=some ((ds.filter (λd=>!(d.1==f.1)),()),()) by
  simp only[Q5.f];exact ru _ M (λd _=>rfl)]
 simp only[BQ,cQ];by_cases z:f.2.2.1=2
 ·rw[if_pos z,show (f.2.2.1==2)=true by simpa using z];simp only[cond_true];have u:(ds.filter (λd=>!(d.1==f.1))).length<=1048576:=CK (CZ _ _) M;obtain⟨m,X,Z,hi,b',e⟩:=Ad K (ds.filter (λd=>!(d.1==f.1))) f.1 u (md hA _) (λd hd=>h7 d (BX.1 hd).1) hf.1 hK;rw[e];simp only[BQ];rw[show Q6.f K (ds.filter (λd=>!(d.1==f.1)),(m:Int),[mkD r f b],())=some (((ds.filter (λd=>!(d.1==f.1))).take m++[mkD r f b]++(ds.filter (λd=>!(d.1==f.1))).drop m,()),()) by
   simp only[Q6.f];exact jC X (by omega) u]
  simp only[BQ];have:=gy (k:=λd:bO=>d.1) (x:=mkD r f b) X Z (λi h H=>by
   have h1:=hi i h H;have h3:(!((ds.filter (λd=>!(d.1==f.1)))[i].1==f.1))=true:=(BX.1 (BS h)).2;have h4:(ds.filter (λd=>!(d.1==f.1)))[i].1≠f.1:=by simpa using h3
   show f.1<_;omega)
  rw[this];exact congrArg G (ux (k:=λd:bO=>d.1) (x:=mkD r f b))
 ·rw[if_neg z,show (f.2.2.1==2)=false by simpa using z];rfl
theorem zK (K:Nat)(n:aa)(f:af)(b:Int)(h:cz n)(y:aX f)(u:1048577<K):Q177.f K (n,f,b,())=some ((),(sayOf n f b,())):=by
 simp only[Q177.f,zcp8];have M:∃ g:af,∃ H,Q139.f K (aa.table n,f.1,())=some ((g,H,()),())/\jY n f=(g.2.2.1==f.2.2.1&&g.2.1==f.2.1):=by
  rcases jA K (aa.table n) f.1 h.lt u with ⟨r,_⟩|⟨_,⟨g,O,e,r⟩|⟨J,r⟩⟩
  ·exact absurd h.table r
  ·exact⟨g,_,r,by rw[tc h.table.2 O e,Bool.and_comm]⟩
  ·refine⟨_,_,r,?_⟩;rw[td J,show ((0:Int)==f.2.2.1)=false by have:=y.2.2.1;simp;omega];rfl
 obtain⟨g,H,r,R⟩:=M;rw[show Q139.f K (n.2.2.2.2.2.2.2.2.1,f.1,())=_ from r];simp only[BQ];rw[show Q170.f K (n.2.2.2.2.2.2.2.2.1,f,())=_ from vT K (aa.table n) f h.lt h.table.2 u];simp only[BQ];cases I:(bj (aa.table n) f).2 with
 |false =>
  simp only[sayOf,I];rfl
 |true =>
  simp only[sayOf,I,BY,cond_false,cond_true];rw[show Q172.f K (n.2.2.2.2.2.2.2.2.2.1,f,())=_ from xo K (aa.cast n) f h.lc h.cast y u];simp only[BQ];have z:=Ae K n.2.2.2.2.2.1 (aa.doubts n) f b (λX=>some ((),(gb n (bj (aa.table n) f).1 (dv (aa.cast n) f) X,()))) h.ld h.asc h.inp y u;rw[R];cases g.2.2.1==f.2.2.1 with
  |true =>
   cases g.2.1==f.2.1 with
   |true=>rfl
   |false=>exact z
  |false=>exact z
theorem iS {α:Type}{k:α->Int}{xs:List α}(h:Asc k xs)(u:∀ x∈xs,InP (k x) 0 7):xs.length<=8:=by
 have:=(je (xs.map k) [0,1,2,3,4,5,6,7] (by unfold Asc at h;rw[CL];exact h) (by decide) (λy r=>by
  obtain⟨x,z,rfl⟩:=CH.1 r;obtain⟨H,I⟩:=u x z;simp only[CV,C5,or_false];omega)).1
 rw[CC]at this;exact this
theorem hI (t:List af)(f:af):(bj t f).1=t\/(bj t f).1=bh (λg=>g.1) f t:=by
 unfold bj;split
 ·split
  ·exact .inr rfl
  ·exact .inl rfl
 ·exact .inr rfl
theorem gz {t:List af}{f:af}(h:ax t)(y:aX f):ax (bj t f).1:=by
 rcases hI t f with e|e
 ·rw[e];exact h
 ·rw[e];refine⟨λg r=>?_,eE h.2⟩;rcases aW.1 r with rfl|⟨u,_⟩
  ·exact y
  ·exact h.1 g u
theorem pV {l:List aL}{f:af}(h:cU l)(u:aX f):cU (dv l f):=by
 unfold dv;split
 ·exact h
 ·refine⟨λx y=>?_,eE h.2⟩;rcases aW.1 y with rfl|⟨r,_⟩
  ·exact⟨u,show (1:Int)<=4 by omega,show (4:Int)<=4 by omega⟩
  ·exact h.1 x r
theorem kn {r:Int}{ds:List bO}{f:af}{b:Int}{d:bO}(h:d∈cQ r ds f b):d=mkD r f b\/d∈ds:=by
 unfold cQ at h;split at h
 ·rcases aW.1 h with h|h
  ·exact .inl h
  ·exact .inr h.1
 ·exact .inr (BX.1 h).1
theorem te {r:Int}{ds:List bO}{f:af}{b:Int}(h:Asc (λd:bO=>d.1) ds):Asc (λd:bO=>d.1) (cQ r ds f b):=by
 unfold cQ;split
 ·exact eE h
 ·exact md h _
theorem gA (n:aa)(f:af)(b:Int):∃ t c r,sayOf n f b=gb n t c r/\(t=aa.table n\/t=(bj (aa.table n) f).1)/\(c=aa.cast n\/c=dv (aa.cast n) f)/\(r=aa.doubts n\/r=cQ n.2.2.2.2.2.1 (aa.doubts n) f b):=by
 unfold sayOf;cases (bj (aa.table n) f).2 with
 |false=>exact⟨aa.table n,aa.cast n,aa.doubts n,rfl,.inl rfl,.inl rfl,.inl rfl⟩
 |true =>
  cases jY n f with
  |true=>exact⟨_,_,_,rfl,.inr rfl,.inr rfl,.inl rfl⟩
  |false=>exact⟨_,_,_,rfl,.inr rfl,.inr rfl,.inr rfl⟩
theorem cz.mk' {n:aa}(r:ax (aa.table n))(u:cU (aa.cast n))(z:Asc (λd:bO=>d.1) (aa.doubts n))(y:∀ d∈aa.doubts n,InP d.1 0 7):cz n where
 table:=r
 cast:=u
 asc:=z
 inp:=y
 lt:=CK (iS r.2 (λg H=>(r.1 g H).1)) (by decide)
 lc:=CK (iS u.2 (λx I=>(u.1 x I).1.1)) (by decide)
 ld:=CK (iS z y) (by decide)
theorem is {n:aa}{f:af}{b:Int}(h:cz n)(r:aX f):cz (sayOf n f b):=by
 obtain⟨t,c,y,e,H,I,z⟩:=gA n f b;rw[e];refine cz.mk' ?_ ?_ ?_ ?_
 ·show ax t;rcases H with rfl|rfl
  ·exact h.table
  ·exact gz h.table r
 ·show cU c;rcases I with rfl|rfl
  ·exact h.cast
  ·exact pV h.cast r
 ·show Asc _ y;rcases z with rfl|rfl
  ·exact h.asc
  ·exact te h.asc
 ·show ∀ d∈y,InP d.1 0 7;rcases z with rfl|rfl
  ·exact h.inp
  ·intro d u;rcases kn u with rfl|u
   ·exact r.1
   ·exact h.inp d u
theorem yK {n:aa}{f:af}{b:Int}(h:∀ d∈aa.doubts n,d.2.2.2.length<=1048576):∀ d∈aa.doubts (sayOf n f b),d.2.2.2.length<=1048576:=by
 obtain⟨t,c,u,e,_,_,y⟩:=gA n f b;rw[e];show ∀ d∈u,_;rcases y with rfl|rfl
 ·exact h
 ·intro d r;rcases kn r with rfl|r
  ·exact Nat.succ_le_of_lt (by decide)
  ·exact h d r
theorem UpP.say {n:aa}(h:UpP n):cz n:=by
 obtain⟨r,_,_,⟨y,_⟩,_,u,_⟩:=h;refine cz.mk' r y u.2.1 λd H=>?_
 obtain⟨f,z,e,_⟩:=(u.1 d H).1;rw[<- e];exact (r.1 f z).1
theorem lD {α β A R:Type}(t:List α)(p:α->Bool)(g:α->β)(S:List β->Nat->A)(u:List β->Option R){step:(A->Option R)->A->Option R}
  (h:∀ (rec:A->Option R) (r:List β) (i:Nat) (O:i<t.length),r.length<=i->step rec (S r i)=rec (S (bif p t[i] then r++[g t[i]] else r) (i+1)))
  (z:∀ (rec:A->Option R) (r:List β),r.length<=t.length->step rec (S r t.length)=u r) {k:Nat} (H:t.length<k) :
  ae step k (S [] 0)=u ((t.filter p).map g):=by
 have:∀ (d i k:Nat) (r:List β),i+d=t.length->d<k->r.length<=i->ae step k (S r i)=u (r++((t.drop i).filter p).map g):=by
  intro d;induction d with
  |zero =>
   intro i k r O H J;obtain⟨k,rfl⟩:∃ I,k=I+1:=⟨k-1,by omega⟩;have:i=t.length:=by omega
   subst this;show step (ae step k) _=_;rw[z _ _ J];simp
  |succ d M =>
   intro i k r O H J;obtain⟨k,rfl⟩:∃ I,k=I+1:=⟨k-1,by omega⟩;have y:i<t.length:=by omega
   show step (ae step k) _=_;rw[h _ _ _ y J,B3 y,CD];cases p t[i] with
   |true =>
    simp only[cond_true,if_true,DB];rw[M (i+1) k _ (by omega) (by omega) (by simp;omega),CU];rfl
   |false =>
    simp only[cond_false];rw[M (i+1) k _ (by omega) (by omega) (by omega)];rfl
 have:=this t.length 0 k [] (by omega) H (CA _)
 rwa [CI,B7]at this
def tf:aa:=(0,false,false,false,0,0,0,0,[],[],(0,0,0,false),[],(0,0,0,0),[],[])
theorem uy:NB tf where
 table:=CG _
 cast:=CG _
 doubts:=CG _
 by_:=λd r=>absurd r C5
 places:=CG _
 trips:=λd r=>absurd r C5
 others:=CG _
 facts:=λd r=>absurd r C5
theorem szw (a b c:Nat)(r:c<=128)(h:a+b<=2097152):decide ((a+b)*c<=an)=true:=by
 have:=Cw h r;exact decide_eq_true (by unfold an;omega)
def kG (n:aa):aa:=(n.1,n.2.1,true,n.2.2.2)
def nV (r:Int)(n:aa)(to:Int):ah:=(1,r,n.1,to,0,n.1,aa.coord n,aa.table n)
theorem Af (K:Nat)(n:aa)(r to:Int)(u:(aa.table n).length<=1048576):Q207.f K (n,r,to,())=some ((nV r n to,()),()):=by
 simp only[Q207.f,zcp4,Q186.f,BQ,Q1.f];rw[d5 (by show (aa.table n).length*_<=_;omega)];rfl
theorem nW (K:Nat)(n:aa)(r to:Int)(u:(aa.table n).length<=1048576):Q39.f K (n,r,to,0,n.1,aa.table n,())=some ((nV r n to,()),()):=by
 simp only[Q39.f];rw[szb _ _ _ (by omega) (by show (BR ([]:List af))+(aa.table n).length<=_;simp;omega)];rfl
def eF (f:af):Bool:=f.2.2.1==1||f.2.2.1==2
theorem u9 (K:Nat)(t:List af)(f:af)(z:ax t)(y:t.length<=1048576)(r:f∈t)(I:1048577<K):Q92.f K (t,f.1,())=rb (eF f):=by
 simp only[Q92.f];obtain⟨o,J,H⟩:=fq K t f.1 y I;rw[H];simp only[BQ];cases J with
 |at_ i u e =>
  simp only;rw[decide_eq_true (by omega:((i:Nat):Int)>=0),ag u];simp only[cond_true,BQ];rw[fu z.2 (BS u) r e,eF];cases f.2.2.1==1 <;> rfl
 |no h=>exact absurd rfl (h f r)
def tg (n:aa)(f:af):Bool:=f.1 != n.1&&eF f
def lE (n:aa):List ah:=((aa.table n).filter (tg n)).map λf=>nV 5 n f.1
def mX (n:aa):aa:=kG (sayOf n (n.1,n.2.2.2.2.1,4,n.2.2.2.1) n.1)
theorem th (K:Nat)(x:ab Q105.ps)(m:aa)(H:ax (aa.table m))(u:(aa.table m).length<=1048576)(I:1048577<K) :
  Q105.l0 K x ([],0,m.1,m.2.1,m.2.2.2.1,m.2.2.2.2.1,m.2.2.2.2.2.1,m.2.2.2.2.2.2.1,m.2.2.2.2.2.2.2.1,m.2.2.2.2.2.2.2.2.1,m.2.2.2.2.2.2.2.2.2.1,m.2.2.2.2.2.2.2.2.2.2.1.1,m.2.2.2.2.2.2.2.2.2.2.1.2.1,m.2.2.2.2.2.2.2.2.2.2.1.2.2.1,m.2.2.2.2.2.2.2.2.2.2.1.2.2.2,m.2.2.2.2.2.2.2.2.2.2.2.1,m.2.2.2.2.2.2.2.2.2.2.2.2.1.1,m.2.2.2.2.2.2.2.2.2.2.2.2.1.2.1,m.2.2.2.2.2.2.2.2.2.2.2.2.1.2.2.1,m.2.2.2.2.2.2.2.2.2.2.2.2.1.2.2.2,m.2.2.2.2.2.2.2.2.2.2.2.2.2.1,m.2.2.2.2.2.2.2.2.2.2.2.2.2.2)=some ((kG m,lE (kG m),()),()):=by
 refine lD (step:=λrec a=>Q105.s0 K x rec a) (aa.table m) (tg (kG m)) (λf=>nV 5 (kG m) f.1) (λr i=>(r,(i:Int),m.1,m.2.1,m.2.2.2.1,m.2.2.2.2.1,m.2.2.2.2.2.1,m.2.2.2.2.2.2.1,m.2.2.2.2.2.2.2.1,m.2.2.2.2.2.2.2.2.1,m.2.2.2.2.2.2.2.2.2.1,m.2.2.2.2.2.2.2.2.2.2.1.1,m.2.2.2.2.2.2.2.2.2.2.1.2.1,m.2.2.2.2.2.2.2.2.2.2.1.2.2.1,m.2.2.2.2.2.2.2.2.2.2.1.2.2.2,m.2.2.2.2.2.2.2.2.2.2.2.1,m.2.2.2.2.2.2.2.2.2.2.2.2.1.1,m.2.2.2.2.2.2.2.2.2.2.2.2.1.2.1,m.2.2.2.2.2.2.2.2.2.2.2.2.1.2.2.1,m.2.2.2.2.2.2.2.2.2.2.2.2.1.2.2.2,m.2.2.2.2.2.2.2.2.2.2.2.2.2.1,m.2.2.2.2.2.2.2.2.2.2.2.2.2.2)) (λz=>some ((kG m,z,()),())) ?_ ?_ (by omega)
 ·intro rec r i y J;simp only[Q105.s0,zceae5f];rw[show decide ((i:Int)<(BR m.2.2.2.2.2.2.2.2.1:Int))=true from bi (by omega:(i:Int)<(BR (aa.table m):Int)),show idx m.2.2.2.2.2.2.2.2.1 (i:Int)=some (aa.table m)[i] from ag y,ar i (by omega)];simp only[cond_true,BQ,tg];rw[show (kG m).1=m.1 from rfl];cases M:(aa.table m)[i].1 != m.1 with
  |false=>rfl
  |true =>
   simp only[cond_true,Ce];rw[show Q92.f K (m.2.2.2.2.2.2.2.2.1,(aa.table m)[i].1,())=_ from u9 K (aa.table m) _ H u (BS y) I];simp only[BQ];cases eF (aa.table m)[i] with
   |false=>rfl
   |true =>
    simp only[cond_true];refine (congrArg (λo=>Cg o _) (nW K (kG m) 5 (aa.table m)[i].1 u)).trans ?_;simp only[BQ];rw[szw _ _ _ (by omega) (by simp;omega)];rfl
 ·intro rec r J;simp only[Q105.s0,zceae5f];rw[show decide ((BR (aa.table m):Int)<(BR m.2.2.2.2.2.2.2.2.1:Int))=false from aN _];rfl
theorem vU {n:aa}(r:fa n):aX (n.1,n.2.2.2.2.1,4,n.2.2.2.1):=⟨r.1,r.2.2.2.2.1,show (1:Int)<=4 by omega,show (4:Int)<=4 by omega⟩
theorem Ag (K:Nat)(n:aa)(J:NB n)(u:fa n)(H:n.2.1=true)(I:n.2.2.1=false)(z:1048577<K):Q105.f K (n,())=some ((mX n,lE (mX n),()),()):=by
 have r:=(u.up H).say;have y:=is (b:=n.1) r (vU u);simp only[Q105.f,Q105.pre];rw[H,I];simp only[BY,cond_false];rw[pU K n _ n.1 r z];exact th K _ _ y.table y.lt z
theorem kH {α r A R:Type}(ds:List α)(st:r->α->r)(Inv:r->Prop)(S:r->Nat->A)(u:r->Option R){step:(A->Option R)->A->Option R}(n:r)(O:Inv n)
  (h:∀ (rec:A->Option R) (m:r) (i:Nat) (M:i<ds.length),Inv m->step rec (S m i)=rec (S (st m ds[i]) (i+1))/\Inv (st m ds[i]))
  (z:∀ (rec:A->Option R) (m:r),Inv m->step rec (S m ds.length)=u m) {k:Nat} (H:ds.length<k):ae step k (S n 0)=u (ds.foldl st n):=by
 have:∀ (d i k:Nat) (m:r),i+d=ds.length->d<k->Inv m->ae step k (S m i)=u ((ds.drop i).foldl st m):=by
  intro d;induction d with
  |zero =>
   intro i k m M H J;obtain⟨k,rfl⟩:∃ I,k=I+1:=⟨k-1,by omega⟩;have:i=ds.length:=by omega
   subst this;show step (ae step k) _=_;rw[z _ _ J,C4];rfl
  |succ d Z =>
   intro i k m M H J;obtain⟨k,rfl⟩:∃ I,k=I+1:=⟨k-1,by omega⟩;have y:i<ds.length:=by omega
   show step (ae step k) _=_;obtain⟨X,Y⟩:=h (ae step k) m i y J;rw[X,B3 y];exact Z (i+1) k _ (by omega) (by omega) Y
 have:=this ds.length 0 k n (by omega) H O
 rwa [CI]at this
theorem mf {α r:Type}{st:r->α->r}{Inv:r->Prop}:∀ {ds:List α} {n:r},Inv n->(∀ m,∀ d∈ds,Inv m->Inv (st m d))->Inv (ds.foldl st n)
 |[],_,h,_=>h
 |d::ds,n,h,y=>mf (ds:=ds) (y n d (by simp) h) (λm z u=>y m z (by simp[u]))
def aQ (t:List af)(r:Int):af:=(t.find? λg=>g.1==r).getD (0,0,0,false)
theorem jD {t:List af}(r:Asc (λg:af=>g.1) t){f:af}(u:f∈t):aQ t f.1=f:=by
 obtain⟨i,y,e⟩:=BZ u;unfold aQ;rw[show t.find? (λg=>g.1==f.1)=some t[i] from pd r y (by rw[e]),e];rfl
theorem jE {t:List af}{r:Int}(h:∀ g∈t,g.1≠r):aQ t r=(0,0,0,false):=by
 unfold aQ;rw[show t.find? (λg=>g.1==r)=none from nU h];rfl
theorem mY (K:Nat)(t:List af)(r:Int)(y:ax t)(z:t.length<=1048576)(J:1048577<K):∃ b,Q139.f K (t,r,())=some ((aQ t r,b,()),()):=by
 rcases jA K t r z J with ⟨u,_⟩|⟨_,⟨g,I,e,u⟩|⟨H,u⟩⟩
 ·exact absurd y u
 ·refine⟨true,?_⟩;rw[u,<- e,jD y.2 I]
 ·refine⟨false,?_⟩;rw[u,jE H]
theorem tj (K:Nat)(t:List af)(r:Int)(H:ax t)(z:t.length<=1048576)(y:1048577<K):Q92.f K (t,r,())=rb (eF (aQ t r)):=by
 by_cases h:∃ f∈t,f.1=r
 ·obtain⟨f,I,rfl⟩:=h;rw[u9 K t f H z I y,jD H.2 I]
 ·have u:∀ g∈t,g.1≠r:=λg O e=>h ⟨g,O,e⟩
  simp only[Q92.f];obtain⟨o,M,J⟩:=fq K t r z y;rw[J,jE u];cases M with
  |at_ i R e=>exact absurd e (u _ (BS R))
  |no _=>rfl
theorem iT (n:aa)(f:af)(b:Int):(sayOf n f b).1=n.1/\(sayOf n f b).2.1=n.2.1/\(sayOf n f b).2.2.1=n.2.2.1/\(sayOf n f b).2.2.2.1=n.2.2.2.1/\(sayOf n f b).2.2.2.2.1=n.2.2.2.2.1/\(sayOf n f b).2.2.2.2.2.1=n.2.2.2.2.2.1/\(sayOf n f b).2.2.2.2.2.2.1=n.2.2.2.2.2.2.1/\(sayOf n f b).2.2.2.2.2.2.2.1=n.2.2.2.2.2.2.2.1/\aa.probe (sayOf n f b)=aa.probe n/\(sayOf n f b).2.2.2.2.2.2.2.2.2.2.2.2=n.2.2.2.2.2.2.2.2.2.2.2.2:=by
 obtain⟨t,c,r,e,_⟩:=gA n f b;rw[e];exact⟨rfl,rfl,rfl,rfl,rfl,rfl,rfl,rfl,rfl,rfl⟩
theorem mZ {t:List af}{f g:af}(r:g∈t):∃ u∈(bj t f).1,u.1=g.1:=by
 rcases hI t f with e|e
 ·rw[e];exact⟨g,r,rfl⟩
 ·rw[e];by_cases h:g.1=f.1
  ·exact⟨f,aW.2 (.inl rfl),h.symm⟩
  ·exact⟨g,aW.2 (.inr ⟨r,h⟩),rfl⟩
theorem jF {n:aa}{f:af}{b:Int}{g:af}(r:g∈aa.table n):∃ u∈aa.table (sayOf n f b),u.1=g.1:=by
 obtain⟨t,c,z,e,y,_⟩:=gA n f b;rw[e];rcases y with rfl|rfl
 ·exact⟨g,r,rfl⟩
 ·exact mZ r
def qG (u r:Int)(len:Nat):Bool:=decide (u-r>=if 6-(len:Int)+1<3 then 3 else 6-(len:Int)+1)
def kI (f:af):af:=(f.1,f.2.1,3,f.2.2.2)
def it (n:aa)(d:bO):aa:=bif qG n.2.2.2.2.2.1 d.2.2.1 d.2.2.2.length then sayOf n (kI (aQ (aa.table n) d.1)) n.1 else n
def ko (n:aa):aa:=(aa.doubts n).foldl it n
theorem due_s (K:Nat)(r:Int)(d:bO)(u:0<=d.2.2.1)(z:d.2.2.1<=r)(H:r<=1000000)(y:d.2.2.2.length<=1048576):Q89.f K (r,d,())=rb (qG r d.2.2.1 d.2.2.2.length):=by
 simp only[Q89.f];rw[aJ (n:=6-(BR d.2.2.2:Int)) (by omega) (by omega),aJ (n:=6-(BR d.2.2.2:Int)+1) (by omega) (by omega),aJ (n:=r-d.2.2.1) (by omega) (by omega)];unfold qG;by_cases h:6-(BR d.2.2.2:Int)+1<3
 ·rw[decide_eq_true h,if_pos h];rfl
 ·rw[decide_eq_false h,if_neg h];rfl
structure pW (ds:List bO) (now:Int) (n:aa):Prop where
 ok:cz n
 key:∀ d∈ds,∃ f∈aa.table n,f.1=d.1
 now_:n.2.2.2.2.2.1=now
theorem va {f:af}(h:aX f):aX (kI f):=⟨h.1,h.2.1,show (1:Int)<=3 by omega,show (3:Int)<=4 by omega⟩
theorem eq {t:List af}{r:Int}(y:ax t)(h:∃ f∈t,f.1=r):aX (aQ t r)/\(aQ t r).1=r/\aQ t r∈t:=by
 obtain⟨f,u,rfl⟩:=h;rw[jD y.2 u];exact⟨y.1 f u,rfl,u⟩
theorem uz {ds:List bO}{r:Int}{n:aa}{d:bO}(h:pW ds r n)(O:d∈ds):pW ds r (it n d):=by
 unfold it;cases qG n.2.2.2.2.2.1 d.2.2.1 d.2.2.2.length with
 |false=>exact h
 |true =>
  have M:=va (eq h.ok.table (h.key d O)).1;refine⟨is h.ok M,λI y=>?_,(iT n _ _).2.2.2.2.2.1.trans h.now_⟩;obtain⟨g,H,e⟩:=h.key I y;obtain⟨J,u,z⟩:=jF (f:=kI (aQ (aa.table n) d.1)) (b:=n.1) H;exact⟨J,u,z.trans e⟩
theorem Bc (K:Nat)(n:aa)(h:pW (aa.doubts n) n.2.2.2.2.2.1 n)(Z:∀ d∈aa.doubts n,0<=d.2.2.1/\d.2.2.1<=n.2.2.2.2.2.1/\d.2.2.2.length<=1048576)(z:n.2.2.2.2.2.1<=1000000)(J:1048577<K):Q91.f K (n,())=some ((ko n,()),()):=by
 have hl:=h.ok.ld;refine kH (step:=λrec a=>Q91.s0 K (n,()) rec a) (aa.doubts n) it (pW (aa.doubts n) n.2.2.2.2.2.1) (λm i=>((i:Int),m.1,m.2.1,m.2.2.1,m.2.2.2.1,m.2.2.2.2.1,m.2.2.2.2.2.1,m.2.2.2.2.2.2.1,m.2.2.2.2.2.2.2.1,m.2.2.2.2.2.2.2.2.1,m.2.2.2.2.2.2.2.2.2.1,m.2.2.2.2.2.2.2.2.2.2.1.1,m.2.2.2.2.2.2.2.2.2.2.1.2.1,m.2.2.2.2.2.2.2.2.2.2.1.2.2.1,m.2.2.2.2.2.2.2.2.2.2.1.2.2.2,m.2.2.2.2.2.2.2.2.2.2.2.1,m.2.2.2.2.2.2.2.2.2.2.2.2.1.1,m.2.2.2.2.2.2.2.2.2.2.2.2.1.2.1,m.2.2.2.2.2.2.2.2.2.2.2.2.1.2.2.1,m.2.2.2.2.2.2.2.2.2.2.2.2.1.2.2.2,m.2.2.2.2.2.2.2.2.2.2.2.2.2.1,m.2.2.2.2.2.2.2.2.2.2.2.2.2.2)) (λm=>some ((m,()),())) n h ?_ ?_ (by omega)
 ·intro rec m i H u;refine⟨?_,uz u (BS H)⟩;simp only[Q91.s0,zc286a0,zc3ec45];obtain⟨I,O,R⟩:=Z _ (BS H);rw[show decide ((i:Int)<(BR n.2.2.2.2.2.2.2.2.2.2.2.1:Int))=true from bi (by omega:(i:Int)<(BR (aa.doubts n):Int)),show idx n.2.2.2.2.2.2.2.2.2.2.2.1 (i:Int)=some (aa.doubts n)[i] from ag H,ar i (by omega)];simp only[cond_true,BQ];rw[due_s K m.2.2.2.2.2.1 (aa.doubts n)[i] I (by rw[u.now_];exact O) (by rw[u.now_];exact z) R];simp only[BQ];have r:=u.key _ (BS H);generalize (aa.doubts n)[i]=d at r I O R ⊢;unfold it;cases qG m.2.2.2.2.2.1 d.2.2.1 d.2.2.2.length with
  |false=>rfl
  |true =>
   simp only[cond_true];have y:=eq u.ok.table r;obtain⟨o,Y,X⟩:=fq K (aa.table m) d.1 u.ok.lt J;rw[show Q25.f K (m.2.2.2.2.2.2.2.2.1,d.1,())=_ from X];simp only[BQ];cases Y with
   |no h=>exact absurd r (λ⟨f,hf,e⟩=>h f hf e)
   |at_ j M e =>
    simp only;rw[show idx m.2.2.2.2.2.2.2.2.1 ((j:Nat):Int)=some (aa.table m)[j] from ag M,fu u.ok.table.2 (BS M) y.2.2 (by rw[e,y.2.1])];simp only[BQ];refine (congrArg (λo=>Cg o _) (pU K m (kI (aQ (aa.table m) d.1)) m.1 u.ok J)).trans ?_;rfl
 ·intro rec m u;simp only[Q91.s0,zc286a0,zc3ec45];rw[show decide ((BR (aa.doubts n):Int)<(BR n.2.2.2.2.2.2.2.2.2.2.2.1:Int))=false from aN _];rfl
def setP (n:aa)(p:af):aa:=(n.1,n.2.1,n.2.2.1,n.2.2.2.1,n.2.2.2.2.1,n.2.2.2.2.2.1,n.2.2.2.2.2.2.1,n.2.2.2.2.2.2.2.1,n.2.2.2.2.2.2.2.2.1,n.2.2.2.2.2.2.2.2.2.1,p,n.2.2.2.2.2.2.2.2.2.2.2)
def noP:af:=(-1,0,0,false)
def pX (f:af):af:=(f.1,f.2.1,2,f.2.2.2)
def vV (n:aa)(f:af):Bool:=f.2.2.1==1&&f.1 != n.1&&f.1 != (aa.probe n).1
def fG (n:aa):List Int:=(((aa.table n).filter (vV n)).map (·.1)).take 2
def askW (n:aa)(to:Int):ah:=(1,3,n.1,to,(aa.probe n).2.2.1,(aa.probe n).1,aa.coord n,[])
def lF (n:aa):aa:=setP n ((aa.probe n).1,(aa.probe n).2.1,(aa.probe n).2.2.1,true)
def dp (n:aa):aa×List ah :=
 bif (aa.probe n).1==-1 then (n,[]) else
 bif !eF (aQ (aa.table n) (aa.probe n).1) then (setP n noP,[]) else
 bif decide (n.2.2.2.2.2.1-(aa.probe n).2.1>=4) then (bif (aQ (aa.table n) (aa.probe n).1).2.2.1==1 then sayOf (setP n noP) (pX (aQ (aa.table n) (aa.probe n).1)) n.1 else setP n noP,[]) else
 bif decide (n.2.2.2.2.2.1-(aa.probe n).2.1>=2) then (bif !(aa.probe n).2.2.2 then (lF n,(fG n).map (askW n)) else (n,[])) else (n,[])
theorem cz.setP {n:aa}(h:cz n)(p:af):cz (setP n p):=⟨h.table,h.cast,h.asc,h.inp,h.lt,h.lc,h.ld⟩
theorem Ah {f:af}(h:aX f):aX (pX f):=⟨h.1,h.2.1,show (1:Int)<=2 by omega,show (2:Int)<=4 by omega⟩
theorem hM {t:List af}{r:Int}(h:eF (aQ t r)=true):∃ f∈t,f.1=r:=by
 by_cases u:∃ f∈t,f.1=r
 ·exact u
 ·rw[jE (λg y e=>u ⟨g,y,e⟩)]at h;simp[eF]at h
theorem xp (K:Nat)(n:aa)(I:(aa.table n).length<=1048576)(J:1048577<K):Q93.f K (n,())=some ((fG n,()),()):=by
 have:=kX (step:=λrec a=>Q93.s0 K (n,()) rec a) (aa.table n) (vV n) (λf=>f.1) 2 (λz=>some ((z,()),())) ?_ ?_ ?_ (aa.table n).length 0 K [] (by omega) (by omega) (CA _) (by simp)
 ·exact this
 ·intro rec r i u H y;simp only[Q93.s0];rw[show decide ((i:Int)<(BR n.2.2.2.2.2.2.2.2.1:Int))=true from bi (by omega:(i:Int)<(BR (aa.table n):Int)),show idx n.2.2.2.2.2.2.2.2.1 (i:Int)=some (aa.table n)[i] from ag u,ar i (by omega),decide_eq_true (by omega:(BR r:Int)<2)];simp only[cond_true,BQ,vV];show (bif (aa.table n)[i].1 != n.1 then (bif (aa.table n)[i].1 != (aa.probe n).1 then (bif (aa.table n)[i].2.2.1==1 then (bif decide ((BR r+BR ([(aa.table n)[i].1]))*8<=an) then (rec (r++([(aa.table n)[i].1]),((i+1:Nat):Int))) else none) else (rec (r,((i+1:Nat):Int)))) else (rec (r,((i+1:Nat):Int)))) else (rec (r,((i+1:Nat):Int))))=_;rw[szb _ _ _ (by omega) (by simp;omega)];cases (aa.table n)[i].1 != n.1 <;> cases (aa.table n)[i].1 != (aa.probe n).1 <;> cases (aa.table n)[i].2.2.1==1 <;> rfl
 ·intro rec r i u H y;simp only[Q93.s0];rw[show decide ((i:Int)<(BR n.2.2.2.2.2.2.2.2.1:Int))=true from bi (by omega:(i:Int)<(BR (aa.table n):Int)),decide_eq_false (by omega:¬ (BR r:Int)<2)];rfl
 ·intro rec r _;simp only[Q93.s0];rw[show decide ((BR (aa.table n):Int)<(BR n.2.2.2.2.2.2.2.2.1:Int))=false from aN _];rfl
theorem Bd (K:Nat)(n:aa)(h:cz n)(hp:(aa.probe n).1≠-1)(h0:0<=(aa.probe n).2.1)(h1:(aa.probe n).2.1<=1000000)(a0:0<=n.2.2.2.2.2.1)(X:n.2.2.2.2.2.1<=1000000)(u:1048577<K) :
  Q94.f K (n,())=some (((dp n).1,(dp n).2,()),()):=by
 simp only[Q94.f,Q94.pre,zcp8,dp];rw[show ((aa.probe n).1==-1)=false by simpa using hp];simp only[cond_false];rw[show Q92.f K (n.2.2.2.2.2.2.2.2.1,n.2.2.2.2.2.2.2.2.2.2.1.1,())=_ from tj K (aa.table n) (aa.probe n).1 h.table h.lt u];simp only[BQ];cases I:eF (aQ (aa.table n) (aa.probe n).1) with
 |false=>rfl
 |true =>
  have y:=eq h.table (hM I);simp only[BY,cond_false];rw[aJ (n:=n.2.2.2.2.2.1-n.2.2.2.2.2.2.2.2.2.2.1.2.1) (by show -9223372036854775808<=n.2.2.2.2.2.1-(aa.probe n).2.1;omega) (by show n.2.2.2.2.2.1-(aa.probe n).2.1<=9223372036854775807;omega)];show (bif decide (n.2.2.2.2.2.1-(aa.probe n).2.1>=4) then _ else _)=_;cases decide (n.2.2.2.2.2.1-(aa.probe n).2.1>=4) with
  |true =>
   simp only[cond_true];obtain⟨o,R,Z⟩:=fq K (aa.table n) (aa.probe n).1 h.lt u;rw[show Q25.f K (n.2.2.2.2.2.2.2.2.1,n.2.2.2.2.2.2.2.2.2.2.1.1,())=_ from Z];simp only[BQ];cases R with
   |no z=>exact absurd (hM I) (λ⟨f,y,e⟩=>z f y e)
   |at_ j M e =>
    simp only;rw[show idx n.2.2.2.2.2.2.2.2.1 ((j:Nat):Int)=some (aa.table n)[j] from ag M,fu h.table.2 (BS M) y.2.2 (by rw[e,y.2.1])];simp only[BQ];cases (aQ (aa.table n) (aa.probe n).1).2.2.1==1 with
    |true =>
     simp only[cond_true];refine (congrArg (λo=>Cg o _) (pU K (setP n noP) (pX (aQ (aa.table n) (aa.probe n).1)) n.1 (h.setP noP) u)).trans ?_;rfl
    |false=>rfl
  |false =>
   simp only[cond_false];show (bif decide (n.2.2.2.2.2.1-(aa.probe n).2.1>=2) then _ else _)=_;cases decide (n.2.2.2.2.2.1-(aa.probe n).2.1>=2) with
   |false=>rfl
   |true =>
    simp only[cond_true];show (bif !(aa.probe n).2.2.2 then _ else _)=_;cases H:(aa.probe n).2.2.2 with
    |true=>rfl
    |false =>
     simp only[CM,cond_true];refine (congrArg (λo=>Cg o _) (xp K (lF n) h.lt u)).trans ?_;simp only[BQ];rw[show fG (lF n)=fG n from rfl];have J:(fG n).length<=2:=Cs _ _;refine DE (lD (step:=λrec a=>Q94.s0 K (n,()) rec a) (fG n) (λ_=>true) (askW n) (λr i=>(r,fG n,(i:Int))) (λY=>some ((lF n,Y,()),())) ?_ ?_ (by omega)) (by rw[CB.2 (λ_ _=>rfl)])
     ·intro rec r i O ha;simp only[Q94.s0,zcp8];rw[bi (by omega:(i:Int)<(BR (fG n):Int)),ag O,ar i (by omega),BV,ag O];simp only[cond_true,BQ,Q39.f];rw[szb _ _ _ (by omega) (by simp)];simp only[cond_true,BQ];rw[szw _ _ _ (by omega) (by simp;omega)];rfl
     ·intro rec r ha;simp only[Q94.s0,zcp8,aN];rfl
def gB (n:aa)(i:Int):aa:=(n.1,n.2.1,n.2.2.1,n.2.2.2.1,i,n.2.2.2.2.2)
def eG (n:aa)(f:af):aa:=bif decide (bC f (aQ (aa.table n) n.1))&&decide (f.2.1<999) then sayOf (gB n (f.2.1+1)) (n.1,f.2.1+1,1,n.2.2.2.1) n.1 else n
def dM (f:af)(b:Int)(d:bO):bO:=bif d.1==f.1&&d.2.1==f.2.1&&f.2.2.1==2 then (d.1,d.2.1,d.2.2.1,bh (λx:Int=>x) b d.2.2.2) else d
def iJ (n:aa)(f:af)(b:Int):aa:=gb n (aa.table n) (aa.cast n) ((aa.doubts n).map (dM f b))
def ci (b:Int)(n:aa)(f:af):aa:=bif f.1==n.1 then eG n f else iJ (sayOf n f b) f b
def eV (n:aa)(t:List af)(b:Int):aa:=t.foldl (ci b) n
def kZ (l:List Int):Prop:=Asc (λx:Int=>x) l/\∀ x∈l,InP x 0 7
theorem kZ.len {l:List Int}(h:kZ l):l.length<=8:=iS h.1 h.2
theorem kZ.put {l:List Int}{b:Int}(h:kZ l)(u:InP b 0 7):kZ (bh (λx:Int=>x) b l) :=
 ⟨eE h.1,λx r=>by
  rcases aW.1 r with rfl|⟨r,_⟩
  ·exact u
  ·exact h.2 x r⟩
structure dw (n:aa):Prop where
 say:cz n
 me:InP n.1 0 7
 has:∃ g∈aa.table n,g.1=n.1
 by_:∀ d∈aa.doubts n,kZ d.2.2.2
theorem cz.inc {n:aa}(h:cz n)(i:Int):cz (gB n i):=⟨h.table,h.cast,h.asc,h.inp,h.lt,h.lc,h.ld⟩
theorem jZ {n:aa}{f:af}{b:Int}(u:InP b 0 7)(h:∀ d∈aa.doubts n,kZ d.2.2.2):∀ d∈aa.doubts (sayOf n f b),kZ d.2.2.2:=by
 obtain⟨t,c,z,e,_,_,H⟩:=gA n f b;rw[e];intro d r;have r:d∈z:=r;rcases H with rfl|rfl
 ·exact h d r
 ·rcases kn r with rfl|r
  ·exact⟨DF _ _,λx y=>by rw[CN.1 y];exact u⟩
  ·exact h d r
theorem qH {n:aa}{f:af}(r:InP n.1 0 7)(u:aX f)(h:f.2.1<999):aX (n.1,f.2.1+1,1,n.2.2.2.1):=by
 obtain⟨_,⟨y,z⟩,_⟩:=u;exact⟨r,⟨show (0:Int)<=f.2.1+1 by omega,show f.2.1+1<=999 by omega⟩,show (1:Int)<=1 by omega,show (1:Int)<=4 by omega⟩
theorem dw.refute {n:aa}{f:af}(h:dw n)(I:aX f):dw (eG n f):=by
 unfold eG;cases y:decide (bC f (aQ (aa.table n) n.1))&&decide (f.2.1<999) with
 |false=>exact h
 |true =>
  have M:f.2.1<999:=by
   rw[CX]at y;exact of_decide_eq_true y.2
  obtain⟨u,_⟩:=iT (gB n (f.2.1+1)) (n.1,f.2.1+1,1,n.2.2.2.1) n.1;refine⟨is (h.say.inc _) (qH h.me I M),?_,?_,jZ h.me h.by_⟩
  ·show InP (sayOf (gB n (f.2.1+1)) (n.1,f.2.1+1,1,n.2.2.2.1) n.1).1 0 7;rw[u];exact h.me
  ·obtain⟨g,H,e⟩:=h.has;obtain⟨z,r,J⟩:=jF (n:=gB n (f.2.1+1)) (f:=(n.1,f.2.1+1,1,n.2.2.2.1)) (b:=n.1) (g:=g) H;refine⟨z,r,?_⟩;show z.1=(sayOf (gB n (f.2.1+1)) (n.1,f.2.1+1,1,n.2.2.2.1) n.1).1;rw[u,J,e];rfl
theorem dw.confirm {n:aa}{f:af}{b:Int}(h:dw n)(Z:aX f)(M:InP b 0 7):dw (iJ (sayOf n f b) f b):=by
 have u:=is (b:=b) h.say Z;obtain⟨O,_⟩:=iT n f b;have z:=jZ (f:=f) M h.by_;obtain⟨g,Y,e⟩:=h.has;obtain⟨R,I,X⟩:=jF (n:=n) (f:=f) (b:=b) Y;have H:∀ d,(dM f b d).1=d.1:=λd=>by unfold dM;cases d.1==f.1&&d.2.1==f.2.1&&f.2.2.1==2 <;> rfl
 refine⟨⟨u.table,u.cast,?_,λd J=>?_,u.lt,u.lc,?_⟩,?_,⟨R,I,?_⟩,λd J=>?_⟩
 ·show Asc (λd:bO=>d.1) ((aa.doubts (sayOf n f b)).map (dM f b));unfold Asc;rw[CL];exact u.asc.imp λ {a c} h=>by show (dM f b a).1<(dM f b c).1;rw[H,H];exact h
 ·obtain⟨y,r,rfl⟩:=CH.1 J;rw[H];exact u.inp y r
 ·show ((aa.doubts (sayOf n f b)).map (dM f b)).length<=_;rw[CC];exact u.ld
 ·show InP (sayOf n f b).1 0 7;rw[O];exact h.me
 ·show R.1=(sayOf n f b).1;rw[O,X,e]
 ·obtain⟨y,r,rfl⟩:=CH.1 J;unfold dM;cases y.1==f.1&&y.2.1==f.2.1&&f.2.2.1==2 with
  |false=>exact z y r
  |true=>exact (z y r).put M
theorem dw.step {n:aa}{f:af}{b:Int}(h:dw n)(r:aX f)(u:InP b 0 7):dw (ci b n f):=by
 unfold ci;cases f.1==n.1 with
 |true=>exact h.refute r
 |false=>exact h.confirm r u
theorem tk {α A R:Type}(ds:List α)(g:α->α)(S:List α->Nat->A)(u:List α->Option R){step:(A->Option R)->A->Option R}
  (h:∀ (rec:A->Option R) (cur:List α) (i:Nat) (X:i<ds.length),cur.length=ds.length->cur[i]?=some ds[i]->step rec (S cur i)=rec (S (cur.set i (g ds[i])) (i+1)))
  (z:∀ (rec:A->Option R) (cur:List α),cur.length=ds.length->step rec (S cur ds.length)=u cur) {k:Nat} (J:ds.length<k):ae step k (S ds 0)=u (ds.map g):=by
 have:∀ (d i k:Nat) (cur:List α),i+d=ds.length->d<k->cur.length=ds.length->(∀ j,(r:j<ds.length)->cur[j]?=some (if j<i then g ds[j] else ds[j]))->ae step k (S cur i)=u (ds.map g):=by
  intro d;induction d with
  |zero =>
   intro i k cur X J H I;obtain⟨k,rfl⟩:∃ M,k=M+1:=⟨k-1,by omega⟩;have:i=ds.length:=by omega
   subst this;show step (ae step k) _=_;rw[z _ _ H];congr 1;refine List.ext_getElem? λj=>?_
   rw[List.getElem?_map];by_cases r:j<ds.length
   ·rw[I j r,if_pos r,B6 r];rfl
   ·rw[Ci (by omega),Ci (by omega)];rfl
  |succ d Y =>
   intro i k cur X J H I;obtain⟨k,rfl⟩:∃ M,k=M+1:=⟨k-1,by omega⟩;have y:i<ds.length:=by omega
   show step (ae step k) _=_;rw[h (ae step k) cur i y H (by rw[I i y,if_neg (by omega)])];refine Y (i+1) k _ (by omega) (by omega) (by rw[DK,H]) λj r=>?_
   rw[List.getElem?_set];by_cases e:i=j
   ·subst e;rw[if_pos rfl,if_pos (by omega),if_pos (by omega)]
   ·rw[if_neg e,I j r];by_cases O:j<i
    ·rw[if_pos O,if_pos (by omega)]
    ·rw[if_neg O,if_neg (by omega)]
 exact this ds.length 0 k ds (by omega) J rfl (λj r=>by rw[if_neg (by omega),B6 r])
theorem mg {α:Type}{cur:List α}{i:Nat}{x:α}(h:cur[i]?=some x):cur.set i x=cur:=by
 obtain⟨r,e⟩:=List.getElem?_eq_some_iff.1 h;rw[<- e,List.set_getElem_self]
theorem tm {by_:List Int}{b:Int}{m:Nat}(z:m<=by_.length)(r:by_.length<=8){R:Type}(G:List Int->Option R) :
  (bif decide ((0:Int)<=0)&&decide ((0:Int)<=(m:Int))&&decide ((m:Int)<=(BR by_:Int))&&true then (bif decide ((BR ([]:List Int)+BR ((by_.take (BT (m:Int))).drop (BT 0)))*8<=an) then (bif decide ((BR ([]++((by_.take (BT (m:Int))).drop (BT 0)))+BR ([b]))*8<=an) then (bif decide ((0:Int)<=(m:Int))&&decide ((m:Int)<=(BR by_:Int))&&decide ((BR by_:Int)<=(BR by_:Int))&&true then (bif decide ((BR (([]++((by_.take (BT (m:Int))).drop (BT 0)))++([b]))+BR ((by_.take (BT (BR by_:Int))).drop (BT (m:Int))))*8<=an) then G ((([]++((by_.take (BT (m:Int))).drop (BT 0)))++([b]))++((by_.take (BT (BR by_:Int))).drop (BT (m:Int)))) else none) else none) else none) else none) else none)=G (by_.take m++[b]++by_.drop m):=by
 rw[decide_eq_true (by omega:(0:Int)<=0),decide_eq_true (by omega:(0:Int)<=(m:Int)),decide_eq_true (by omega:(m:Int)<=(BR by_:Int)),decide_eq_true (by omega:(BR by_:Int)<=(BR by_:Int))];simp only[BV,Cl,CI,B7,Cf,Ch,cond_true];have u:(by_.take m).length=m:=by rw[CE];omega
 have y:(by_.drop m).length=by_.length-m:=CO;rw[szb _ _ _ (by omega) (by simp only[B4];omega),szb _ _ _ (by omega) (by simp only[BW,B4];omega),szb _ _ _ (by omega) (by simp only[B8,BW,B4];omega)];rfl
theorem xq (K:Nat)(n:aa)(f:af)(b:Int)(hd:∀ d∈aa.doubts n,kZ d.2.2.2)(hl:(aa.doubts n).length<=1048576)(hK:1048577<K):Q32.f K (n,f,b,())=some ((iJ n f b,()),()):=by
 simp only[Q32.f,Q32.pre];refine tk (step:=λrec a=>Q32.s0 K (n,f,b,()) (Q32.l1 K (n,f,b,()) rec) rec a) (aa.doubts n) (dM f b) (λu i=>((i:Int),u)) (λu=>some ((gb n (aa.table n) (aa.cast n) u,()),())) ?_ ?_ (by omega)
 ·intro rec u i hi X I;have J:i<u.length:=by omega
  have a0:u[i]=(aa.doubts n)[i]:=by
   rw[B6 J]at I;exact Option.some.inj I
  have R:=hd _ (BS hi);simp only[Q32.s0,zcp8];rw[bi (by omega:(i:Int)<(BR u:Int)),ag J,ar i (by omega),BV,ag J,a0];simp only[cond_true,BQ];generalize a9:(aa.doubts n)[i]=d at R I ⊢;have H:rec (((i+1:Nat):Int),u)=rec (((i+1:Nat):Int),u.set i d):=by rw[mg I]
  unfold dM;by_cases h1:d.1=f.1
  case neg =>
   rw[show (d.1 != f.1)=true by simpa using h1,show (d.1==f.1)=false by simpa using h1];exact H
  by_cases h2:d.2.1=f.2.1
  case neg =>
   rw[show (d.1 != f.1)=false by simpa using h1,show (d.2.1 != f.2.1)=true by simpa using h2,show (d.2.1==f.2.1)=false by simpa using h2,Dc];exact H
  by_cases h3:f.2.2.1=2
  case neg =>
   rw[show (d.1 != f.1)=false by simpa using h1,show (d.2.1 != f.2.1)=false by simpa using h2,show (f.2.2.1 != 2)=true by simpa using h3,show (f.2.2.1==2)=false by simpa using h3,Dc];exact H
  rw[show (d.1 != f.1)=false by simpa using h1,show (d.2.1 != f.2.1)=false by simpa using h2,show (f.2.2.1 != 2)=false by simpa using h3,show (d.1==f.1)=true by simpa using h1,show (d.2.1==f.2.1)=true by simpa using h2,show (f.2.2.1==2)=true by simpa using h3];simp only[cond_false,Ch,cond_true];have a2:=R.len;have a1:∀ m:Nat,m<=d.2.2.2.length->(∀ j,(M:j<d.2.2.2.length)->j<m->d.2.2.2[j]<b)->(∀ j,(M:j<d.2.2.2.length)->m<=j->b<d.2.2.2[j])->d.2.2.2.take m++[b]++d.2.2.2.drop m=bh (λx:Int=>x) b d.2.2.2:=λm Z lo hi=>gy (k:=λx:Int=>x) Z lo hi
  have:=ct (step:=λr a=>Q32.s1 K (n,f,b,()) rec r a) d.2.2.2.length (λj=>((i:Int),(j:Int),u,d.1,d.2.1,d.2.2.1,d.2.2.2)) (λj=>∃ h:j<d.2.2.2.length,¬ d.2.2.2[j]<b)
   (rec (((i+1:Nat):Int),u.set i (d.1,d.2.1,d.2.2.1,d.2.2.2.take d.2.2.2.length++[b]++d.2.2.2.drop d.2.2.2.length)))
   (λj=>if h:j<d.2.2.2.length then (if d.2.2.2[j]=b then rec (((i+1:Nat):Int),u) else rec (((i+1:Nat):Int),u.set i (d.1,d.2.1,d.2.2.1,d.2.2.2.take j++[b]++d.2.2.2.drop j))) else none) ?_ ?_ d.2.2.2.length K 0 (by omega) (by omega)
  ·rcases this with ⟨a3,he⟩|⟨j,_,M,⟨Y,ad⟩,a4,he⟩
   ·refine DE he ?_;rw[a1 _ (CA _) (λj M _=>by
     by_cases O:d.2.2.2[j]<b
     ·exact O
     ·exact absurd ⟨M,O⟩ (a3 j (CG _) M)) (λj M Z=>by omega)]
   ·refine DE he ?_;rw[dif_pos Y];have lo:∀ m,(Z:m<d.2.2.2.length)->m<j->d.2.2.2[m]<b:=λm Z a6=>by
     by_cases O:d.2.2.2[m]<b
     ·exact O
     ·exact absurd ⟨Z,O⟩ (a4 m (CG _) a6)
    by_cases y:d.2.2.2[j]=b
    ·rw[if_pos y,<- iq (k:=λx:Int=>x) R.1 Y y];rw[show d.2.2.2.set j b=d.2.2.2 from mg (by rw[B6 Y,y])];exact H
    ·rw[if_neg y,a1 j (by omega) lo (λm Z a5=>by
      rcases CY a5 with h4|rfl
      ·have:=cE.1 R.1 j m (by omega) Z h4;omega
      ·omega)]
  ·intro r j M;simp only[Q32.s1];rw[bi (by omega:(j:Int)<(BR d.2.2.2:Int)),ag M,ar j (by omega)];simp only[cond_true,BQ];by_cases O:d.2.2.2[j]<b
   ·left;refine⟨λ⟨_,h⟩=>h O,?_⟩;rw[decide_eq_true O];rfl
   ·right;refine⟨⟨M,O⟩,?_⟩;rw[decide_eq_false O,show ((j:Int)==(BR d.2.2.2:Int))=false by simp;omega,dif_pos M];simp only[cond_false];by_cases y:d.2.2.2[j]=b
    ·rw[if_pos y,show (d.2.2.2[j] != b)=false by simpa using y,ar i (by omega)];rfl
    ·rw[if_neg y,show (d.2.2.2[j] != b)=true by simpa using y];simp only[cond_true];refine (tm (m:=j) (b:=b) (Nat.le_of_lt M) a2 (λz=>(idx u (i:Int)).bind λ_=>(idx u (BT (i:Int):Nat)).bind λ_=>rec (wr .i64 ((i:Int)+1),u.set (BT (i:Int)) (d.1,(d.2.1,(d.2.2.1,z)))))).trans ?_;rw[BV,ag J,ar i (by omega)];rfl
  ·intro r;simp only[Q32.s1];rw[aN];simp only[cond_false,beq_self_eq_true,cond_true];refine (tm (b:=b) (CA _) a2 (λz=>(idx u (i:Int)).bind λ_=>(idx u (BT (i:Int):Nat)).bind λ_=>rec (wr .i64 ((i:Int)+1),u.set (BT (i:Int)) (d.1,(d.2.1,(d.2.2.1,z)))))).trans ?_;rw[BV,ag J,ar i (by omega)];rfl
 ·intro rec u X;simp only[Q32.s0,zcp8];rw[<- X,aN];rfl
theorem yL (K:Nat)(n:aa)(f:af)(h:dw n)(O:aX f)(y:1048577<K):Q31.f K (n,f,())=some ((eG n f,()),()):=by
 simp only[Q31.f,zcp4];have r:=eq h.say.table h.has;obtain⟨o,J,I⟩:=fq K (aa.table n) n.1 h.say.lt y;rw[show Q25.f K (n.2.2.2.2.2.2.2.2.1,n.1,())=_ from I];simp only[BQ];cases J with
 |no u=>exact absurd h.has (λ⟨g,M,e⟩=>u g M e)
 |at_ j z e =>
  simp only;rw[show idx n.2.2.2.2.2.2.2.2.1 ((j:Nat):Int)=some (aa.table n)[j] from ag z,fu h.say.table.2 (BS z) r.2.2 (by rw[e,r.2.1])];simp only[BQ];rw[pT];obtain⟨_,⟨X,R⟩,_⟩:=O;simp only[rb,BQ,eG];cases decide (bC f (aQ (aa.table n) n.1)) with
  |false=>rfl
  |true =>
   simp only[BY,cond_false,Ce];by_cases H:f.2.1<999
   ·rw[decide_eq_false (by omega:¬ f.2.1>=999),decide_eq_true H,aJ (by omega) (by omega)];simp only[cond_false,cond_true];refine (congrArg (λo=>Cg o _) (pU K (gB n (f.2.1+1)) (n.1,f.2.1+1,1,n.2.2.2.1) n.1 (h.say.inc _) y)).trans ?_;rfl
   ·rw[decide_eq_true (by omega:f.2.1>=999),decide_eq_false H];rfl
theorem vd (K:Nat)(n:aa)(t:List af)(b:Int)(h:dw n)(I:∀ f∈t,aX f)(J:t.length<=1048576)(z:InP b 0 7)(y:1048577<K):Q33.f K (n,t,b,())=some ((eV n t b,()),()):=by
 refine kH (step:=λrec a=>Q33.s0 K (n,t,b,()) rec a) t (ci b) dw (λm i=>((i:Int),m.1,m.2.1,m.2.2.1,m.2.2.2.1,m.2.2.2.2.1,m.2.2.2.2.2.1,m.2.2.2.2.2.2.1,m.2.2.2.2.2.2.2.1,m.2.2.2.2.2.2.2.2.1,m.2.2.2.2.2.2.2.2.2.1,m.2.2.2.2.2.2.2.2.2.2.1.1,m.2.2.2.2.2.2.2.2.2.2.1.2.1,m.2.2.2.2.2.2.2.2.2.2.1.2.2.1,m.2.2.2.2.2.2.2.2.2.2.1.2.2.2,m.2.2.2.2.2.2.2.2.2.2.2.1,m.2.2.2.2.2.2.2.2.2.2.2.2.1.1,m.2.2.2.2.2.2.2.2.2.2.2.2.1.2.1,m.2.2.2.2.2.2.2.2.2.2.2.2.1.2.2.1,m.2.2.2.2.2.2.2.2.2.2.2.2.1.2.2.2,m.2.2.2.2.2.2.2.2.2.2.2.2.2.1,m.2.2.2.2.2.2.2.2.2.2.2.2.2.2)) (λm=>some ((m,()),())) n h ?_ ?_ (by omega)
 ·intro rec m i H r;have u:=I _ (BS H);refine⟨?_,r.step u z⟩;simp only[Q33.s0,zc286a0,zc3ec45];rw[bi (by omega:(i:Int)<(BR t:Int)),ag H,ar i (by omega)];simp only[cond_true,BQ];generalize t[i]=f at u ⊢;unfold ci;cases f.1==m.1 with
  |true =>
   simp only[cond_true];refine (congrArg (λo=>Cg o _) (yL K m f r u y)).trans ?_;rfl
  |false =>
   simp only[cond_false];refine (congrArg (λo=>Cg o _) (pU K m f b r.say y)).trans ?_;simp only[BQ];rw[xq K (sayOf m f b) f b (jZ z r.by_) (is r.say u).ld y];rfl
 ·intro rec m r;simp only[Q33.s0,zc286a0,zc3ec45];rw[aN];rfl
def dB {α:Type}(r:α->α->Bool)(x:α):List α->List α->List α
 |[],B=>x::B
 |y::A,B=>bif r x y then dB r x A (y::B) else (y::A).reverse++x::B
def cV {α:Type}(r:α->α->Bool):List α->List α->List α
 |done,[]=>done
 |done,x::u=>cV r (dB r x done.reverse []) u
theorem pe {α:Type}(r:α->α->Bool)(x:α):∀ (A B C:List α),dB r x A (B++C)=dB r x A B++C
 |[],B,C=>rfl
 |y::A,B,C=>by
  simp only[dB];cases r x y with
  |true=>exact pe r x A (y::B) C
  |false=>simp
theorem pf {α:Type}(r:α->α->Bool)(x:α):∀ (A B:List α),(dB r x A B).length=A.length+B.length+1
 |[],B=>by simp[dB]
 |y::A,B=>by
  simp only[dB];cases r x y with
  |true=>simp only[cond_true];rw[pf r x A (y::B)];simp;omega
  |false=>simp;omega
theorem m7 {α:Type}(r:α->α->Bool)(x:α):∀ (A B:List α),(dB r x A B).Perm (x::(A.reverse++B))
 |[],B=>by simp[dB]
 |y::A,B=>by
  simp only[dB];cases r x y with
  |true=>exact (m7 r x A (y::B)).trans (by simp)
  |false=>simp only[cond_false];exact DT
theorem mh {α:Type}(r:α->α->Bool):∀ (xs done:List α),(cV r done xs).Perm (done++xs)
 |[],done=>by simp[cV]
 |x::xs,done=>by
  simp only[cV];refine (mh r xs _).trans ?_;have:=m7 r x done.reverse [];simp only[CJ,B5]at this;exact (this.append_right xs).trans (by simpa using (DT (a:=x) (l₁:=done) (l₂:=xs)).symm)
def jL {α:Type}(r:α->α->Bool)(xs:List α):Prop:=xs.Pairwise λa b=>r b a=false
theorem k6 {α:Type}(r:α->α->Bool)(H:∀ a b c,r a b=false->r b c=false->r a c=false)(x:α) :
  ∀ (A B:List α),jL r A.reverse->dB r x A B=(A.reverse.filter λy=>!r x y)++x::((A.reverse.filter λy=>r x y)++B)
 |[],B,_=>rfl
 |y::A,B,h=>by
  simp only[dB];have O:jL r A.reverse:=by
   unfold jL at h ⊢;rw[Cd,Cb]at h;exact h.1
  cases z:r x y with
  |true =>
   simp only[cond_true];rw[k6 r H x A (y::B) O];simp[z,CS]
  |false =>
   have I:∀ a∈A.reverse,r x a=false:=λa u=>by
    unfold jL at h;rw[Cd,Cb]at h;exact H x y a z (h.2.2 a u y (by simp))
   simp only[cond_false];have M:(y::A).reverse.filter (λy=>!r x y)=(y::A).reverse:=CB.2 λa u=>by
    rw[Cd,CR,CN]at u;rcases u with u|rfl
    ·rw[I a u];rfl
    ·rw[z];rfl
   have J:(y::A).reverse.filter (λy=>r x y)=[]:=CF.2 λa u=>by
    rw[Cd,CR,CN]at u;rcases u with u|rfl
    ·rw[I a u];simp
    ·rw[z];simp
   rw[M,J];rfl
theorem vW {α:Type}(r:α->α->Bool)(H:∀ a b c,r a b=false->r b c=false->r a c=false)(u:∀ a b,r a b=true->r b a=false)(x:α)(A:List α)(h:jL r A):jL r (dB r x A.reverse []):=by
 rw[k6 r H x A.reverse [] (by rwa [CJ])];unfold jL at h ⊢;simp only[CJ,B5];rw[Cb];refine⟨h.filter _,?_,?_⟩
 ·rw[B9];refine⟨λa z=>?_,h.filter _⟩;exact u _ _ (by simpa using (BX.1 z).2)
 ·intro a z b y;have I:r x a=false:=by simpa using (BX.1 z).2
  rcases CV.1 y with rfl|y
  ·exact I
  ·have J:r x b=true:=by simpa using (BX.1 y).2
   exact H b x a (u _ _ J) I
theorem m8 {α:Type}(r:α->α->Bool)(y:∀ a b c,r a b=false->r b c=false->r a c=false)(u:∀ a b,r a b=true->r b a=false):∀ (xs done:List α),jL r done->jL r (cV r done xs)
 |[],done,h=>h
 |x::xs,done,h=>m8 r y u xs _ (vW r y u x done h)
theorem ox {α:Type}(M:α->α->Bool):∀ {H u:List α},H.Perm u->jL M H->u.Pairwise (λa b=>M a b=true)->H=u
 |H,[],r,_,_=>r.eq_nil
 |[],z::u,r,_,_=>absurd r.symm.eq_nil (by simp)
 |y::H,z::u,r,I,J=>by
  unfold jL at I;rw[B9]at I J;have e:y=z:=by
   rcases CV.1 (r.mem_iff.1 (DP ..)) with h|h
   ·exact h
   ·have R:=J.1 y h;rcases CV.1 (r.symm.mem_iff.1 (DP ..)) with O|O
    ·exact O.symm
    ·rw[I.1 z O]at R;cases R
  subst e;rw[ox M r.cons_inv I.2 J.2]
abbrev SoR (α:Type):=Unit×(List α×Unit)
theorem vX {α R:Type}(H:α->α->Bool)(i:Int)(r:List α×Int->Option R){step:(List α×Int×Int->Option R)->List α×Int×Int->Option R}
  (h:∀ (rec:List α×Int×Int->Option R) (A:List α) (y x:α) (B:List α),A.length+B.length<=1048576->step rec (A++y::x::B,i,((A.length+1:Nat):Int))=bif H x y then rec (A++x::y::B,i,(A.length:Int)) else r (A++y::x::B,wr .i64 (i+1)))
  (O:∀ (rec:List α×Int×Int->Option R) (J:List α),step rec (J,i,0)=r (J,wr .i64 (i+1))) :
  ∀ (A B:List α) (x:α) (k:Nat),A.length+B.length<=1048576->A.length<k->ae step k (A.reverse++x::B,i,(A.length:Int))=r (dB H x A B,wr .i64 (i+1)):=by
 intro A;induction A with
 |nil =>
  intro B x k M u;obtain⟨k,rfl⟩:∃ z,k=z+1:=⟨k-1,by simp at u;omega⟩;exact O (ae step k) (x::B)
 |cons y A X =>
  intro B x k M u;simp only[BW]at u M;obtain⟨k,rfl⟩:∃ z,k=z+1:=⟨k-1,by omega⟩;have I:=h (ae step k) A.reverse y x B (by simp;omega);simp only[Ct]at I;show step (ae step k) _=_;rw[Cd,CU];simp only[BW,DU,B7,dB];rw[I];cases H x y with
  |true=>exact X (y::B) x k (by simp;omega) (by omega)
  |false=>simp
theorem uA {α:Type}(r:α->α->Bool){step:(List α×Int->Option (SoR α))->List α×Int->Option (SoR α)}(n:Nat)(O:n<=1048576)
  (h:∀ (rec:List α×Int->Option (SoR α)) (done:List α) (x:α) (xs:List α),done.length+1+xs.length=n->step rec (done++x::xs,(done.length:Int))=rec (dB r x done.reverse xs,wr .i64 ((done.length:Int)+1)))
  (J:∀ (rec:List α×Int->Option (SoR α)) (H:List α) (i:Int),(n:Int)<=i->step rec (H,i)=some ((),(H,()))) :
  ∀ (xs done:List α) (k:Nat),done.length+xs.length=n->xs.length<k->ae step k (done++xs,(done.length:Int))=some ((),(cV r done xs,())):=by
 intro xs;induction xs with
 |nil =>
  intro done k u z;obtain⟨k,rfl⟩:∃ y,k=y+1:=⟨k-1,by omega⟩;show step (ae step k) _=_;rw[J _ _ _ (by simp at u;omega)];simp[cV]
 |cons x xs M =>
  intro done k u z;simp only[BW]at z u;obtain⟨k,rfl⟩:∃ y,k=y+1:=⟨k-1,by omega⟩;show step (ae step k) _=_;rw[h _ _ _ _ (by omega),ar _ (by omega)];have e:dB r x done.reverse xs=dB r x done.reverse []++xs:=pe r x done.reverse [] xs;have I:(dB r x done.reverse []).length=done.length+1:=by rw[pf];simp
  rw[e,<- I];exact M _ k (by rw[I];omega) (by omega)
theorem yM {α:Type}(u:α->α->Bool){step:(List α×Int->Option (SoR α))->List α×Int->Option (SoR α)}(xs:List α)(J:xs.length<=1048576)
  (h:∀ (rec:List α×Int->Option (SoR α)) (done:List α) (x:α) (r:List α),done.length+1+r.length=xs.length->step rec (done++x::r,(done.length:Int))=rec (dB u x done.reverse r,wr .i64 ((done.length:Int)+1)))
  (y:∀ (rec:List α×Int->Option (SoR α)) (z:List α) (i:Int),(xs.length:Int)<=i->step rec (z,i)=some ((),(z,()))) {k:Nat} (H:xs.length<k) :
  ae step k (xs,1)=some ((),(cV u [] xs,())):=by
 cases xs with
 |nil =>
  obtain⟨k,rfl⟩:∃ I,k=I+1:=⟨k-1,by simp at H;omega⟩;exact y (ae step k) [] 1 (by simp)
 |cons x xs =>
  simp only[BW]at H;have:=uA u (xs.length+1) (by simpa using J) h y xs [x] k (by simp;omega) (by omega);exact this
theorem ve {α:Type}(A B:List α)(x:α):idx (A++x::B) (A.length:Int)=some x:=by
 rw[qD];simp
theorem tn {α:Type}(A B:List α)(y x:α):idx (A++y::x::B) ((A.length+1:Nat):Int)=some x:=by
 rw[qD];simp[List.getElem?_append_right]
theorem vf {α:Type}(A B:List α)(x v:α):(A++x::B).set A.length v=A++v::B:=by simp
theorem tp {α:Type}(A B:List α)(y x v:α):(A++y::x::B).set (A.length+1) v=A++y::v::B:=by
 simp[DL]
theorem uB {α R:Type}(P:α->Prop)(M:α->α->Bool)(i:Int)(r:List α×Int->Option R){step:(List α×Int×Int->Option R)->List α×Int×Int->Option R}
  (h:∀ (rec:List α×Int×Int->Option R) (A:List α) (y x:α) (B:List α),P y->P x->A.length+B.length<=1048576->step rec (A++y::x::B,i,((A.length+1:Nat):Int))=bif M x y then rec (A++x::y::B,i,(A.length:Int)) else r (A++y::x::B,wr .i64 (i+1)))
  (Z:∀ (rec:List α×Int×Int->Option R) (X:List α),step rec (X,i,0)=r (X,wr .i64 (i+1))) :
  ∀ (A B:List α) (x:α) (k:Nat),(∀ y∈A,P y)->P x->A.length+B.length<=1048576->A.length<k->ae step k (A.reverse++x::B,i,(A.length:Int))=r (dB M x A B,wr .i64 (i+1)):=by
 intro A;induction A with
 |nil =>
  intro B x k J H Y u;obtain⟨k,rfl⟩:∃ I,k=I+1:=⟨k-1,by simp at u;omega⟩;exact Z (ae step k) (x::B)
 |cons y A ih =>
  intro B x k J H Y u;simp only[BW]at u Y;obtain⟨k,rfl⟩:∃ I,k=I+1:=⟨k-1,by omega⟩;have O:=h (ae step k) A.reverse y x B (J y (by simp)) H (by simp;omega);simp only[Ct]at O;show step (ae step k) _=_;rw[Cd,CU];simp only[BW,DU,B7,dB];rw[O];cases M x y with
  |true=>exact ih (y::B) x k (λz hz=>J z (by simp[hz])) H (by simp;omega) (by omega)
  |false=>simp
theorem tq {α:Type}(P:α->Prop)(r:α->α->Bool){step:(List α×Int->Option (SoR α))->List α×Int->Option (SoR α)}(n:Nat)(hn:n<=1048576)
  (h:∀ (rec:List α×Int->Option (SoR α)) (done:List α) (x:α) (xs:List α),(∀ y∈done,P y)->P x->done.length+1+xs.length=n->step rec (done++x::xs,(done.length:Int))=rec (dB r x done.reverse xs,wr .i64 ((done.length:Int)+1)))
  (Z:∀ (rec:List α×Int->Option (SoR α)) (X:List α) (i:Int),(n:Int)<=i->step rec (X,i)=some ((),(X,()))) :
  ∀ (xs done:List α) (k:Nat),(∀ y∈done,P y)->(∀ y∈xs,P y)->done.length+xs.length=n->xs.length<k->ae step k (done++xs,(done.length:Int))=some ((),(cV r done xs,())):=by
 intro xs;induction xs with
 |nil =>
  intro done k M H I R;obtain⟨k,rfl⟩:∃ J,k=J+1:=⟨k-1,by omega⟩;show step (ae step k) _=_;rw[Z _ _ _ (by simp at I;omega)];simp[cV]
 |cons x xs ih =>
  intro done k M H I R;simp only[BW]at R I;obtain⟨k,rfl⟩:∃ J,k=J+1:=⟨k-1,by omega⟩;show step (ae step k) _=_;rw[h _ _ _ _ M (H x (by simp)) (by omega),ar _ (by omega)];have e:dB r x done.reverse xs=dB r x done.reverse []++xs:=pe r x done.reverse [] xs;have Y:(dB r x done.reverse []).length=done.length+1:=by rw[pf];simp
  rw[e,<- Y];refine ih _ k (λz O=>?_) (λz O=>H z (by simp[O])) (by rw[Y];omega) (by omega);have u:=(m7 r x done.reverse []).mem_iff.1 O;simp only[CJ,B5,CV]at u;rcases u with rfl|u
  ·exact H z (by simp)
  ·exact M z u
theorem xt {α:Type}(P:α->Prop)(z:α->α->Bool){step:(List α×Int->Option (SoR α))->List α×Int->Option (SoR α)}(xs:List α)(I:∀ y∈xs,P y)(O:xs.length<=1048576)
  (h:∀ (rec:List α×Int->Option (SoR α)) (done:List α) (x:α) (r:List α),(∀ y∈done,P y)->P x->done.length+1+r.length=xs.length->step rec (done++x::r,(done.length:Int))=rec (dB z x done.reverse r,wr .i64 ((done.length:Int)+1)))
  (H:∀ (rec:List α×Int->Option (SoR α)) (M:List α) (i:Int),(xs.length:Int)<=i->step rec (M,i)=some ((),(M,()))) {k:Nat} (J:xs.length<k) :
  ae step k (xs,1)=some ((),(cV z [] xs,())):=by
 cases xs with
 |nil =>
  obtain⟨k,rfl⟩:∃ R,k=R+1:=⟨k-1,by simp at J;omega⟩;exact H (ae step k) [] 1 (by simp)
 |cons x xs =>
  simp only[BW]at J;have:=tq P z (xs.length+1) (by simpa using O) h H xs [x] k (λy u=>I y (by simpa using .inl (by simpa using u))) (λy u=>I y (by simp[u])) (by simp;omega) (by omega);exact this
def ltZ (a b:Int):Bool:=decide (a<b)
theorem Be (K:Nat)(a b:Int):Q178.f K (a,b,())=some ((ltZ a b,()),()):=by
 simp only[Q178.f,Q135.f,ltZ];simp
theorem yN (K:Nat)(xs:List Int)(H:Int×Int×Unit->Option Int)(I:Int->Int->Bool)(P:Int->Prop)(R:∀ y∈xs,P y)(hφ:∀ y z,P y->P z->∃ c,H (y,z,())=some c/\decide (c<0)=I y z)(Y:xs.length<=1048576)(hK:1048577<K) :
  Q190.f K (xs,0,(xs.length:Int),H,())=some ((),(cV I [] xs,())):=by
 refine xt P (step:=λrec a=>Q190.s0 K (xs,0,(xs.length:Int),H,()) (Q190.l1 K (xs,0,(xs.length:Int),H,()) rec) rec a) I xs R Y ?_ ?_ (by omega)
 ·intro rec done x r O M hl;simp only[Q190.s0];rw[decide_eq_true (by omega:((done.length:Int))<(xs.length:Int))];simp only[cond_true];have:=uB P I (done.length:Int) rec (step:=λu a=>Q190.s1 K (xs,0,(xs.length:Int),H,()) rec u a) ?_ ?_ done.reverse r x K (λy J=>O y (by simpa using J)) M (by simp;omega) (by simp;omega)
  ·rw[CJ,Ct]at this;exact this
  ·intro u A y z B J hz a0;simp only[Q190.s1];have Z:wr .i64 (((A.length+1:Nat):Int)-1)=(A.length:Int):=(aJ (by omega) (by omega)).trans (by omega);rw[decide_eq_true (by omega:((A.length+1:Nat):Int)>0)];obtain⟨c,hc,O⟩:=hφ z y hz J;simp only[cond_true,Z,BV,tn,ve,BQ,hc,O,tp,vf]
  ·intro u X;simp only[Q190.s1];rw[decide_eq_false (by omega:¬ (0:Int)>0)];rfl
 ·intro rec X i hi;simp only[Q190.s0];rw[decide_eq_false (by omega:¬ i<(xs.length:Int))];rfl
theorem yO (K:Nat)(xs:List Int)(H:Int×Int×Unit->Option Int)(u:Int->Int->Bool)(P:Int->Prop)(I:∀ y∈xs,P y)(hφ:∀ y z,P y->P z->∃ c,H (y,z,())=some c/\decide (c<0)=u y z)(R:xs.length<=19)(J:1048577<K) :
  Q192.f K (xs,H,())=some ((),(cV u [] xs,())):=by
 simp only[Q192.f];have:Q191.f K (xs,(xs.length:Int),H,())=some ((),(cV u [] xs,())):=by
  obtain⟨k,rfl⟩:∃ M,K=M+1:=⟨K-1,by omega⟩;show Q191.s0 _ _ _ _ _=_;simp only[Q191.s0];rw[decide_eq_false (by omega:¬ (20:Int)<=(xs.length:Int))];simp only[cond_false];rw[yN (k+1) xs H u P I hφ (by omega) J];simp only[BQ];have O:∀ (r:Q191.A1->Option Q191.Res),Q191.s1 (k+1) (xs,(xs.length:Int),H,()) (Q191.l2 (k+1) (xs,(xs.length:Int),H,()) r) r (cV u [] xs,20)=some ((),(cV u [] xs,())):=by
   intro r;simp only[Q191.s1];rw[decide_eq_false (by omega:¬ (20:Int)<(xs.length:Int))];rfl
  exact O _
 rw[this];rfl
theorem yP (K:Nat)(xs:List Int)(I:xs.length<=1048576)(O:1048577<K) :
  Q194.f K (xs,0,(xs.length:Int),())=some ((),(cV ltZ [] xs,())):=by
 refine yM (step:=λrec a=>Q194.s0 K (xs,0,(xs.length:Int),()) (Q194.l1 K (xs,0,(xs.length:Int),()) rec) rec a) ltZ xs I ?_ ?_ (by omega)
 ·intro rec done x r R;simp only[Q194.s0];rw[decide_eq_true (by omega:((done.length:Int))<(xs.length:Int))];simp only[cond_true];have:=vX ltZ (done.length:Int) rec (step:=λu a=>Q194.s1 K (xs,0,(xs.length:Int),()) rec u a) ?_ ?_ done.reverse r x K (by simp;omega) (by simp;omega)
  ·rw[CJ,Ct]at this;exact this
  ·intro u A y z B M;simp only[Q194.s1];have J:wr .i64 (((A.length+1:Nat):Int)-1)=(A.length:Int):=(aJ (by omega) (by omega)).trans (by omega);rw[decide_eq_true (by omega:((A.length+1:Nat):Int)>0)];simp only[cond_true,J,BV,tn,ve,BQ,tp,vf];rw[show Q178.f K (z,y,())=_ from Be K z y];rfl
  ·intro u H;simp only[Q194.s1];rw[decide_eq_false (by omega:¬ (0:Int)>0)];rfl
 ·intro rec H i X;simp only[Q194.s0];rw[decide_eq_false (by omega:¬ i<(xs.length:Int))];rfl
theorem yQ (K:Nat)(xs:List Int)(z:xs.length<=12)(r:1048577<K) :
  Q202.f K (xs,())=some ((),(cV ltZ [] xs,())):=by
 simp only[Q202.f,Q201.f];obtain⟨l,u⟩:∃ l:Int,Q200.f K (wr .u64 (xs.length:Int),())=some ((l,()),()):=by
  have e:wr .u64 (xs.length:Int)=(xs.length:Int):=by
   show IntKind.u64.wrap _=_;have y:IntKind.u64.wrap (xs.length:Int)=(xs.length:Int) % 18446744073709551616:=by simp[IntKind.wrap,IntKind.bits,IntKind.signed]
   rw[y];omega
  rw[e];generalize J:xs.length=n at z;have:n=0\/n=1\/n=2\/n=3\/n=4\/n=5\/n=6\/n=7\/n=8\/n=9\/n=10\/n=11\/n=12:=by omega
  rcases this with rfl|rfl|rfl|rfl|rfl|rfl|rfl|rfl|rfl|rfl|rfl|rfl|rfl
  ·exact⟨0,by kernel_rfl⟩
  ·exact⟨1,by kernel_rfl⟩
  ·exact⟨2,by kernel_rfl⟩
  ·exact⟨2,by kernel_rfl⟩
  ·exact⟨3,by kernel_rfl⟩
  ·exact⟨3,by kernel_rfl⟩
  ·exact⟨3,by kernel_rfl⟩
  ·exact⟨3,by kernel_rfl⟩
  ·exact⟨4,by kernel_rfl⟩
  ·exact⟨4,by kernel_rfl⟩
  ·exact⟨4,by kernel_rfl⟩
  ·exact⟨4,by kernel_rfl⟩
  ·exact⟨4,by kernel_rfl⟩
 rw[u];simp only[BQ];have:Q199.f K (xs,0,(xs.length:Int),l,())=some ((),(cV ltZ [] xs,())):=by
  obtain⟨k,rfl⟩:∃ H,K=H+1:=⟨K-1,by omega⟩;have I:∀ (rec:Q199.A0->Option Q199.Res) (a:Q199.A0),Q199.s0 (k+1) (xs,0,(xs.length:Int),l,()) rec a=some ((),(cV ltZ [] xs,())):=by
   intro rec a;simp only[Q199.s0];have e:wr .i64 ((xs.length:Int)-0)=(xs.length:Int):=(aJ (by omega) (by omega)).trans (by omega);rw[e,decide_eq_true (by omega:(xs.length:Int)<=12)];simp only[cond_true];rw[yP (k+1) xs (by omega) r];rfl
  exact I (λ_=>none) ()
 rw[this];rfl
def d8 (l:List aL)(i:Int):Int:=((l[i.toNat]?).map (·.2)).getD 0
def ltL (l:List aL)(a b:Int):Bool:=decide (d8 l b<d8 l a)
def lt2 (l:List aL)(a b:Int):Prop:=d8 l b<d8 l a\/(d8 l a=d8 l b/\a<b)
def cB (n:Nat):List Int:=(List.range n).map λ (i:Nat)=>(i:Int)
def bz (l:List aL):List Int:=cV (ltL l) [] (cB l.length)
theorem iu {n:Nat}{i:Int}:i∈cB n<->0<=i/\i<n:=by
 unfold cB;rw[CH];constructor
 ·rintro⟨j,hj,rfl⟩;have:=Dd.1 hj;omega
 ·rintro⟨h0,h1⟩;exact⟨i.toNat,Dd.2 (by omega),by omega⟩
theorem jg (n:Nat):(cB n).Pairwise (·<·):=by
 unfold cB;rw[CL];exact List.pairwise_lt_range.imp λh=>by omega
theorem dN {l:List aL}{i:Nat}(h:i<l.length):d8 l (i:Int)=l[i].2:=by
 unfold d8;rw[BV,B6 h];rfl
theorem tr (l:List aL):∀ (xs done:List Int),done.Pairwise (lt2 l)->(∀ a∈done,∀ b∈xs,a<b)->xs.Pairwise (·<·)->(cV (ltL l) done xs).Pairwise (lt2 l)
 |[],done,h,_,_=>h
 |x::xs,done,h,H,R=>by
  have z:=B9.1 R;have J:jL (ltL l) done:=h.imp λ {a b} O=>by
   unfold ltL;rw[decide_eq_false_iff_not];rcases O with y|⟨y,_⟩ <;> omega
  have e:=k6 (ltL l) (λa b c y I=>by
   unfold ltL at y I ⊢;rw[decide_eq_false_iff_not]at y I ⊢;omega) x done.reverse [] (by rw[CJ];exact J)
  rw[CJ,B5]at e;simp only[cV];rw[e];refine tr l xs _ ?_ ?_ z.2
  ·rw[Cb,B9];refine⟨h.filter _,⟨λb u=>?_,h.filter _⟩,λa r b u=>?_⟩
   ·have y:ltL l x b=true:=by simpa using (BX.1 u).2
    exact .inl (by simpa[ltL]using y)
   ·have y:ltL l x a=false:=by simpa using (BX.1 r).2
    have X:¬ d8 l a<d8 l x:=by simpa[ltL]using y
    have M:=H a (BX.1 r).1 x (by simp);rcases CV.1 u with rfl|u
    ·by_cases I:d8 l b<d8 l a
     ·exact .inl I
     ·exact .inr ⟨by omega,M⟩
    ·have I:ltL l x b=true:=by simpa using (BX.1 u).2
     have Y:d8 l b<d8 l x:=by simpa[ltL]using I
     exact .inl (by omega)
  ·intro a r b u;rcases CR.1 r with r|r
   ·exact H a (BX.1 r).1 b (by simp[u])
   ·rcases CV.1 r with rfl|r
    ·exact z.1 b u
    ·exact H a (BX.1 r).1 b (by simp[u])
theorem pY (l:List aL):(bz l).Pairwise (lt2 l):=tr l _ [] List.Pairwise.nil (by simp) (jg _)
theorem mi (l:List aL):(bz l).Perm (cB l.length):=by
 unfold bz;simpa using mh (ltL l) (cB l.length) []
theorem iK {l:List aL}{i:Int}:i∈bz l<->0<=i/\i<l.length:=by rw[(mi l).mem_iff,iu]
theorem xu (l:List aL):(bz l).length=l.length:=by rw[(mi l).length_eq];simp[cB]
theorem uC (l:List aL):(bz l).Nodup:=(mi l).nodup_iff.2 ((jg _).imp λh=>by omega)
def dq (T:List Int)(n:Nat):List Bool:=(cB n).map λi=>decide (i∈T)
theorem fb (T:List Int)(n:Nat):(dq T n).length=n:=by simp[dq,cB]
theorem iL (T:List Int){n i:Nat}(h:i<n):(dq T n)[i]'(by rw[fb];exact h)=decide ((i:Int)∈T):=by
 simp[dq,cB]
theorem xv {T:List Int}{n b:Nat}(u:b<n):(dq T n).set b true=dq (T++[(b:Int)]) n:=by
 refine Cq (by rw[DK,fb,fb]) λi y r=>?_
 rw[fb]at r;rw[DV,iL _ r];by_cases h:b=i
 ·subst h;rw[if_pos rfl,iL _ r];simp
 ·rw[if_neg h,iL _ r];have:¬ (i:Int)=(b:Int):=by omega
  simp[this]
def pZ (l:List aL)(T:List Int)(i:Nat)(r:Int):Prop :=
 (r=-1/\∀ j:Nat,j<i->(j:Int)∈T)\/(0<=r/\r<i/\r∉T/\∀ j:Nat,j<i->(j:Int)∉T->(j:Int)≠r->lt2 l r (j:Int))
theorem Ai (K:Nat)(l:List aL)(T:List Int)(hl:l.length<=1048576):∀ (d i k:Nat) (r:Int),i+d=l.length->d<k->pZ l T i r ->
  ∃ b:Int,ae (λrec a=>Q41.s0 K (l,dq T l.length,()) rec a) k (r,(i:Int))=some ((b,()),())/\pZ l T l.length b:=by
 intro d;induction d with
 |zero =>
  intro i k r hi hk X;obtain⟨k,rfl⟩:∃ k',k=k'+1:=⟨k-1,by omega⟩;have:i=l.length:=by omega
  subst this;refine⟨r,?_,X⟩;show Q41.s0 K (l,dq T l.length,()) _ _=_;simp only[Q41.s0,aN];rfl
 |succ d ih =>
  intro i k r hi hk X;obtain⟨k,rfl⟩:∃ k',k=k'+1:=⟨k-1,by omega⟩;have y:i<l.length:=by omega
  have I:∀ r,pZ l T (i+1) r->∃ b:Int,ae (λrec a=>Q41.s0 K (l,dq T l.length,()) rec a) k (r,((i+1:Nat):Int))=some ((b,()),())/\pZ l T l.length b:=λr h=>ih (i+1) k r (by omega) (by omega) h
  show ∃ b:Int,Q41.s0 K (l,dq T l.length,()) (ae (λrec a=>Q41.s0 K (l,dq T l.length,()) rec a) k) (r,(i:Int))=_/\_;generalize ae (λrec a=>Q41.s0 K (l,dq T l.length,()) rec a) k=REC at I ⊢;simp only[Q41.s0];rw[bi (by omega:(i:Int)<(BR l:Int)),ag (show i<(dq T l.length).length by rw[fb];exact y),iL T y,ar i (by omega)];simp only[cond_true,BQ];by_cases O:(i:Int)∈T
  ·rw[decide_eq_true O];simp only[BY,cond_false];refine I r ?_;rcases X with ⟨rfl,h⟩|⟨h0,h1,h2,Z⟩
   ·refine .inl ⟨rfl,λj Y=>?_⟩;by_cases z:j=i
    ·subst z;exact O
    ·exact h j (by omega)
   ·refine .inr ⟨h0,by omega,h2,λj Y u H=>?_⟩;by_cases z:j=i
    ·subst z;exact absurd O u
    ·exact Z j (by omega) u H
  ·rw[decide_eq_false O];simp only[CM,cond_true];rcases X with ⟨rfl,h⟩|⟨h0,h1,h2,Z⟩
   ·rw[show decide ((-1:Int)<0)=true from rfl];refine I (i:Int) (.inr ⟨by omega,by omega,O,λj Y u H=>?_⟩);exact absurd (h j (by omega)) u
   ·rw[decide_eq_false (by omega:¬ r<0)];obtain⟨b,rfl⟩:=BU h0;have J:b<l.length:=by omega
    simp only[cond_false];rw[ag y,ag J];simp only[BQ];by_cases M:l[i].2>l[b].2
    ·rw[decide_eq_true M];refine I (i:Int) (.inr ⟨by omega,by omega,O,λj Y u H=>?_⟩);have z:j<i:=by omega
     have a1:j<l.length:=by omega
     by_cases R:(j:Int)=(b:Int)
     ·rw[R];exact .inl (by rw[dN y,dN J];exact M)
     ·have:=Z j z u R;rcases this with h4|⟨h4,_⟩
      ·exact .inl (by rw[dN J]at h4;rw[dN y];omega)
      ·exact .inl (by rw[dN J]at h4;rw[dN y];omega)
    ·rw[decide_eq_false M];refine I (b:Int) (.inr ⟨by omega,by omega,h2,λj Y u H=>?_⟩);by_cases z:j=i
     ·subst z;by_cases a0:d8 l (b:Int)=d8 l (j:Int)
      ·exact .inr ⟨a0,h1⟩
      ·refine .inl ?_;rw[dN y,dN J]at *;omega
     ·exact Z j (by omega) u H
theorem Bf (K:Nat)(l:List aL)(n:Nat)(hl:l.length<=1048576)(hK:1048577<K):Q41.f K (l,dq ((bz l).take n) l.length,())=some ((((bz l)[n]?).getD (-1),()),()):=by
  obtain⟨b,e,Z⟩:=Ai K l ((bz l).take n) hl l.length 0 K (-1) (by omega) (by omega) (.inl ⟨rfl,λj H=>by omega⟩);have:b=((bz l)[n]?).getD (-1):=by
    by_cases y:n<(bz l).length
    · rw[B6 y]
      show b=(bz l)[n];have hm:(bz l)[n]∉(bz l).take n:=λh=>by
        obtain⟨j,H,e⟩:=BZ h;rw[CE]at H;rw[Cv]at e;have:=Ca.1 (pY l) j n (by omega) y (by omega);rw[e]at this;rcases this with u|⟨_,u⟩ <;> omega
      have hr:=iK.1 (BS y);obtain⟨m,r⟩:=BU hr.1;rcases Z with ⟨rfl,h⟩|⟨J,O,I,h3⟩
      · have:=h m (by omega)
        rw[<- r]at this;exact absurd this hm
      · by_cases M:b=(bz l)[n]
        · exact M
        · exfalso
          have z:=h3 m (by omega) (by rw[<- r];exact hm) (by rw[<- r];exact λh=>M h.symm);rw[<- r]at z;have Y:b∈bz l:=iK.2 ⟨J,O⟩;obtain⟨j,H,R⟩:=BZ Y;have X:n<j:=by
            rcases C9 j n with h|h|h
            · exact absurd (List.mem_take_iff_getElem.2 ⟨j,by omega,R⟩) I
            · subst h;exact absurd R.symm M
            · exact h
          have u:=Ca.1 (pY l) n j y H X;rw[R]at u;rcases z with z|⟨z,h6⟩ <;> rcases u with u|⟨u,h7⟩ <;> omega
    · rw[Ci (by omega)]
      show b=-1;rcases Z with ⟨rfl,_⟩|⟨J,O,I,_⟩
      · rfl
      · exfalso
        rw[CP (by omega)]at I;exact I (iK.2 ⟨J,O⟩)
  rw[<- this];exact e
def bX (l:List aL):List Int:=(bz l).take 3
def gC (l:List aL)(i:Int):aL:=(l[i.toNat]?).getD ((0,0,0,false),0)
def dO (l:List aL)(T:List Int)(i:Int):aL:=bif decide (i∈T) then ((gC l i).1,(gC l i).2-1) else gC l i
def ek (l:List aL)(T:List Int)(n:Nat):List af:=((cB n).filter λi=>decide (i∈T)).map λi=>(gC l i).1
def ge (l:List aL)(T:List Int)(n:Nat):List aL:=(cB n).map (dO l T)
def dD (l:List aL)(T:List Int)(n:Nat):List aL:=(ge l T n).filter λx=>decide (x.2>0)
theorem cA {l:List aL}{i:Nat}(h:i<l.length):gC l (i:Int)=l[i]:=by
 unfold gC;rw[BV,B6 h];rfl
theorem m9 (n:Nat):cB (n+1)=cB n++[(n:Int)]:=by
 unfold cB;rw[List.range_succ,C6];rfl
theorem vY (l:List aL)(T:List Int)(n:Nat):ek l T (n+1)=ek l T n++(bif decide ((n:Int)∈T) then [(gC l (n:Int)).1] else []):=by
 unfold ek;rw[m9,CS,C6,CD];cases decide ((n:Int)∈T) <;> rfl
theorem vZ (l:List aL)(T:List Int)(n:Nat):dD l T (n+1)=dD l T n++(bif decide ((dO l T (n:Int)).2>0) then [dO l T (n:Int)] else []):=by
 unfold dD ge;rw[m9,C6,CS,DB,CD];cases decide ((dO l T (n:Int)).2>0) <;> rfl
theorem xw (l:List aL)(T:List Int)(n:Nat):(ek l T n).length<=n:=by
 unfold ek;rw[CC];refine CK (CZ _ _) ?_;simp[cB]
theorem xx (l:List aL)(T:List Int)(n:Nat):(dD l T n).length<=n:=by
 unfold dD;refine CK (CZ _ _) ?_;simp[ge,cB]
theorem Aj (K:Nat)(l:List aL)(m:Int)(T:List Int)(O:l.length<=1048576)(H:cU l)(M:1048577<K) :
  Q42.l1 K (l,m,()) (dq T l.length,[],[],0)=some ((ek l T l.length,dD l T l.length,()),()):=by
 refine fw (step:=λrec a=>Q42.s1 K (l,m,()) rec a) l.length (λi=>(dq T l.length,ek l T i,dD l T i,(i:Int))) (some ((ek l T l.length,dD l T l.length,()),())) ?_ ?_ (by omega)
 ·intro rec i r;simp only[Q42.s1];have u:i<(dq T l.length).length:=by rw[fb];exact r
  have J:=xw l T i;have R:=xx l T i;obtain⟨X,I⟩:=(H.1 l[i] (BS r)).2;rw[bi (by omega:(i:Int)<(BR l:Int)),ag r,ag u,ar i (by omega),BV,ag u,iL T r,vY,vZ,cA r];simp only[cond_true,BQ];cases z:decide ((i:Int)∈T) with
  |true =>
   have y:dO l T (i:Int)=(l[i].1,l[i].2-1):=by unfold dO;rw[z,cA r];rfl
   rw[y];simp only[cond_true];rw[szb _ _ _ (by omega) (by simp;omega),aJ (n:=l[i].2-1) (by omega) (by omega)];simp only[cond_true];cases decide (l[i].2-1>0) with
   |true =>
    simp only[cond_true];rw[szb _ _ _ (by omega) (by simp;omega)];rfl
   |false =>
    simp only[cond_false,B5]
  |false =>
   have y:dO l T (i:Int)=l[i]:=by unfold dO;rw[z,cA r];rfl
   rw[y];simp only[cond_false,B5];cases decide (l[i].2>0) with
   |true =>
    simp only[cond_true];rw[szb _ _ _ (by omega) (by simp;omega)];rfl
   |false =>
    simp only[cond_false,B5]
 ·intro rec;simp only[Q42.s1,aN];rfl
theorem Bg (K:Nat)(l:List aL)(O:l.length<=1048576)(Z:cU l)(M:1048577<K):Q42.f K (l,3,())=some ((ek l (bX l) l.length,dD l (bX l) l.length,()),()):=by
 have u:∀ T,Q42.l1 K (l,3,()) (dq T l.length,[],[],0)=some ((ek l T l.length,dD l T l.length,()),()):=λT=>Aj K l 3 T O Z M
 have go:∀ (d n k:Nat),n+d=3->d<k->ae (λrec a=>Q42.s0 K (l,3,()) (Q42.l1 K (l,3,())) rec a) k (dq ((bz l).take n) l.length,(n:Int))=some ((ek l (bX l) l.length,dD l (bX l) l.length,()),()):=by
  intro d;induction d with
  |zero =>
   intro n k hn hk;obtain⟨k,rfl⟩:∃ H,k=H+1:=⟨k-1,by omega⟩;have:n=3:=by omega
   subst this;exact u _
  |succ d ih =>
   intro n k hn hk;obtain⟨k,rfl⟩:∃ H,k=H+1:=⟨k-1,by omega⟩;have y:=ih (n+1) k (by omega) (by omega);show Q42.s0 K (l,3,()) (Q42.l1 K (l,3,())) (ae (λrec a=>Q42.s0 K (l,3,()) (Q42.l1 K (l,3,())) rec a) k) (dq ((bz l).take n) l.length,(n:Int))=_;generalize ae (λrec a=>Q42.s0 K (l,3,()) (Q42.l1 K (l,3,())) rec a) k=REC at y ⊢;simp only[Q42.s0];rw[decide_eq_true (by omega:(n:Int)<3),Bf K l n O M,ar n (by omega)];simp only[cond_true,BQ];by_cases r:n<(bz l).length
   ·rw[B6 r];have R:=iK.1 (BS r);have I:(bz l).take (n+1)=(bz l).take n++[(bz l)[n]]:=Cc r;rw[I]at y;simp only[DW];generalize (bz l)[n]=v at R y ⊢;obtain⟨b,rfl⟩:=BU R.1;have J:b<l.length:=by omega
    have z:b<(dq ((bz l).take n) l.length).length:=by rw[fb];exact J
    rw[decide_eq_false (by omega:¬ (b:Int)<0),ag z,BV,ag z,xv J];exact y
   ·rw[Ci (by omega)];show Q42.l1 K (l,3,()) (dq ((bz l).take n) l.length,[],[],0)=_;rw[u,show (bz l).take n=bX l by unfold bX;rw[CP (by omega),CP (by omega)]]
 simp only[Q42.f,Q42.pre];rw[decide_eq_true (by omega:(0:Int)<=(BR l:Int)),show decide ((BR l:Int)*(1:Nat)<=an)=true from decide_eq_true (by simp only[an];omega),BV];simp only[decide_true,Ch,cond_true];have Y:Co l.length false=dq ((bz l).take 0) l.length:=by
  refine Cq (by rw[C3,fb]) λi h1 X=>?_
  rw[fb]at X;rw[List.getElem_replicate,iL _ X];simp
 have:=go 3 0 K (by omega) (by omega);rw[<- Y]at this;exact this
theorem sj {a b:List Int}(u:a.Nodup)(r:b.Nodup)(h:∀ x,x∈a<->x∈b):a.Perm b:=by
 rw[List.perm_iff_count];intro x;rw[u.count,r.count];simp[h]
def c7 (l:List aL):List Int:=(cB l.length).filter λi=>decide (i∈bX l)
theorem uD (l:List aL):cV ltZ [] (bX l)=c7 l:=by
 have r:(bX l).Nodup:=(uC l).sublist (List.take_sublist _ _);have u:((cB l.length).filter λi=>decide (i∈bX l)).Nodup:=((jg l.length).imp (λh=>by omega:∀ {a b:Int},a<b->a≠b)).filter _;refine ox ltZ ?_ (m8 ltZ (λa b c r u=>by
  unfold ltZ at r u ⊢;rw[decide_eq_false_iff_not]at r u ⊢;omega) (λa b h=>by
  unfold ltZ at h ⊢;rw[decide_eq_true_eq]at h;rw[decide_eq_false_iff_not];omega) (bX l) [] List.Pairwise.nil) ?_
 ·refine (by simpa using mh ltZ (bX l) []:(cV ltZ [] (bX l)).Perm (bX l)).trans (sj r u λx=>?_);rw[c7,BX,decide_eq_true_eq,iu];exact⟨λh=>⟨iK.1 (DM h),h⟩,λh=>h.2⟩
 ·exact ((jg l.length).filter _).imp λh=>by unfold ltZ;exact decide_eq_true h
theorem xy {l:List aL}{i:Int}:i∈c7 l<->i∈bX l:=by
 unfold c7;rw[BX,decide_eq_true_eq,iu];exact⟨λh=>h.2,λh=>⟨iK.1 (DM h),h⟩⟩
theorem xz (l:List aL):(c7 l).Pairwise (·<·):=(jg l.length).filter _
theorem eH (l:List aL)(T:List Int)(n:Nat):(ge l T n).length=n:=by simp[ge,cB]
theorem ff (l:List aL)(T:List Int){n i:Nat}(h:i<n):(ge l T n)[i]'(by rw[eH];exact h)=dO l T (i:Int):=by
 simp[ge,cB]
theorem yR (l:List aL):ge l [] l.length=l:=by
 refine Cq (eH _ _ _) λi u r=>?_
 rw[ff l [] r];unfold dO;rw[cA r];simp
theorem yS {l:List aL}{T:List Int}{b:Nat}(y:b<l.length):(ge l T l.length).set b ((gC l (b:Int)).1,(gC l (b:Int)).2-1)=ge l (T++[(b:Int)]) l.length:=by
 refine Cq (by rw[DK,eH,eH]) λi u r=>?_
 rw[eH]at r;rw[DV,ff _ _ r];by_cases h:b=i
 ·subst h;rw[if_pos rfl,ff _ _ r];unfold dO;rw[decide_eq_true (by simp:(b:Int)∈T++[(b:Int)])];rfl
 ·rw[if_neg h,ff _ _ r];unfold dO;have:((i:Int)∈T++[(b:Int)])<->(i:Int)∈T:=by
   rw[CR,CN];exact⟨λu=>u.resolve_right (by omega),.inl⟩
  rw[show decide ((i:Int)∈T++[(b:Int)])=decide ((i:Int)∈T) by rw[decide_eq_decide];exact this]
theorem wa {l:List aL}{T T':List Int}(h:∀ i,i∈T<->i∈T')(n:Nat):ge l T n=ge l T' n:=by
 unfold ge;refine List.map_congr_left λi _=>?_
 unfold dO;rw[show decide (i∈T)=decide (i∈T') by rw[decide_eq_decide];exact h i]
theorem uE (K:Nat)(x:ab Q204.ps)(l:List aL)(hl:l.length<=1048576)(X:cU l)(hK:1048577<K) :
  Q204.l1 K x (l,c7 l,[],(BR (c7 l):Int),0)=some ((ek l (bX l) l.length,dD l (bX l) l.length,()),()):=by
 have a0:(c7 l).length<=l.length:=by
  refine CK (CZ _ _) ?_;simp[cB]
 refine DE ?_ (fw (step:=λrec a=>Q204.s1 K x rec a) (c7 l).length (λi=>(ge l ((c7 l).take i) l.length,c7 l,((c7 l).take i).map (λj=>(gC l j).1),(BR (c7 l):Int),(i:Int))) (some ((ek l (bX l) l.length,dD l (bX l) l.length,()),())) ?_ ?_ (by omega:(c7 l).length<K))
 ·simp only[List.take_zero,Df,yR];rfl
 ·intro rec i r;simp only[Q204.s1];have Y:=iu.1 ((BX.1 (BS r)).1);have u:(c7 l)[i]∉(c7 l).take i:=λh=>by
   obtain⟨j,hj,e⟩:=BZ h;rw[CE]at hj;rw[Cv]at e;have:=Ca.1 (xz l) j i (by omega) r (by omega);omega
  have O:(c7 l).take (i+1)=(c7 l).take i++[(c7 l)[i]]:=Cc r;rw[O,C6];have H:(((c7 l).take i).map (λj=>(gC l j).1)).length<=1048576:=by rw[CC,CE];omega
  rw[bi (by omega:(i:Int)<(BR (c7 l):Int)),ag r,ar i (by omega),BV,ag r];simp only[cond_true,BQ];generalize (c7 l)[i]=v at Y u ⊢;obtain⟨b,rfl⟩:=BU Y.1;have z:b<l.length:=by omega
  have I:b<(ge l ((c7 l).take i) l.length).length:=by rw[eH];exact z
  have hd:dO l ((c7 l).take i) (b:Int)=l[b]:=by
   unfold dO;rw[decide_eq_false u,cA z];rfl
  obtain⟨c0,Z⟩:=(X.1 l[b] (BS z)).2;rw[ag I,BV,ag I,ff l _ z,hd];simp only[BQ];rw[szb _ _ _ (by omega) (by simp only[CC,BW,B4]at H ⊢;omega),aJ (n:=l[b].2-1) (by omega) (by omega),<- yS z,cA z];simp only[cond_true,DB,Df,cA z]
 ·intro rec;simp only[Q204.s1,aN,cond_false,Cf,Q10.f];have e:∀ J:List aL,J.length<=1048576->gP t3 J (λM=>(Q203.f K (M.1,())).map λy=>y.1.1)=some ((J.filter (λx=>!(x.2==0)),()),()):=λJ R=>ru (e:=t3) (λx=>x.2==0) R (λx _=>rfl)
  rw[e _ (by rw[eH];exact hl)];simp only[BQ];rw[wa (l:=l) (T:=c7 l) (T':=bX l) (λi=>xy) l.length];have ef:(ge l (bX l) l.length).filter (λx=>!(x.2==0))=dD l (bX l) l.length:=by
   unfold dD;refine DA λx hx=>?_
   have h0:0<=x.2:=by
    obtain⟨i,r,rfl⟩:=BZ hx;rw[eH]at r;rw[ff l _ r];obtain⟨c0,Z⟩:=(X.1 l[i] (BS r)).2;unfold dO;rw[cA r];cases decide ((i:Int)∈bX l) with
    |true=>show 0<=l[i].2-1;omega
    |false=>show 0<=l[i].2;omega
   rw[Cu];simp;omega
  rw[ef];rfl
theorem wb (K:Nat)(l:List aL)(hl:l.length<=8)(H:cU l)(I:1048577<K):Q204.f K (l,3,())=some ((ek l (bX l) l.length,dD l (bX l) l.length,()),()):=by
 simp only[Q204.f,Q204.pre];obtain⟨b1,e1,e2⟩:=o9 K l (by omega) I;have R:=e2.2 H;subst R;rw[e1];simp only[BQ,BY,cond_false];rw[decide_eq_true (by omega:(0:Int)<=(BR l:Int)),show decide ((BR l:Int)*(8:Nat)<=an)=true from decide_eq_true (by simp only[an];omega),BV];simp only[decide_true,Ch,cond_true];have O:(cB l.length).length=l.length:=by simp[cB]
 have hS:∀ i,i<=l.length->(cB i++Co (l.length-i) (0:Int)).length=l.length:=λi hi=>by simp[cB];omega
 refine DE ?_ (fw (step:=λrec a=>Q204.s0 K (l,3,()) (Q204.l1 K (l,3,())) rec a) l.length (λi=>(cB i++Co (l.length-i) (0:Int),(i:Int))) (some ((ek l (bX l) l.length,dD l (bX l) l.length,()),())) ?_ ?_ (by omega:l.length<K))
 ·rfl
 ·intro rec i hi;simp only[Q204.s0];have u:i<(cB i++Co (l.length-i) (0:Int)).length:=by rw[hS i (by omega)];exact hi
  rw[decide_eq_true (by rw[C3];show (i:Int)<((BT (BR l:Int):Nat):Int);omega),ag u,ar i (by omega),BV,ag u];simp only[cond_true,BQ];have e:(cB i++Co (l.length-i) (0:Int)).set i (i:Int)=cB (i+1)++Co (l.length-(i+1)) (0:Int):=by
   obtain⟨m,hm⟩:∃ m,l.length-i=m+1:=⟨l.length-i-1,by omega⟩;have Y:(cB i).length=i:=by simp[cB]
   rw[hm,show l.length-(i+1)=m by omega,m9,DL _ _ (by omega),Y,Nat.sub_self,List.replicate_succ,List.set_cons_zero,CU];rfl
  rw[e]
 ·intro rec;simp only[Q204.s0];rw[decide_eq_false (by rw[C3];show ¬ (BR l:Int)<((BT (BR l:Int):Nat):Int);omega),Nat.sub_self,List.replicate_zero,B5];simp only[cond_false,Q3.f];have r:=yO K (cB l.length) (λZ=>(Q193.f K (Z.1,Z.2.1,l,())).map λy=>y.1.1) (ltL l) (λi=>0<=i/\i<l.length) (λy M=>iu.1 M) (λy z M hz=>by
   obtain⟨a,rfl⟩:=BU M.1;obtain⟨b,rfl⟩:=BU hz.1;have X:a<l.length:=by omega
   have J:b<l.length:=by omega
   obtain⟨c0,c1⟩:=(H.1 l[a] (BS X)).2;obtain⟨c2,c3⟩:=(H.1 l[b] (BS J)).2;refine⟨l[b].2-l[a].2,?_,?_⟩
   ·simp only[Q193.f];rw[ag X,ag J];simp only[BQ];rw[aJ (n:=l[b].2-l[a].2) (by omega) (by omega)];rfl
   ·unfold ltL;rw[dN X,dN J,decide_eq_decide];omega) (by rw[O];omega) I
  rw[r];simp only[BQ];rw[d5 (by omega)];simp only[BQ];rw[show Q189.f K (cV (ltL l) [] (cB l.length),3,())=some ((bX l,()),()) from z9 K (bz l) 3 (by rw[xu];omega)];simp only[BQ];rw[yQ K (bX l) (CK (Cs _ _) (by omega)) I,uD];simp only[BQ];exact uE K (l,3,()) l (by omega) H I
theorem Bh {a b:Int}(z:0<=a)(y:a<4611686018427387904)(r:0<=b)(u:b<4611686018427387904):0<=qB .i64 a b:=by
 obtain⟨m,rfl⟩:=BU z;obtain⟨n,rfl⟩:=BU r;have h:(BitVec.ofInt 64 (m:Int) ^^^ BitVec.ofInt 64 (n:Int)).toNat=m ^^^ n:=by
  rw[BitVec.toNat_xor,BitVec.toNat_ofInt,BitVec.toNat_ofInt];congr 1
  ·omega
  ·omega
 have H:m ^^^ n<2 ^ 62:=Nat.xor_lt_two_pow (by omega) (by omega);show 0<=IntKind.i64.wrap (((BitVec.ofInt 64 (m:Int) ^^^ BitVec.ofInt 64 (n:Int)).toNat:Nat):Int);rw[h,DX];omega
structure fP (b:List Int):Prop where
 byte:∀ y∈b,0<=y/\y<=255
 len:b.length<=2000
theorem Ak (K:Nat)(b:List Int)(q:Nat)(n:Int)(h:fP b)(hq:q<=100000)(hn:1<=n):∃ v:Int,Q12.f K ((b,(q:Int)),n,())=some ((v,()),((b,((q+1:Nat):Int)),()))/\0<=v/\v<n:=by
 have w1:wr .i64 ((q:Int)+1)=((q+1:Nat):Int):=ar q (by omega);have w2:wr .i64 (((q+1:Nat):Int)-1)=(q:Int):=by rw[aJ (n:=((q+1:Nat):Int)-1) (by omega) (by omega)];omega
 have hl:=h.len;have I:decide (n=0)=false:=decide_eq_false (by omega);have r:∀ x:Int,0<=x->0<=Cp x n/\Cp x n<n:=λx u=>⟨Da _ u,DQ _ (by omega)⟩
 simp only[Q12.f];rw[decide_eq_false (by omega:¬ n<1)];simp only[cond_false,w1,w2,I];by_cases M:b.length=0
 ·rw[show ((b.length:Int)==0)=true by simpa using M];exact⟨0,rfl,by omega,by omega⟩
 ·rw[show ((b.length:Int)==0)=false by simpa using M];simp only[cond_false];by_cases H:q<b.length
  ·rw[decide_eq_true (by omega:(q:Int)<(b.length:Int)),ag H];simp only[cond_true,BQ];obtain⟨J,Y⟩:=h.byte b[q] (BS H);rw[aJ (n:=b[q]) (by omega) (by omega)];exact⟨_,rfl,r _ J⟩
  ·rw[decide_eq_false (by omega:¬ (q:Int)<(b.length:Int)),decide_eq_false (by omega:¬ (b.length:Int)=0)];simp only[cond_false];have t1:Cp (q:Int) (b.length:Int)=((q % b.length:Nat):Int):=by rw[C8 (by omega)];rfl
   have t2:wr .i64 (wr .i64 ((q:Int)*7)+3)=((q*7+3:Nat):Int):=by rw[aJ (n:=(q:Int)*7) (by omega) (by omega),aJ (n:=(q:Int)*7+3) (by omega) (by omega)];omega
   have t3:Cp (((q*7+3:Nat)):Int) (b.length:Int)=(((q*7+3) % b.length:Nat):Int):=by rw[C8 (by omega)];rfl
   have R:q % b.length<b.length:=Nat.mod_lt _ (by omega);have O:(q*7+3) % b.length<b.length:=Nat.mod_lt _ (by omega);rw[t1,t2,t3,ag R,ag O];simp only[BQ];obtain⟨J,Y⟩:=h.byte b[q % b.length] (BS R);obtain⟨z0,Z⟩:=h.byte b[(q*7+3) % b.length] (BS O);generalize b[q % b.length]=y at J Y ⊢;generalize b[(q*7+3) % b.length]=z at z0 Z ⊢;have d1:0<=Cx (q:Int) (b.length:Int)/\Cx (q:Int) (b.length:Int)<=q:=⟨Db (by omega) (by omega),DY _ (by omega)⟩;generalize Cx (q:Int) (b.length:Int)=e at d1 ⊢;have x1:wr .i64 (wr .i64 (wr .i64 (wr .i64 (wr .i64 y*131)+wr .i64 (wr .i64 z*1117))+wr .i64 ((q:Int)*29))+wr .i64 (wr .i64 e*53))=y*131+z*1117+q*29+e*53:=by
    rw[aJ (n:=y) (by omega) (by omega),aJ (n:=z) (by omega) (by omega),aJ (n:=e) (by omega) (by omega),aJ (n:=y*131) (by omega) (by omega),aJ (n:=z*1117) (by omega) (by omega),aJ (n:=(q:Int)*29) (by omega) (by omega),aJ (n:=e*53) (by omega) (by omega),
     aJ (n:=y*131+z*1117) (by omega) (by omega),aJ (n:=y*131+z*1117+(q:Int)*29) (by omega) (by omega),aJ (n:=y*131+z*1117+(q:Int)*29+e*53) (by omega) (by omega)]
   rw[x1];have u:0<=y*131+z*1117+q*29+e*53/\y*131+z*1117+q*29+e*53<=10000000:=by omega
   generalize y*131+z*1117+(q:Int)*29+e*53=X at u ⊢;have d2:0<=Cx X 64/\Cx X 64<=X:=⟨Db u.1 (by omega),DY _ u.1⟩;rw[aJ (n:=Cx X 64) (by omega) (by omega)];exact⟨_,rfl,r _ (Bh u.1 (by omega) d2.1 (by omega))⟩
theorem wc (K:Nat)(t:List af)(f:af)(ht:t.length<=1048576)(O:Asc (λg:af=>g.1) t)(hK:1048577<K):Q34.f K (t,f,())=some (((bj t f).1,(bj t f).2,()),()):=by
 simp only[Q34.f,Q34.pre];obtain⟨o,z,I⟩:=fq K t f.1 ht hK;rw[I];simp only[BQ];cases z with
 |at_ i r e =>
  simp only;rw[ir O r e,decide_eq_true (by omega:((i:Nat):Int)>=0),ag r];simp only[cond_true,BQ,BV,ag r];rw[show Q26.f K (f,t[i],())=_ from pT K f t[i]];simp only[BQ];by_cases z:bC f t[i]
  ·rw[decide_eq_true z,if_pos z];simp only[BY,cond_false];rw[szb _ _ _ (by omega) (by show (BR ([]:List af))+t.length<=_;simp;omega)];simp only[cond_true,B7,ag r,BQ,BV];rw[iq (k:=λg:af=>g.1) O r e]
  ·rw[decide_eq_false z,if_neg z];rfl
 |no h =>
  simp only;rw[fO h,decide_eq_false (by omega:¬ (-1:Int)>=0)];simp only[cond_false];have J:∀ m:Nat,m<=t.length->(bif decide ((0:Int)<=0)&&decide ((0:Int)<=(m:Int))&&decide ((m:Int)<=(BR t:Int))&&true then (bif decide ((BR ([]:List af)+BR ((t.take (BT (m:Int))).drop (BT 0)))*32<=an) then (bif decide ((BR ([]++((t.take (BT (m:Int))).drop (BT 0)))+BR ([f]))*32<=an) then (bif decide ((0:Int)<=(m:Int))&&decide ((m:Int)<=(BR t:Int))&&decide ((BR t:Int)<=(BR t:Int))&&true then (bif decide ((BR (([]++((t.take (BT (m:Int))).drop (BT 0)))++([f]))+BR ((t.take (BT (BR t:Int))).drop (BT (m:Int))))*32<=an) then (some (((([]++((t.take (BT (m:Int))).drop (BT 0)))++([f]))++((t.take (BT (BR t:Int))).drop (BT (m:Int))),true,()),())) else none) else none) else none) else none) else (none:Option ((List af×Bool×Unit)×Unit)))=some ((t.take m++[f]++t.drop m,true,()),()):=by
   intro m X;rw[decide_eq_true (by omega:(0:Int)<=0),decide_eq_true (by omega:(0:Int)<=(m:Int)),decide_eq_true (by omega:(m:Int)<=(BR t:Int)),decide_eq_true (by omega:(BR t:Int)<=(BR t:Int))];simp only[BV,Cl,CI,B7,Cf,Ch,cond_true];have I:(t.take m).length=m:=by rw[CE];omega
   have H:(t.drop m).length=t.length-m:=CO;rw[szb _ _ _ (by omega) (by simp only[B4];omega),szb _ _ _ (by omega) (by simp only[BW,B4];omega),szb _ _ _ (by omega) (by simp only[B8,BW,B4];omega)];rfl
  have:=ct (step:=λrec a=>Q34.s0 K (t,f,()) rec a) t.length (λi=>(i:Int)) (λj=>∃ h:j<t.length,¬ t[j].1<f.1) (some ((t.take t.length++[f]++t.drop t.length,true,()),())) (λj=>some ((t.take j++[f]++t.drop j,true,()),())) ?_ ?_ t.length K 0 (by omega) (by omega)
  ·have M:∀ m,m<=t.length->(∀ i,(r:i<t.length)->i<m->t[i].1<f.1)->(∀ i,(r:i<t.length)->m<=i->f.1<t[i].1)->t.take m++[f]++t.drop m=bh (λg=>g.1) f t:=λm X Z r=>gy (k:=λg:af=>g.1) X Z r
   rcases this with ⟨I,H⟩|⟨j,_,I,⟨h3,h4⟩,h5,H⟩
   ·rw[M t.length (CA _) (λi r _=>by
     have:=I i (CG _) r;exact Ck.1 λh=>this ⟨r,h⟩) (λi r h=>by omega)]at H
    exact H
   ·rw[M j (by omega) (λi r y=>by
     have:=h5 i (CG _) y;exact Ck.1 λh=>this ⟨r,h⟩) (λi r y=>by
     have Y:=h t[i] (BS r);rcases CY y with R|R
     ·have:=cE.1 O j i h3 r R;omega
     ·subst R;omega)]at H
    exact H
  ·intro rec i r;simp only[Q34.s0];rw[bi (by omega:(i:Int)<(BR t:Int)),ag r,ar i (by omega)];simp only[cond_true,BQ];rw[show idx t ((BT (i:Int):Nat):Int)=some t[i] by rw[BV];exact ag r];simp only[BQ];by_cases u:t[i].1<f.1
   ·exact .inl ⟨λ⟨_,h⟩=>h u,by rw[decide_eq_true u];rfl⟩
   ·exact .inr ⟨⟨r,u⟩,by rw[decide_eq_false u];exact J i (by omega)⟩
  ·intro rec;simp only[Q34.s0,aN,cond_false];exact J t.length (CA _)
def cK (t:List af)(fs:List af):List af:=fs.foldl (λt f=>(bj t f).1) t
theorem er:∀ {fs t:List af},ax t->(∀ f∈fs,aX f)->ax (cK t fs)
 |[],_,h,_=>h
 |f::fs,t,h,r=>er (fs:=fs) (gz h (r f (by simp))) (λg u=>r g (by simp[u]))
theorem bR {t:List af}(h:ax t):t.length<=1048576:=CK (iS h.2 (λg r=>(h.1 g r).1)) (by decide)
theorem oy {R:Type}(a fs:List af)(O:ax a)(X:∀ f∈fs,aX f)(u:List af->Option R){step:(List af×Int->Option R)->List af×Int->Option R}
  (h:∀ (rec:List af×Int->Option R) (t:List af) (i:Nat) (J:i<fs.length),ax t->step rec (t,(i:Int))=rec ((bj t fs[i]).1,((i+1:Nat):Int)))
  (y:∀ (rec:List af×Int->Option R) (t:List af),step rec (t,(fs.length:Int))=u t) {k:Nat} (z:fs.length<k):ae step k (a,0)=u (cK a fs):=by
 have:∀ (d i k:Nat) (t:List af),i+d=fs.length->d<k->ax t->ae step k (t,(i:Int))=u (cK t (fs.drop i)):=by
  intro d;induction d with
  |zero =>
   intro i k t J z _;obtain⟨k,rfl⟩:∃ H,k=H+1:=⟨k-1,by omega⟩;have:i=fs.length:=by omega
   subst this;show step (ae step k) _=_;rw[y,C4];rfl
  |succ d M =>
   intro i k t J z I;obtain⟨k,rfl⟩:∃ H,k=H+1:=⟨k-1,by omega⟩;have r:i<fs.length:=by omega
   show step (ae step k) _=_;rw[h _ _ _ r I,B3 r];exact M (i+1) k _ (by omega) (by omega) (gz I (X _ (BS r)))
 have:=this fs.length 0 k a (by omega) z O
 rwa [CI]at this
theorem Bi (K:Nat)(a b:List af)(u:ax a)(r:ax b)(y:1048577<K):Q171.f K (a,b,())=some ((cK a b,()),()):=by
 simp only[Q171.f,Q171.pre,Q1.f];obtain⟨Z,M,R⟩:=gx K a (bR u) y;obtain⟨b2,H,X⟩:=gx K b (bR r) y;have J:=R.2 u;have I:=X.2 r;subst J I;have O:=bR r;rw[M,H];simp only[BQ,BY,cond_false];rw[d5 (by have:=bR u;omega)];simp only[BQ];refine oy a b u r.1 (step:=λrec x=>Q171.s0 K (a,b,()) rec x) (λt=>some ((t,()),())) ?_ ?_ (by omega)
 ·intro rec t i Y z;simp only[Q171.s0];rw[bi (by omega:(i:Int)<(BR b:Int)),ag Y,ar i (by omega)];simp only[cond_true,BQ];rw[vT K t _ (bR z) z.2 y];rfl
 ·intro rec t;simp only[Q171.s0,aN];rfl
theorem xA (f:af):¬ bC f f:=by
 unfold bC;simp
theorem iU (K:Nat)(xs:List af)(z:xs.length<=1048576)(y:1048577<K):Q223.f K (xs,xs,())=rb true:=by
 have r:Q223.l0 K (xs,xs,()) 0=rb true:=by
  refine fw (step:=λrec a=>Q223.s0 K (xs,xs,()) rec a) xs.length (λi=>(i:Int)) (rb true) ?_ ?_ (by omega)
  ·intro rec i u;simp only[Q223.s0];rw[decide_eq_true (by omega:(i:Int)<(BR xs:Int)),ag u,ar i (by omega)];simp only[cond_true,BQ];rw[show Ty.eqv t2 xs[i] xs[i]=decide (xs[i]=xs[i]) from hH _ _,decide_eq_true rfl];rfl
  ·intro rec;simp only[Q223.s0,aN];rfl
 simp only[Q223.f,Q223.pre,bne_self_eq_false,cond_false];exact r
theorem pg {l:List aL}(M:cU l)(T:List Int):ax (ek l T l.length):=by
 unfold ek;constructor
 ·intro f hf;obtain⟨i,I,rfl⟩:=CH.1 hf;obtain⟨R,h1⟩:=iu.1 (BX.1 I).1;obtain⟨b,rfl⟩:=BU R;have J:b<l.length:=by omega
  rw[cA J];exact (M.1 l[b] (BS J)).1
 ·unfold Asc;rw[CL];have hp:((cB l.length).filter λi=>decide (i∈T)).Pairwise λ (a b:Int)=>(0<=a/\a<l.length)/\(0<=b/\b<l.length)/\a<b:=by
   refine Cn _ ?_;have:∀ u:List Int,(∀ x∈u,0<=x/\x<l.length)->u.Pairwise (·<·)->u.Pairwise λ (a b:Int)=>(0<=a/\a<l.length)/\(0<=b/\b<l.length)/\a<b:=by
    intro u z r;induction u with
    |nil=>exact List.Pairwise.nil
    |cons x u Z =>
     rw[B9]at r ⊢;exact⟨λy H=>⟨z x (by simp),z y (by simp[H]),r.1 y H⟩,Z (λy H=>z y (by simp[H])) r.2⟩
   exact this _ (λx z=>iu.1 z) (jg _)
  refine hp.imp λ {a b} h=>?_
  obtain⟨⟨Y,a1⟩,⟨X,b1⟩,a2⟩:=h;obtain⟨i,rfl⟩:=BU Y;obtain⟨j,rfl⟩:=BU X;have I:i<l.length:=by omega
  have O:j<l.length:=by omega
  rw[cA I,cA O];exact cE.1 M.2 i j I O (by omega)
theorem yT {l:List aL}(J:cU l)(T:List Int):cU (dD l T l.length):=by
 have r:∀ i (h:i<l.length),(dO l T (i:Int)).1=l[i].1:=λi h=>by
  unfold dO;rw[cA h];cases decide ((i:Int)∈T) <;> rfl
 have H:∀ i (h:i<l.length),(dO l T (i:Int)).2<=l[i].2:=λi h=>by
  unfold dO;rw[cA h];cases decide ((i:Int)∈T) with
  |true=>show l[i].2-1<=l[i].2;omega
  |false=>exact CW _
 unfold dD;constructor
 ·intro x O;obtain⟨M,I⟩:=BX.1 O;have I:x.2>0:=by simpa using I
  obtain⟨i,u,rfl⟩:=BZ M;rw[eH]at u;rw[ff l T u]at I ⊢;have:=(J.1 l[i] (BS u));refine⟨by rw[r i u];exact this.1,?_,?_⟩
  ·omega
  ·have R:=H i u;have X:=this.2.2;omega
 ·unfold Asc;refine Cn _ ?_;rw[Ca];intro i j u y z;rw[eH]at u y;show (ge l T l.length)[i].1.1<(ge l T l.length)[j].1.1;rw[ff l T u,ff l T y,r i u,r j y];exact cE.1 J.2 i j u y z
def hX (n:aa)(to:Int):List af :=
 bif (aQ (aa.table n) to).2.2.1==2 then (bj (ek (aa.cast n) (bX (aa.cast n)) (aa.cast n).length) (aQ (aa.table n) to)).1 else ek (aa.cast n) (bX (aa.cast n)) (aa.cast n).length
def iV (n:aa):aa:=gb n (aa.table n) (dD (aa.cast n) (bX (aa.cast n)) (aa.cast n).length) (aa.doubts n)
theorem nX {n:aa}(h:cz n)(to:Int):ax (hX n to):=by
 have u:=pg h.cast (bX (aa.cast n));unfold hX;cases r:(aQ (aa.table n) to).2.2.1==2 with
 |false=>exact u
 |true =>
  refine gz u (eq h.table ?_).1;by_cases y:∃ f∈aa.table n,f.1=to
  ·exact y
  ·rw[jE (λg z e=>y ⟨g,z,e⟩)]at r;simp at r
theorem clen {n:aa}(h:cz n):(aa.cast n).length<=8:=iS h.cast.2 (λx r=>(h.cast.1 x r).1.1)
theorem vg (K:Nat)(n:aa)(to:Int)(h:cz n)(y:1048577<K):Q95.f K (n,to,())=some ((hX n to,iV n,()),()):=by
 have M:=clen h;simp only[Q95.f,zcp8];rw[show Q42.f K (n.2.2.2.2.2.2.2.2.2.1,3,())=_ from Bg K (aa.cast n) (by omega) h.cast y];simp only[BQ];obtain⟨o,I,J⟩:=fq K (aa.table n) to h.lt y;rw[show Q25.f K (n.2.2.2.2.2.2.2.2.1,to,())=_ from J];simp only[BQ,hX];have z:=pg h.cast (bX (aa.cast n));cases I with
 |no r =>
  rw[jE r];rfl
 |at_ j H e =>
  have u:aQ (aa.table n) to=(aa.table n)[j]:=by rw[<- e];exact jD h.table.2 (BS H)
  rw[u];simp only;rw[decide_eq_true (by omega:((j:Nat):Int)>=0),show idx n.2.2.2.2.2.2.2.2.1 ((j:Nat):Int)=some (aa.table n)[j] from ag H];simp only[cond_true,BQ];cases (aa.table n)[j].2.2.1==2 with
  |false=>rfl
  |true =>
   simp only[cond_true];rw[wc K _ _ (bR z) z.2 y];rfl
theorem wd (K:Nat)(n:aa)(to:Int)(h:cz n)(r:1048577<K):Q205.f K (n,to,())=some ((hX n to,()),(iV n,())):=by
 simp only[Q205.f,zcp8];rw[show Q204.f K (n.2.2.2.2.2.2.2.2.2.1,3,())=_ from wb K (aa.cast n) (clen h) h.cast r];simp only[BQ];obtain⟨b,y⟩:=mY K (aa.table n) to h.table h.lt r;rw[show Q139.f K (n.2.2.2.2.2.2.2.2.1,to,())=_ from y];simp only[BQ,hX];have u:=pg h.cast (bX (aa.cast n));cases (aQ (aa.table n) to).2.2.1==2 with
 |false=>rfl
 |true =>
  simp only[cond_true];rw[vT K _ _ (bR u) u.2 r];rfl
def cL (n:aa)(k:Nat):Int:=Cp (n.2.2.2.2.2.2.2.1+(k:Int)) 8
def ib (n:aa)(k:Nat):Prop:=cL n k≠n.1/\eF (aQ (aa.table n) (cL n k))=true
def askN (n:aa)(to:Int):aa :=
 let m:=iV n
 (m.1,m.2.1,m.2.2.1,m.2.2.2.1,m.2.2.2.2.1,m.2.2.2.2.2.1,m.2.2.2.2.2.2.1+1,to+1,m.2.2.2.2.2.2.2.2.1,m.2.2.2.2.2.2.2.2.2.1,(to,m.2.2.2.2.2.1,m.2.2.2.2.2.2.1+1,false),m.2.2.2.2.2.2.2.2.2.2.2)
def pingW (n:aa)(to:Int):ah:=(1,1,n.1,to,n.2.2.2.2.2.2.1+1,n.1,aa.coord n,hX n to)
theorem Al (K:Nat)(n:aa)(h:cz n)(X:0<=n.2.2.2.2.2.2.2.1)(Y:n.2.2.2.2.2.2.2.1<=8)(O:1048577<K) :
  ∃ to:Int,Q96.f K (n,())=some ((to,()),())/\((to=-1/\∀ k,k<8->¬ ib n k)\/∃ k,k<8/\ib n k/\(∀ j,j<k->¬ ib n j)/\to=cL n k):=by
 have u:∀ k:Nat,k<8->wr .i64 (n.2.2.2.2.2.2.2.1+(k:Int))=n.2.2.2.2.2.2.2.1+(k:Int):=λk M=>aJ (by omega) (by omega)
 have:=ct (step:=λrec a=>Q96.s0 K (n,()) rec a) 8 (λi=>(i:Int)) (ib n) (some ((-1,()),())) (λj=>some ((cL n j,()),())) ?_ ?_ 8 K 0 (by omega) (by omega)
 ·rcases this with ⟨y,J⟩|⟨j,_,y,Z,R,J⟩
  ·exact⟨-1,J,.inl ⟨rfl,λk M=>y k (CG _) M⟩⟩
  ·exact⟨_,J,.inr ⟨j,y,Z,λm hm=>R m (CG _) hm,rfl⟩⟩
 ·intro rec i hi;simp only[Q96.s0];rw[decide_eq_true (by omega:(i:Int)<=7),u i hi,ar i (by omega)];simp only[cond_true];show (¬ ib n i/\(bif cL n i != n.1 then ((Q92.f K (aa.table n,cL n i,())).bind λI=>bif I.1.1 then (some ((cL n i,()),())) else (rec ((i+1:Nat):Int))) else (rec ((i+1:Nat):Int)))=rec ((i+1:Nat):Int))\/(ib n i/\(bif cL n i != n.1 then ((Q92.f K (aa.table n,cL n i,())).bind λI=>bif I.1.1 then (some ((cL n i,()),())) else (rec ((i+1:Nat):Int))) else (rec ((i+1:Nat):Int)))=some ((cL n i,()),()));rw[tj K (aa.table n) (cL n i) h.table h.lt O];by_cases r:cL n i=n.1
  ·exact .inl ⟨λH=>H.1 r,by rw[show (cL n i != n.1)=false by simpa using r];rfl⟩
  ·rw[show (cL n i != n.1)=true by simpa using r];cases z:eF (aQ (aa.table n) (cL n i)) with
   |true=>exact .inr ⟨⟨r,z⟩,rfl⟩
   |false=>exact .inl ⟨λH=>(by rw[H.2]at z;cases z),rfl⟩
 ·intro rec;simp only[Q96.s0];rfl
abbrev lG:=Int×ByteArray×Bool
abbrev bS:=List aa×List lG×List Int×List af
abbrev bS.radio (w:bS):List lG:=w.2.1
abbrev bS.sides (w:bS):List Int:=w.2.2.1
abbrev bS.born (w:bS):List af:=w.2.2.2
theorem jh {n:Int}(h:InP n 0 7):ak n=n / 4:=by
 obtain⟨r,u⟩:=h;unfold ak;rw[CQ r,aJ (by omega) (by omega)]
theorem Am {α:Type}{k:α->Int}{xs:List α}(h:Asc k xs):∀ i (r:i<xs.length),k (xs[0]'(by omega))+i<=k xs[i]:=by
 rw[gR]at h;intro i;induction i with
 |zero=>intro r;simp
 |succ i y =>
  intro r;have z:=y (by omega);have u:=h (i+1) r (by omega);simp only[Nat.add_sub_cancel]at u;omega
theorem uF {t:List af}{s:Int}(u:ax t)(z:cd t s):t.length<=4:=by
 cases h:t.length with
 |zero=>omega
 |succ m =>
  have r:m<t.length:=by omega
  have y:0<t.length:=by omega
  have O:=Am u.2 m r;have M:=z _ (BS r);have H:=z _ (BS y);have I:=(u.1 _ (BS r)).1;have J:=(u.1 _ (BS y)).1;rw[jh I]at M;rw[jh J]at H;omega
theorem tt {me:Int}{l:List bY}(u:InP me 0 7)(h:de me l):l=[]\/∃ x,l=[x]:=by
 match l,h with
 |[],_=>exact .inl rfl
 |[x],_=>exact .inr ⟨x,rfl⟩
 |x::y::r,h =>
  exfalso;have H:=h.1 x (by simp);have J:=h.1 y (by simp);have Z:x.1<y.1:=by
   have:=h.2;unfold Asc at this;rw[B9]at this;exact this.1 y (by simp)
  have e:=jh u;obtain⟨⟨X,Y⟩,I,_⟩:=H;obtain⟨⟨O,R⟩,z,_⟩:=J;obtain⟨m1,M⟩:=u;rw[e]at I z;omega
theorem lH {a:Int}{m:Nat}(u:m<4611686018427387904):0<=bB .i64 a (m:Int)/\bB .i64 a (m:Int)<=m:=by
 have h:(BitVec.ofInt 64 a &&& BitVec.ofInt 64 (m:Int)).toNat<=m:=by
  rw[BitVec.toNat_and];refine CK Nat.and_le_right ?_;rw[BitVec.toNat_ofInt];omega
 show 0<=IntKind.i64.wrap (((BitVec.ofInt 64 a &&& BitVec.ofInt 64 (m:Int)).toNat:Nat):Int)/\IntKind.i64.wrap (((BitVec.ofInt 64 a &&& BitVec.ofInt 64 (m:Int)).toNat:Nat):Int)<=m;generalize (BitVec.ofInt 64 a &&& BitVec.ofInt 64 (m:Int)).toNat=r at h ⊢;rw[DX];omega
def gS (g:List Int)(d:Int):Int:=g.getD (BT (Cp (bB .i64 d 255) (g.length:Int))) 0
theorem iv {g:List Int}{d:Int}(h:g≠[]):idx g (Cp (bB .i64 d 255) (g.length:Int))=some (gS g d)/\idx g ((BT (Cp (bB .i64 d 255) (g.length:Int)):Nat):Int)=some (gS g d)/\gS g d∈g:=by
 have I:0<g.length:=C7.2 h;have u:=(lH (a:=d) (m:=255) (by omega)).1;have z:0<=Cp (bB .i64 d 255) (g.length:Int):=Da _ u;have H:Cp (bB .i64 d 255) (g.length:Int)<g.length:=DQ _ (by omega);unfold gS;obtain⟨v,y⟩:=BU z;rw[y]at H ⊢;have r:v<g.length:=by omega
 rw[BV,ag r,List.getD_eq_getElem?_getD,B6 r];exact⟨rfl,rfl,BS r⟩
def mj (n:aa)(r d:Int):Int :=
 bif decide (fN (eM (aa.others n) r)≠[])&&bB .i64 d 4==0 then gS (fN (eM (aa.others n) r)) (CT d (2 ^ 3)) else r*4+bB .i64 (CT d (2 ^ 3)) 3
structure nY (n:aa):Prop where
 short:(aa.others n).length<=1
 table:∀ x∈aa.others n,ax x.2/\x.2.length<=1048576
theorem Bj {r d:Int}(z:0<=r)(H:r<=1):wr .i64 (wr .i64 (r*4)+bB .i64 (CT d (2 ^ 3)) 3)=r*4+bB .i64 (CT d (2 ^ 3)) 3:=by
 obtain⟨y,u⟩:=lH (a:=CT d (2 ^ 3)) (m:=3) (by omega);have y:0<=bB .i64 (CT d (2 ^ 3)) 3:=y;have u:bB .i64 (CT d (2 ^ 3)) 3<=3:=u;rw[aJ (n:=r*4) (by omega) (by omega),aJ (by omega) (by omega)]
theorem far_s (K:Nat)(n:aa)(r d:Int)(h:nY n)(J:0<=r)(M:r<=1)(O:1048577<K):Q101.f K (n,r,d,())=some ((mj n r d,()),()):=by
 obtain⟨k,rfl⟩:∃ k,K=k+2:=⟨K-2,by omega⟩;show Q101.s0 (k+2) (n,r,d,()) (ae (λrec a=>Q101.s0 (k+2) (n,r,d,()) rec a) (k+1)) 0=_;have z:∀ (rec:Int->Option ((Int×Unit)×Unit)) (a:Int),¬ a<(aa.others n).length->Q101.s0 (k+2) (n,r,d,()) rec a=some ((r*4+bB .i64 (CT d (2 ^ 3)) 3,()),()):=by
  intro rec a X;simp only[Q101.s0];rw[show decide (a<(BR n.2.2.2.2.2.2.2.2.2.2.2.2.2.2:Int))=false from decide_eq_false X,Bj J M];rfl
 match y:aa.others n with
 |[] =>
  rw[z _ _ (by rw[y];simp),mj,y];rfl
 |[x] =>
  have R:=h.table x (by rw[y];simp);have u:ae (λrec a=>Q101.s0 (k+2) (n,r,d,()) rec a) (k+1) 1=some ((r*4+bB .i64 (CT d (2 ^ 3)) 3,()),()):=z _ _ (by rw[y];simp);generalize ae (λrec a=>Q101.s0 (k+2) (n,r,d,()) rec a) (k+1)=rec at u ⊢;simp only[Q101.s0];rw[show decide ((0:Int)<(BR n.2.2.2.2.2.2.2.2.2.2.2.2.2.2:Int))=true from decide_eq_true (by show (0:Int)<((aa.others n).length:Int);rw[y];simp),show idx n.2.2.2.2.2.2.2.2.2.2.2.2.2.2 (0:Int)=some x by show idx (aa.others n) (0:Int)=some x;rw[y];rfl,show wr .i64 ((0:Int)+1)=1 from rfl];simp only[cond_true,BQ,u];rw[mj,y];cases I:x.1==r with
  |false =>
   simp only[cond_false,eM,DI,I,List.find?_nil];rfl
  |true =>
   simp only[cond_true,eM,DI,I,DZ,DW];rw[u7 (k+2) x.2 R.2 O];simp only[BQ];by_cases H:fN x.2=[]
   ·rw[H];rfl
   ·have Y:0<(fN x.2).length:=C7.2 H;rw[decide_eq_true H,decide_eq_true (by omega:((fN x.2).length:Int)>0)];simp only[cond_true,Ce];cases bB .i64 d 4==0 with
    |false=>rfl
    |true =>
     simp only[cond_true];rw[decide_eq_false (by omega:¬ ((fN x.2).length:Int)=0),(iv H).1,(iv H).2.1];rfl
 |_::_::_=>exact absurd h.short (by rw[y];simp)
def lI (n:aa):Bool:=decide (n.1∈fN (aa.table n))
theorem yU (K:Nat)(n:aa)(I:(aa.table n).length<=1048576)(z:1048577<K):Q100.f K (n,())=rb (lI n):=by
 simp only[Q100.f,Q100.pre];rw[show Q99.f K (n.2.2.2.2.2.2.2.2.1,2,())=_ from u7 K (aa.table n) I z];simp only[BQ];have J:=xn (aa.table n);unfold lI;generalize fN (aa.table n)=g at J ⊢;have:=ct (step:=λrec a=>Q100.s0 K (n,()) rec a) g.length (λi=>(g,(i:Int))) (λj=>∃ h:j<g.length,g[j]=n.1) (rb false) (λ_=>rb true) ?_ ?_ g.length K 0 (by omega) (by omega)
 ·rcases this with ⟨y,u⟩|⟨j,_,y,⟨O,H⟩,_,u⟩
  ·rw[decide_eq_false (λR=>by
    obtain⟨i,r,e⟩:=BZ R;exact y i (CG _) r ⟨r,e⟩)]
   exact u
  ·rw[decide_eq_true (H ▸ BS O:n.1∈g)];exact u
 ·intro rec i r;simp only[Q100.s0];rw[bi (by omega:(i:Int)<(BR g:Int)),ag r,ar i (by omega),BV,ag r];simp only[cond_true,BQ];by_cases h:g[i]=n.1
  ·exact .inr ⟨⟨r,h⟩,by rw[show (g[i]==n.1)=true by simpa using h];rfl⟩
  ·exact .inl ⟨λ⟨_,M⟩=>h M,by rw[show (g[i]==n.1)=false by simpa using h];rfl⟩
 ·intro rec;simp only[Q100.s0,aN];rfl
def wanW (n:aa)(d r:Int):ah:=(2,(nV 6 n (mj n r d)).2)
def ml (n:aa)(d:Int):List ah:=bif lI n then (([0,1]:List Int).filter (λs=>s != ak n.1)).map (wanW n d) else []
theorem wan_s (K:Nat)(n:aa)(d:Int)(h:nY n)(y:(aa.table n).length<=1048576)(u:1048577<K):Q102.f K (n,d,())=some ((ml n d,()),()):=by
 simp only[Q102.f,Q102.pre];rw[yU K n y u];simp only[BQ,ml];cases lI n with
 |false=>rfl
 |true =>
  simp only[BY,cond_false,cond_true];refine lD (step:=λrec a=>Q102.s0 K (n,d,()) rec a) ([0,1]:List Int) (λs=>s != ak n.1) (wanW n d) (λr i=>(r,(i:Int))) (λz=>some ((z,()),())) ?_ ?_ (by simp;omega)
  ·intro rec r i M I;have H:i<2:=M;have J:([0,1]:List Int)[i]=(i:Int):=by
    have:i=0\/i=1:=by omega
    rcases this with rfl|rfl <;> rfl
   simp only[Q102.s0,J];rw[decide_eq_true (by omega:(i:Int)<=1),ar i (by omega),cX K n.1];simp only[cond_true,BQ];cases (i:Int) != ak n.1 with
   |false=>rfl
   |true =>
    simp only[cond_true];rw[far_s K n (i:Int) d h (by omega) (by omega) u];simp only[BQ];refine (congrArg (λo=>Cg o _) (nW K n 6 (mj n (i:Int) d) y)).trans ?_;simp only[BQ];rw[szw _ _ _ (by omega) (by simp;omega)];rfl
  ·intro rec r I;simp only[Q102.s0];rfl
def tu (n:aa)(f:af):Bool:=f.2.2.1 != 4&&f.1 != n.1
def fy (n:aa):List Int:=((aa.table n).filter (tu n)).map (·.1)
def tv (n:aa)(to:Int):List ah:=match aa.others n with
 |[]=>[]
 |x::_=>[(1,6,n.1,to,0,n.1,aa.coord n,x.2)]
def kf (n:aa)(r:Int):List ah :=
 bif bB .i64 r 3==1 then ml n (CT r (2 ^ 2)) else
 bif bB .i64 r 3==3||decide (fy n=[]) then [] else
 bif bB .i64 r 3==0 then [nV 4 n (gS (fy n) (CT r (2 ^ 2)))] else tv n (gS (fy n) (CT r (2 ^ 2)))
theorem and3 (a:Int):bB .i64 a 3=0\/bB .i64 a 3=1\/bB .i64 a 3=2\/bB .i64 a 3=3:=by
 obtain⟨u,r⟩:=lH (a:=a) (m:=3) (by omega);have u:0<=bB .i64 a 3:=u;have r:bB .i64 a 3<=3:=r;omega
theorem xB {n:aa}(y:ax (aa.table n)){v:Int}(u:v∈fy n):0<=v:=by
 obtain⟨f,r,rfl⟩:=CH.1 u;exact (y.1 f (BX.1 r).1).1.1
theorem Bk (K:Nat)(n:aa)(d:Int)(H:(aa.table n).length<=1048576)(J:1048577<K):Q98.f K (n,d,())=some ((bif decide (fy n=[]) then -1 else gS (fy n) d,()),()):=by
 refine (vS (step:=λrec a=>Q98.s0 K (n,d,()) rec a) (aa.table n) (tu n) (λf=>f.1) (λy=>some ((bif decide (y=[]) then -1 else gS y d,()),())) ?_ ?_ (by omega)).trans rfl
 ·intro rec r i z M;simp only[Q98.s0];rw[show decide ((i:Int)<(BR n.2.2.2.2.2.2.2.2.1:Int))=true from bi (by omega:(i:Int)<(BR (aa.table n):Int)),show idx n.2.2.2.2.2.2.2.2.1 (i:Int)=some (aa.table n)[i] from ag z,ar i (by omega)];simp only[cond_true,BQ,tu];rw[szb _ _ _ (by omega) (by simp;omega)];cases (aa.table n)[i].1 != n.1 <;> cases (aa.table n)[i].2.2.1 != 4 <;> rfl
 ·intro rec r _;simp only[Q98.s0];rw[show decide ((BR (aa.table n):Int)<(BR n.2.2.2.2.2.2.2.2.1:Int))=false from aN _];simp only[cond_false];by_cases u:r=[]
  ·subst u;rfl
  ·have I:0<r.length:=C7.2 u;rw[show ((r.length:Int)==0)=false by simp;exact u,decide_eq_false (by omega:¬ (r.length:Int)=0),decide_eq_false u,(iv u).1,(iv u).2.1];rfl
theorem Bl (K:Nat)(n:aa)(r:Int)(h:nY n)(J:ax (aa.table n))(z:(aa.table n).length<=1048576)(I:1048577<K):Q103.f K (n,r,())=some ((kf n r,()),()):=by
 simp only[Q103.f];rw[Bk K n _ z I];simp only[BQ];rw[wan_s K n _ h z I];simp only[BQ,kf];by_cases u:fy n=[]
 ·rw[decide_eq_true u];simp only[cond_true,De,show decide ((-1:Int)>=0)=false from rfl,cond_false];rcases and3 r with e|e|e|e <;> rw[e] <;> rfl
 ·have O:=xB J (iv (d:=CT r (2 ^ 2)) u).2.2;rw[decide_eq_false u];simp only[cond_false,Bool.or_false];rw[decide_eq_true (by omega:gS (fy n) (CT r (2 ^ 2))>=0)];simp only[cond_true];rw[show Q39.f K (n,4,gS (fy n) (CT r (2 ^ 2)),0,n.1,n.2.2.2.2.2.2.2.2.1,())=_ from nW K n 4 _ z];simp only[BQ];rcases and3 r with e|e|e|e
  ·rw[e];rfl
  ·rw[e];rfl
  ·rw[e];simp only[show ((2:Int)==0)=false from rfl,show ((2:Int)==1)=false from rfl,show ((2:Int)==2)=true from rfl,show ((2:Int)==3)=false from rfl,cond_false,cond_true];unfold tv
   match y:aa.others n with
   |[] =>
    rw[show decide ((BR n.2.2.2.2.2.2.2.2.2.2.2.2.2.2:Int)>0)=false by show decide (((aa.others n).length:Int)>0)=false;rw[y];rfl];rfl
   |[x] =>
    have M:=h.table x (by rw[y];simp);have H:(aa.others n).length=1:=by rw[y];rfl
    rw[show decide ((BR n.2.2.2.2.2.2.2.2.2.2.2.2.2.2:Int)>0)=true by show decide (((aa.others n).length:Int)>0)=true;rw[H];rfl,show decide ((BR n.2.2.2.2.2.2.2.2.2.2.2.2.2.2:Int)=0)=false by show decide (((aa.others n).length:Int)=0)=false;rw[H];rfl];simp only[cond_true,cond_false];rw[show idx n.2.2.2.2.2.2.2.2.2.2.2.2.2.2 (Cp (bB .i64 (CT r (2 ^ 10)) 255) (BR n.2.2.2.2.2.2.2.2.2.2.2.2.2.2:Int))=some x by
     show idx (aa.others n) (Cp (bB .i64 (CT r (2 ^ 10)) 255) ((aa.others n).length:Int))=some x;rw[H,y,show ((1:Nat):Int)=1 from rfl,Int.tmod_one];rfl]
    simp only[BQ,Q39.f];rw[szb _ _ _ (by omega) (by have:=M.2;simp;omega)];rfl
   |_::_::_=>exact absurd h.short (by rw[y];simp)
  ·rw[e];rfl
def rk (f:af):Int:=f.2.1*16+f.2.2.1*2+(if f.2.2.2=true then 1 else 0)
theorem lJ {f g:af}(u:aX f)(r:aX g):bC f g<->rk g<rk f:=by
 obtain⟨_,_,y,z⟩:=u;obtain⟨_,_,H,I⟩:=r;unfold bC rk;by_cases a:f.2.1=g.2.1
 ·rw[if_neg (by simpa using a)];by_cases c:f.2.2.1=g.2.2.1
  ·rw[if_neg (by simpa using c),a,c];cases f.2.2.2 <;> cases g.2.2.2 <;> simp <;> omega
  ·rw[if_pos c];cases f.2.2.2 <;> cases g.2.2.2 <;> simp <;> omega
 ·rw[if_pos a];cases f.2.2.2 <;> cases g.2.2.2 <;> simp <;> omega
theorem oz {t:List af}(z:Asc (λg:af=>g.1) t)(f:af):bj t f=(t,false)\/(bj t f=(bh (λg=>g.1) f t,true)/\∀ g∈t,g.1=f.1->bC f g):=by
 by_cases h:∃ g∈t,g.1=f.1
 ·obtain⟨g,r,e⟩:=h;obtain⟨i,J,rfl⟩:=BZ r;rw[ir z J e];by_cases y:bC f t[i]
  ·rw[if_pos y];refine .inr ⟨rfl,λM u I=>?_⟩;rw[fu z u r (by rw[e,I])];exact y
  ·rw[if_neg y];exact .inl rfl
 ·have H:∀ g∈t,g.1≠f.1:=λg r e=>h ⟨g,r,e⟩
  exact .inr ⟨fO H,λg r e=>absurd e (H g r)⟩
theorem oA {n:aa}(Y:ax (aa.table n)):iH n<->(∀ d∈aa.doubts n,lC n d)/\Asc (λd:bO=>d.1) (aa.doubts n)/\∀ f∈aa.table n,f.2.2.1=2->∃ d∈aa.doubts n,d.1=f.1:=by
 have J:((aU (aa.table n)).map (λf:af=>f.1)).Pairwise (·<·):=by
  rw[CL];exact Cn _ Y.2
 constructor
 ·rintro⟨h1,h2,h3⟩;refine⟨h1,h2,λf M u=>?_⟩;have r:((aa.doubts n).map (λd:bO=>d.1)).Pairwise (·<·):=by rw[CL];exact h2
  have:=(je _ _ r J (λx y=>by
   obtain⟨d,r,rfl⟩:=CH.1 y;obtain⟨⟨g,H,e,z,_⟩,_⟩:=h1 d r;exact CH.2 ⟨g,BX.2 ⟨H,by simpa using z⟩,e⟩)).2 (by rw[CC,CC,h3])
  have O:f.1∈(aU (aa.table n)).map (λf:af=>f.1):=CH.2 ⟨f,BX.2 ⟨M,by simpa using u⟩,rfl⟩;rw[<- this]at O;obtain⟨d,r,e⟩:=CH.1 O;exact⟨d,r,e⟩
 ·rintro⟨h1,h2,h3⟩;refine⟨h1,h2,?_⟩;have r:((aa.doubts n).map (λd:bO=>d.1)).Pairwise (·<·):=by rw[CL];exact h2
  have X:=(je _ _ r J (λx y=>by
   obtain⟨d,r,rfl⟩:=CH.1 y;obtain⟨⟨g,H,e,z,_⟩,_⟩:=h1 d r;exact CH.2 ⟨g,BX.2 ⟨H,by simpa using z⟩,e⟩)).1
  have R:=(je _ _ J r (λx y=>by
   obtain⟨f,M,rfl⟩:=CH.1 y;obtain⟨I,u⟩:=BX.1 M;obtain⟨d,r,e⟩:=h3 f I (by simpa using u);exact CH.2 ⟨d,r,e⟩)).1
  rw[CC,CC]at X R;omega
def ch (n:aa):Int:=n.2.2.2.2.2.1
def fA (n:aa)(b:Int):Prop:=InP b 0 7/\ak b=ak n.1
theorem oC {n:aa}(r:Asc (λg:af=>g.1) (aa.table n))(f:af)(b:Int):sayOf n f b=n \/
  (sayOf n f b=gb n (bh (λg=>g.1) f (aa.table n)) (dv (aa.cast n) f) (bif jY n f then aa.doubts n else cQ (ch n) (aa.doubts n) f b)/\∀ g∈aa.table n,g.1=f.1->bC f g):=by
 rcases oz r f with h|⟨h,u⟩
 ·left;unfold sayOf;rw[h];rfl
 ·right;refine⟨?_,u⟩;unfold sayOf;rw[h];rfl
theorem we {n:aa}{f:af}{b:Int}(Y:ax (aa.table n))(hD:iH n)(hf:aX f)(hb:fA n b)(hn:0<=ch n)(c:List aL) :
  iH (gb n (bh (λg=>g.1) f (aa.table n)) c (bif jY n f then aa.doubts n else cQ (ch n) (aa.doubts n) f b)):=by
 obtain⟨h1,h2,h3⟩:=(oA Y).1 hD;have a0:ax (bh (λg:af=>g.1) f (aa.table n)):=⟨λg y=>by
  rcases aW.1 y with rfl|⟨y,_⟩
  ·exact hf
  ·exact Y.1 g y,eE Y.2⟩
 refine (oA (n:=gb n _ c _) a0).2 ?_;have I:∀ d∈aa.doubts n,d.1≠f.1->∀ ds,lC (gb n (bh (λg:af=>g.1) f (aa.table n)) c ds) d:=λd z u ds=>by
  obtain⟨⟨g,y,R,O,X⟩,r⟩:=h1 d z;exact⟨⟨g,aW.2 (.inr ⟨y,by rw[R];exact u⟩),R,O,X⟩,r⟩
 have J:∀ g∈bh (λg:af=>g.1) f (aa.table n),g.1≠f.1->g.2.2.1=2->∃ d∈aa.doubts n,d.1=g.1:=λg y u h=>by
  rcases aW.1 y with rfl|⟨y,_⟩
  ·exact absurd rfl u
  ·exact h3 g y h
 cases hs:jY n f with
 |true =>
  obtain⟨g0,M,s1,s2,s3⟩:=of_decide_eq_true hs;refine⟨λd z=>?_,h2,λg y h=>?_⟩
  ·by_cases u:d.1=f.1
   ·obtain⟨⟨g,y,R,O,X⟩,r⟩:=h1 d z;rw[fu Y.2 y M (by rw[R,s1,u])]at O X;exact⟨⟨f,aW.2 (.inl rfl),u.symm,by rw[<- s3];exact O,by rw[<- s2];exact X⟩,r⟩
   ·exact I d z u _
  ·by_cases u:g.1=f.1
   ·have Z:g=f:=by
     rcases aW.1 y with h|⟨_,h⟩
     ·exact h
     ·exact absurd u h
    rw[Z]at h ⊢;obtain⟨d,z,e⟩:=h3 g0 M (by rw[s3];exact h);exact⟨d,z,by rw[e,s1]⟩
   ·exact J g y u h
 |false =>
  by_cases H:f.2.2.1=2
  ·have e:cQ (ch n) (aa.doubts n) f b=bh (λd=>d.1) (mkD (ch n) f b) (aa.doubts n):=by unfold cQ;rw[if_pos H]
   simp only[cond_false];rw[e];refine⟨λd z=>?_,eE h2,λg y h=>?_⟩
   ·rcases aW.1 z with rfl|⟨z,u⟩
    ·exact⟨⟨f,aW.2 (.inl rfl),rfl,H,rfl⟩,⟨hn,CW _⟩,List.cons_ne_nil _ _,λx hx=>by rw[CN.1 hx];exact hb,DF _ _⟩
    ·exact I d z u _
   ·by_cases u:g.1=f.1
    ·exact⟨mkD (ch n) f b,aW.2 (.inl rfl),u.symm⟩
    ·obtain⟨d,z,e⟩:=J g y u h;exact⟨d,aW.2 (.inr ⟨z,λe'=>u (e.symm.trans e')⟩),e⟩
  ·have e:cQ (ch n) (aa.doubts n) f b=(aa.doubts n).filter (λd=>!(d.1==f.1)):=by unfold cQ;rw[if_neg H]
   simp only[cond_false];rw[e];refine⟨λd z=>?_,md h2 _,λg y h=>?_⟩
   ·obtain⟨z,u⟩:=BX.1 z;exact I d z (by simpa using u) _
   ·have u:g.1≠f.1:=λu=>by
     rcases aW.1 y with h'|⟨_,h'⟩
     ·rw[h']at h;exact H h
     ·exact h' u
    obtain⟨d,z,e⟩:=J g y u h;exact⟨d,BX.2 ⟨z,by rw[e];simpa using u⟩,e⟩
theorem wg {n:aa}{f:af}(Y:ax (aa.table n))(O:cU (aa.cast n))(R:gZ (aa.table n) (aa.cast n))(M:aX f)(X:∀ g∈aa.table n,g.1=f.1->bC f g) :
  gZ (bh (λg=>g.1) f (aa.table n)) (dv (aa.cast n) f):=by
 have I:∀ x∈aa.cast n,∃ g∈bh (λg:af=>g.1) f (aa.table n),g.1=x.1.1/\¬ bC x.1 g:=λx r=>by
  obtain⟨g,J,e,y⟩:=R x r;by_cases u:g.1=f.1
  ·refine⟨f,aW.2 (.inl rfl),by rw[<- e,u],λh=>y ?_⟩;have z:=(O.1 x r).1;have H:=Y.1 g J;have:=X g J u;rw[lJ M H]at this;rw[lJ z M]at h;rw[lJ z H];omega
  ·exact⟨g,aW.2 (.inr ⟨J,u⟩),e,y⟩
 intro x r;unfold dv at r;split at r
 ·exact I x r
 ·rcases aW.1 r with rfl|⟨r,_⟩
  ·exact⟨f,aW.2 (.inl rfl),rfl,xA f⟩
  ·exact I x r
structure UpX (n:aa):Prop where
 me:InP n.1 0 7
 now0:0<=ch n
 table:ax (aa.table n)
 site:cd (aa.table n) (ak n.1)
 cast:cU (aa.cast n)
 vs:gZ (aa.table n) (aa.cast n)
 probe:db n
 doubts:iH n
 coord:cJ (aa.coord n)
 places:eA n.1 (aa.places n)
 others:de n.1 (aa.others n)
theorem UpX.of {n:aa}(h:UpP n)(X:InP n.1 0 7)(z:0<=ch n):UpX n:=by
 obtain⟨O,R,_,⟨H,I⟩,M,J,y,r,u⟩:=h;exact⟨X,z,O,R,H,I,M,J,y,r,u⟩
theorem UpX.up {n:aa}(h:UpX n)(r:dj n):UpP n:=⟨h.table,h.site,r,⟨h.cast,h.vs⟩,h.probe,h.doubts,h.coord,h.places,h.others⟩
theorem UpX.say {n:aa}(h:UpX n):cz n:=by
 refine cz.mk' h.table h.cast h.doubts.2.1 λd u=>?_
 obtain⟨f,r,e,_⟩:=(h.doubts.1 d u).1;rw[<- e];exact (h.table.1 f r).1
theorem fA.me {n:aa}(h:InP n.1 0 7):fA n n.1:=⟨h,rfl⟩
theorem rv {n m:aa}(h:db n)(hm:m.1=n.1)(Y:aa.probe m=aa.probe n)(O:∀ g∈aa.table n,∃ y∈aa.table m,y.1=g.1)(H:ch n<=ch m)(hs:n.2.2.2.2.2.2.1<=m.2.2.2.2.2.2.1):db m:=by
 unfold db at h ⊢;rw[Y,hm];split at h
 ·rename_i r;rw[if_pos r];exact h
 ·rename_i r;rw[if_neg r];obtain⟨p1,⟨g,R,z⟩,⟨I,Z⟩,⟨J,X⟩⟩:=h;obtain⟨y,u,M⟩:=O g R;exact⟨p1,⟨y,u,M.trans z⟩,⟨I,Cy Z H⟩,⟨J,Cy X hs⟩⟩
theorem UpX.said {n:aa}{f:af}{b:Int}(h:UpX n)(u:aX f)(H:ak f.1=ak n.1)(z:fA n b):UpX (sayOf n f b):=by
 rcases oC h.table.2 f b with e|⟨e,I⟩
 ·rw[e];exact h
 ·have y:=λg r=>jF (n:=n) (f:=f) (b:=b) (g:=g) r
  rw[e]at y ⊢;refine⟨h.me,h.now0,⟨λg r=>?_,eE h.table.2⟩,λg r=>?_,pV h.cast u,wg h.table h.cast h.vs u I,rv h.probe rfl rfl y (CW _) (CW _),we h.table h.doubts u z h.now0 _,h.coord,h.places,h.others⟩
  ·rcases aW.1 r with rfl|⟨r,_⟩
   ·exact u
   ·exact h.table.1 g r
  ·rcases aW.1 r with rfl|⟨r,_⟩
   ·exact H
   ·exact h.site g r
theorem xC {n:aa}(u:Asc (λg:af=>g.1) (aa.table n)){f g:af}{b:Int}(r:g.1≠f.1):g∈aa.table (sayOf n f b)<->g∈aa.table n:=by
 rcases oC u f b with e|⟨e,_⟩
 ·rw[e]
 ·rw[e];exact aW.trans ⟨λh=>h.elim (λh=>absurd (by rw[h]) r) (·.1),λh=>.inr ⟨h,r⟩⟩
theorem rx {n:aa}(y:Asc (λg:af=>g.1) (aa.table n)){f:af}{b:Int}(h:∀ g∈aa.table n,g.1=f.1->bC f g):f∈aa.table (sayOf n f b):=by
 have H:bj (aa.table n) f=(bh (λg=>g.1) f (aa.table n),true):=by
  rcases oz y f with e|⟨e,_⟩
  ·by_cases z:∃ g∈aa.table n,g.1=f.1
   ·obtain⟨g,r,u⟩:=z;obtain⟨i,I,rfl⟩:=BZ r;rw[ir y I u,if_pos (h _ r u)]
   ·exact fO λg r e=>z ⟨g,r,e⟩
  ·exact e
 unfold Go.Proofs.YtadlacffdemoiaaGreatEv.sayOf;rw[H];exact aW.2 (.inl rfl)
def OnN (n m:aa):Prop:=∃ t c r,m=gb n t c r
theorem OnN.refl (n:aa):OnN n n:=⟨_,_,_,rfl⟩
theorem OnN.say {n m:aa}(h:OnN n m)(f:af)(b:Int):OnN n (Go.Proofs.YtadlacffdemoiaaGreatEv.sayOf m f b):=by
 obtain⟨t,c,y,rfl⟩:=h;obtain⟨u,z,r,e,_⟩:=gA (gb n t c y) f b;exact⟨u,z,r,e⟩
def mm (n:aa):af:=(n.1,n.2.2.2.2.1,(if n.2.2.1=true then 4 else 1),n.2.2.2.1)
theorem ph {n m:aa}(J:Asc (λg:af=>g.1) (aa.table m))(u:OnN n m){f:af}{b:Int}(r:f.1≠n.1)(h:dj m):dj (sayOf m f b):=by
 obtain⟨t,c,O,e⟩:=u.say f b;obtain⟨R,M,I,H⟩:=u;have z:mm n∈aa.table m:=by rw[H]at h ⊢;exact h
 have y:=(xC J (f:=f) (b:=b) (g:=mm n) (λh=>r h.symm)).2 z;rw[e]at y ⊢;exact y
theorem yV {n:aa}(h:UpX n)(y:dj n){d:bO}(H:d∈aa.doubts n):d.1≠n.1:=by
 obtain⟨⟨g,u,e,r,_⟩,_⟩:=h.doubts.1 d H;intro I;have z:mm n∈aa.table n:=y;have:=fu h.table.2 u z (by rw[e,I];rfl);rw[this]at r;revert r;show (if n.2.2.1=true then (4:Int) else 1)=2->False;split <;> omega
theorem na {n:aa}(h:UpX n)(hs:dj n):UpX (ko n)/\dj (ko n)/\OnN n (ko n):=by
 have:=mf (st:=it) (Inv:=λm=>(UpX m/\dj m/\OnN n m)/\∀ g∈aa.table n,∃ Y∈aa.table m,Y.1=g.1) (ds:=aa.doubts n) (n:=n) ⟨⟨h,hs,OnN.refl n⟩,λg u=>⟨g,u,rfl⟩⟩ ?_
 ·exact this.1
 ·rintro m d Z ⟨⟨r,y,I⟩,H⟩;have z:=yV h hs Z;unfold it;cases qG m.2.2.2.2.2.1 d.2.2.1 d.2.2.2.length with
  |false=>exact⟨⟨r,y,I⟩,H⟩
  |true =>
   obtain⟨⟨g,u,e,_⟩,_⟩:=h.doubts.1 d Z;obtain⟨Y,O,e'⟩:=H g u;obtain⟨h1,h2,h3⟩:=eq r.table ⟨Y,O,e'.trans e⟩;have J:ak (kI (aQ (aa.table m) d.1)).1=ak m.1:=by
    show ak (aQ (aa.table m) d.1).1=ak m.1;exact r.site _ h3
   have R:(kI (aQ (aa.table m) d.1)).1≠n.1:=by rw[show (kI (aQ (aa.table m) d.1)).1=_ from h2];exact z
   refine⟨⟨r.said (va h1) J (fA.me r.me),ph r.table.2 I R y,I.say _ _⟩,λg u=>?_⟩;obtain⟨g1,M,e1⟩:=H g u;obtain⟨g2,X,e2⟩:=jF (f:=kI (aQ (aa.table m) d.1)) (b:=m.1) M;exact⟨g2,X,e2.trans e1⟩
theorem UpX.setProbe {n:aa}(h:UpX n){p:af}(r:db (setP n p)):UpX (setP n p):=⟨h.me,h.now0,h.table,h.site,h.cast,h.vs,r,h.doubts,h.coord,h.places,h.others⟩
theorem xD (n:aa):db (setP n noP):=by
 unfold db;exact (if_pos rfl).mpr rfl
theorem xE {n:aa}(h:UpX n)(H:dj n):UpX (dp n).1/\dj (dp n).1/\∃ p,OnN (setP n p) (dp n).1:=by
 have r:UpX n/\dj n/\∃ p,OnN (setP n p) n:=⟨h,H,aa.probe n,OnN.refl n⟩;have y:UpX (setP n noP):=h.setProbe (xD n);unfold dp;cases J:(aa.probe n).1==-1 with
 |true=>exact r
 |false =>
  have z:(aa.probe n).1≠-1:=by simpa using J
  have u:=h.probe;unfold db at u;rw[if_neg z]at u;simp only[cond_false];cases M:eF (aQ (aa.table n) (aa.probe n).1) with
  |false=>exact⟨y,H,_,OnN.refl _⟩
  |true =>
   obtain⟨O,R,X⟩:=eq h.table (hM M);simp only[BY,cond_false];cases decide (n.2.2.2.2.2.1-(aa.probe n).2.1>=4) with
   |true =>
    simp only[cond_true];cases (aQ (aa.table n) (aa.probe n).1).2.2.1==1 with
    |true =>
     have I:ak (pX (aQ (aa.table n) (aa.probe n).1)).1=ak (setP n noP).1:=by
      show ak (aQ (aa.table n) (aa.probe n).1).1=ak n.1;exact h.site _ X
     refine⟨y.said (Ah O) I (fA.me (n:=setP n noP) h.me),ph (n:=setP n noP) (m:=setP n noP) h.table.2 (OnN.refl (setP n noP)) ?_ H,noP,(OnN.refl (setP n noP)).say _ _⟩;rw[show (pX (aQ (aa.table n) (aa.probe n).1)).1=_ from R];exact u.1
    |false=>exact⟨y,H,_,OnN.refl _⟩
   |false =>
    simp only[cond_false];cases decide (n.2.2.2.2.2.1-(aa.probe n).2.1>=2) with
    |false=>exact r
    |true =>
     simp only[cond_true];cases (aa.probe n).2.2.2 with
     |true=>exact r
     |false =>
      refine⟨h.setProbe ?_,H,_,OnN.refl _⟩;show db (lF n);unfold db;rw[if_neg (show ¬ (aa.probe (lF n)).1=-1 from z)];exact u
def iW (n:aa):Option Int:=((List.range 8).map (cL n)).find? λx=>x != n.1&&eF (aQ (aa.table n) x)
def jM (n:aa):Int:=n.2.2.2.2.2.2.1
def dU (n:aa):aa×List ah:=bif decide (jM n>=999999) then (n,[]) else match iW n with
 |some to=>(askN n to,[pingW n to])
 |none=>(n,[])
theorem rz {n:aa}{to:Int}(h:iW n=some to):to≠n.1/\eF (aQ (aa.table n) to)=true:=by
 have:=DJ h;simpa using this
theorem xF {l:List aL}{T:List Int}{x:aL}(h:x∈dD l T l.length):∃ y∈l,x.1=y.1:=by
 unfold dD at h;obtain⟨u,_⟩:=BX.1 h;obtain⟨i,r,rfl⟩:=BZ u;rw[eH]at r;rw[ff l T r];refine⟨l[i],BS r,?_⟩;unfold dO;rw[cA r];cases decide ((i:Int)∈T) <;> rfl
theorem UpX.way {n:aa}(h:UpX n):UpX (iV n):=⟨h.me,h.now0,h.table,h.site,yT h.cast _,λx H=>by
 obtain⟨y,z,e⟩:=xF H;obtain⟨g,r,u,I⟩:=h.vs y z;exact⟨g,r,by rw[e,u],by rw[e];exact I⟩,h.probe,h.doubts,h.coord,h.places,h.others⟩
structure tw (n:aa):Prop where
 seq:InP (jM n) 0 999999
 turn:InP n.2.2.2.2.2.2.2.1 0 8
theorem Bm {n:aa}(h:UpX n)(y:dj n)(z:tw n):UpX (dU n).1/\dj (dU n).1/\tw (dU n).1/\(dU n).1.1=n.1/\ch (dU n).1=ch n/\(dU n).1.2.2.2.2.1=n.2.2.2.2.1:=by
 unfold dU;by_cases H:jM n>=999999
 ·rw[decide_eq_true H];exact⟨h,y,z,rfl,rfl,rfl⟩
 ·rw[decide_eq_false H];simp only[cond_false];cases X:iW n with
  |none=>exact⟨h,y,z,rfl,rfl,rfl⟩
  |some to =>
   obtain⟨u,M⟩:=rz X;obtain⟨O,I,R⟩:=eq h.table (hM M);obtain⟨⟨Y,Z⟩,_⟩:=z;have r:InP to 0 7:=I ▸ O.1;have J:=h.way;refine⟨⟨h.me,h.now0,h.table,h.site,J.cast,J.vs,?_,h.doubts,h.coord,h.places,h.others⟩,y,⟨⟨show 0<=jM n+1 by omega,show jM n+1<=999999 by omega⟩,show 0<=to+1 by have:=r.1;omega,show to+1<=8 by have:=r.2;omega⟩,rfl,rfl,rfl⟩;show db (askN n to);unfold db;rw[if_neg (show ¬ (aa.probe (askN n to)).1=-1 by have:=r.1;show ¬ to=-1;omega)];exact⟨u,⟨_,R,I⟩,⟨h.now0,CW _⟩,show 1<=jM n+1 by omega,CW _⟩
def d9 (n:aa):aa:=(n.1,n.2.1,n.2.2.1,n.2.2.2.1,n.2.2.2.2.1,n.2.2.2.2.2.1+1,n.2.2.2.2.2.2)
def fC (m:aa):aa×List ah:=bif (aa.probe m).1==-1 then dU m else (m,[])
def fD (n:aa):aa×List ah:=dp (ko (d9 n))
def kJ (n:aa):aa:=(fC (fD n).1).1
def p6 (n:aa)(r:Int):List ah:=(fD n).2++(fC (fD n).1).2++kf (kJ n) r
theorem UpX.later {n:aa}(h:UpX n):UpX (d9 n):=by
 have J:ch (d9 n)=ch n+1:=rfl;have M:=h.now0;refine⟨h.me,by omega,h.table,h.site,h.cast,h.vs,rv h.probe rfl rfl (λg r=>⟨g,r,rfl⟩) (by omega) (CW _),⟨λd I=>?_,h.doubts.2⟩,h.coord,h.places,h.others⟩;obtain⟨u,⟨y,z⟩,H⟩:=h.doubts.1 d I;exact⟨u,⟨y,Cy z (show ch n<=ch (d9 n) by omega)⟩,H⟩
structure UpN (n:aa):Prop where
 x:UpX n
 self:dj n
 now1:ch n<=999999
 seq:tw n
 inc:InP n.2.2.2.2.1 0 999
 up:n.2.1=true
theorem UpN.of {n:aa}(h:fa n)(y:n.2.1=true):UpN n:=by
 obtain⟨H,u,I,J,z,r⟩:=h;rw[if_pos y]at r;exact⟨UpX.of r H u.1,r.2.2.1,u.2,⟨I,J⟩,z,y⟩
theorem UpN.ok {n:aa}(h:UpN n):fa n:=⟨h.x.me,⟨h.x.now0,h.now1⟩,h.seq.seq,h.seq.turn,h.inc,by rw[if_pos h.up];exact h.x.up h.self⟩
theorem p7 {n:aa}(h:UpN n)(Z:ch n<999999):UpN (fD n).1/\(fD n).1.1=n.1/\(fD n).1.2.2.1=n.2.2.1:=by
 have I:dj (d9 n):=h.self;obtain⟨z,M,r⟩:=na h.x.later I;obtain⟨J,y,p,R⟩:=xE z M;obtain⟨t,c,Y,u⟩:=r;obtain⟨t',X,H,O⟩:=R;have e:(fD n).1=_:=O;rw[u]at e;refine⟨⟨J,y,?_,⟨?_,?_⟩,?_,?_⟩,?_,?_⟩
 ·show ch (fD n).1<=999999;rw[e];show ch n+1<=999999;omega
 ·show InP (jM (fD n).1) 0 999999;rw[e];exact h.seq.seq
 ·show InP (fD n).1.2.2.2.2.2.2.2.1 0 8;rw[e];exact h.seq.turn
 ·show InP (fD n).1.2.2.2.2.1 0 999;rw[e];exact h.inc
 ·show (fD n).1.2.1=true;rw[e];exact h.up
 ·rw[e];rfl
 ·rw[e];rfl
theorem tx {m:aa}:(dU m).1.2.1=m.2.1/\(dU m).1.2.2.1=m.2.2.1:=by
 unfold dU;cases decide (jM m>=999999) with
 |true=>exact⟨rfl,rfl⟩
 |false =>
  cases iW m with
  |none=>exact⟨rfl,rfl⟩
  |some to=>exact⟨rfl,rfl⟩
theorem wh {m:aa}(h:UpN m):UpN (fC m).1/\(fC m).1.1=m.1/\(fC m).1.2.2.1=m.2.2.1:=by
 unfold fC;cases (aa.probe m).1==-1 with
 |false=>exact⟨h,rfl,rfl⟩
 |true =>
  obtain⟨H,r,I,z,u,y⟩:=Bm h.x h.self h.seq;refine⟨⟨H,r,?_,I,?_,?_⟩,z,tx.2⟩
  ·show ch (dU m).1<=999999;rw[u];exact h.now1
  ·show InP (dU m).1.2.2.2.2.1 0 999;rw[y];exact h.inc
  ·show (dU m).1.2.1=true;rw[tx.1];exact h.up
theorem qI {n:aa}(h:UpN n)(I:ch n<999999):UpN (kJ n)/\(kJ n).1=n.1/\(kJ n).2.2.1=n.2.2.1:=by
 obtain⟨u,y,z⟩:=p7 h I;obtain⟨H,r,J⟩:=wh u;exact⟨H,r.trans y,J.trans z⟩
theorem yW {f g:af}(h:g.2.1<f.2.1):bC f g:=by
 unfold bC;rw[if_pos (by omega)];exact h
theorem An {f g:af}(h:bC f g):g.2.1<=f.2.1:=by
 unfold bC at h;split at h <;> omega
theorem UpX.inc {n:aa}(h:UpX n)(i:Int):UpX (gB n i):=⟨h.me,h.now0,h.table,h.site,h.cast,h.vs,h.probe,h.doubts,h.coord,h.places,h.others⟩
theorem rA {n:aa}(h:UpX n)(u:dj n){g:af}(r:g∈aa.table n)(e:g.1=n.1):g=mm n:=fu h.table.2 r u (by rw[e];rfl)
theorem xG {n:aa}(h:UpX n)(r:dj n):aQ (aa.table n) n.1=mm n:=jD h.table.2 (f:=mm n) r
theorem yX {n:aa}(h:UpN n)(H:n.2.2.1=false):UpN (mX n)/\(mX n).1=n.1:=by
 have z:aX (n.1,n.2.2.2.2.1,4,n.2.2.2.1):=⟨h.x.me,h.inc,show (1:Int)<=4 by omega,show (4:Int)<=4 by omega⟩;have r:=h.x.said z rfl (fA.me h.x.me);have y:(n.1,n.2.2.2.2.1,(4:Int),n.2.2.2.1)∈aa.table (sayOf n (n.1,n.2.2.2.2.1,4,n.2.2.2.1) n.1):=rx h.x.table.2 λg u e=>by
  rw[rA h.x h.self u e];unfold bC mm;rw[H];simp
 obtain⟨t,c,I,e⟩:=(OnN.refl n).say (n.1,n.2.2.2.2.1,4,n.2.2.2.1) n.1;unfold mX;rw[e]at r y ⊢;exact⟨⟨⟨r.me,r.now0,r.table,r.site,r.cast,r.vs,r.probe,r.doubts,r.coord,r.places,r.others⟩,y,h.now1,⟨h.seq.seq,h.seq.turn⟩,h.inc,h.up⟩,rfl⟩
theorem xH {n:aa}{f:af}(h:UpN n)(y:n.2.2.1=false)(R:aX f):UpN (eG n f)/\(eG n f).1=n.1/\(eG n f).2.2.1=false:=by
 unfold eG;cases z:decide (bC f (aQ (aa.table n) n.1))&&decide (f.2.1<999) with
 |false=>exact⟨h,rfl,y⟩
 |true =>
  rw[CX,decide_eq_true_eq,decide_eq_true_eq,xG h.x h.self]at z;obtain⟨O,X⟩:=z;have M:n.2.2.2.2.1<=f.2.1:=An O;have r:=qH (n:=n) h.x.me R X;have I:UpX (sayOf (gB n (f.2.1+1)) (n.1,f.2.1+1,1,n.2.2.2.1) n.1):=(h.x.inc (f.2.1+1)).said r rfl (fA.me (n:=gB n (f.2.1+1)) h.x.me);have H:(n.1,f.2.1+1,(1:Int),n.2.2.2.1)∈aa.table (sayOf (gB n (f.2.1+1)) (n.1,f.2.1+1,1,n.2.2.2.1) n.1):=rx (n:=gB n (f.2.1+1)) h.x.table.2 λg u e=>by
   rw[rA h.x h.self u e];exact yW (show n.2.2.2.2.1<f.2.1+1 by omega)
  obtain⟨t,c,J,e⟩:=(OnN.refl (gB n (f.2.1+1))).say (n.1,f.2.1+1,1,n.2.2.2.1) n.1;simp only[cond_true];rw[show sayOf (gB n (f.2.1+1)) (n.1,f.2.1+1,1,n.2.2.2.1) n.1=gb (gB n (f.2.1+1)) t c J from e]at I H ⊢;refine⟨⟨I,?_,h.now1,⟨h.seq.seq,h.seq.turn⟩,r.2.1,h.up⟩,rfl,y⟩;show (n.1,f.2.1+1,(if n.2.2.1=true then (4:Int) else 1),n.2.2.2.1)∈_;rw[y];exact H
theorem nc (f:af)(b:Int)(d:bO):(dM f b d).1=d.1/\(dM f b d).2.1=d.2.1/\(dM f b d).2.2.1=d.2.2.1:=by
 unfold dM;cases d.1==f.1&&d.2.1==f.2.1&&f.2.2.1==2 <;> exact⟨rfl,rfl,rfl⟩
theorem UpX.conf {n:aa}(h:UpX n)(f:af){b:Int}(H:fA n b):UpX (iJ n f b):=by
 refine⟨h.me,h.now0,h.table,h.site,h.cast,h.vs,h.probe,⟨λd Z=>?_,?_,?_⟩,h.coord,h.places,h.others⟩
 ·obtain⟨r,z,rfl⟩:=CH.1 Z;obtain⟨I,k2,M⟩:=nc f b r;obtain⟨⟨g,R,O,J,X⟩,Y,h3,u⟩:=h.doubts.1 r z;refine⟨⟨g,R,by rw[I];exact O,J,by rw[k2];exact X⟩,by rw[M];exact Y,?_⟩;unfold dM;cases r.1==f.1&&r.2.1==f.2.1&&f.2.2.1==2 with
  |false=>exact⟨h3,u⟩
  |true =>
   refine⟨List.ne_nil_of_mem (aW.2 (.inl rfl)),λx y=>?_,eE u.2⟩;rcases aW.1 y with rfl|⟨y,_⟩
   ·exact H
   ·exact u.1 x y
 ·show Asc _ ((aa.doubts n).map (dM f b));unfold Asc;rw[CL];exact h.doubts.2.1.imp λ {a c} h=>by show (dM f b a).1<(dM f b c).1;rw[(nc f b a).1,(nc f b c).1];exact h
 ·show _=((aa.doubts n).map (dM f b)).length;rw[CC];exact h.doubts.2.2
theorem tz {n:aa}{f:af}{b:Int}(h:UpN n)(z:n.2.2.1=false)(H:aX f)(M:ak f.1=ak n.1)(y:fA n b):UpN (ci b n f)/\(ci b n f).1=n.1/\(ci b n f).2.2.1=false:=by
 unfold ci;by_cases r:f.1=n.1
 ·rw[show (f.1==n.1)=true by simpa using r];exact xH h z H
 ·rw[show (f.1==n.1)=false by simpa using r];have I:=h.x.said H M y;have u:=ph h.x.table.2 (OnN.refl n) (b:=b) r h.self;obtain⟨t,c,J,e⟩:=(OnN.refl n).say f b;simp only[cond_false];rw[show sayOf n f b=gb n t c J from e]at I u ⊢;exact⟨⟨I.conf f y,u,h.now1,⟨h.seq.seq,h.seq.turn⟩,h.inc,h.up⟩,rfl,z⟩
theorem kp {n:aa}{t:List af}{b:Int}(h:UpN n)(H:n.2.2.1=false)(z:ax t)(I:cd t (ak n.1))(u:fA n b):UpN (eV n t b)/\(eV n t b).1=n.1/\(eV n t b).2.2.1=false:=by
 refine mf (st:=ci b) (Inv:=λm=>UpN m/\m.1=n.1/\m.2.2.1=false) (ds:=t) (n:=n) ⟨h,rfl,H⟩ λm f y ⟨J,r,M⟩=>?_
 have:=tz (b:=b) J M (z.1 f y) (by rw[r];exact I f y) ⟨u.1,by rw[r];exact u.2⟩;exact⟨this.1,this.2.1.trans r,this.2.2⟩
theorem UpN.learns {n:aa}(h:UpN n):dw n:=⟨h.x.say,h.x.me,⟨_,h.self,rfl⟩,λd y=>by
 obtain⟨_,_,_,r⟩:=h.x.doubts.1 d y;exact⟨r.2,λx u=>(r.1 x u).1⟩⟩
def nd (n:aa)(o:List bY):aa:=(n.1,n.2.1,n.2.2.1,n.2.2.2.1,n.2.2.2.2.1,n.2.2.2.2.2.1,n.2.2.2.2.2.2.1,n.2.2.2.2.2.2.2.1,n.2.2.2.2.2.2.2.2.1,n.2.2.2.2.2.2.2.2.2.1,n.2.2.2.2.2.2.2.2.2.2.1,n.2.2.2.2.2.2.2.2.2.2.2.1,n.2.2.2.2.2.2.2.2.2.2.2.2.1,n.2.2.2.2.2.2.2.2.2.2.2.2.2.1,o)
theorem UpN.setOthers {n:aa}(h:UpN n){o:List bY}(r:de n.1 o):UpN (nd n o):=⟨⟨h.x.me,h.x.now0,h.x.table,h.x.site,h.x.cast,h.x.vs,h.x.probe,h.x.doubts,h.x.coord,h.x.places,r⟩,h.self,h.now1,⟨h.seq.seq,h.seq.turn⟩,h.inc,h.up⟩
theorem wj {me s:Int}{r:List af}{o:List bY}(H:de me o)(M:InP s 0 1)(u:s≠ak me)(J:r≠[])(I:ax r)(y:cd r s):de me (bh (λx:bY=>x.1) (s,r) o) :=
 ⟨λx z=>by
  rcases aW.1 z with rfl|⟨z,_⟩
  ·exact⟨M,u,J,I,y⟩
  ·exact H.1 x z,eE H.2⟩
def hY (l:List Int)(t:Int):List Int:=(l++[t]).drop ((l++[t]).length-3)
def dI (l:List dL)(r:Int):List Int:=((l.find? λp=>p.1==r).map (·.2.2)).getD []
def pi (l:List dL)(r:Int)(c:dC)(t:Int):List dL:=bh (λp=>p.1) (r,c,hY (dI l r) t) l
def p8 (n:aa)(c:dC)(p:List dL):aa:=(n.1,n.2.1,n.2.2.1,n.2.2.2.1,n.2.2.2.2.1,n.2.2.2.2.2.1,n.2.2.2.2.2.2.1,n.2.2.2.2.2.2.2.1,n.2.2.2.2.2.2.2.2.1,n.2.2.2.2.2.2.2.2.2.1,noP,n.2.2.2.2.2.2.2.2.2.2.2.1,c,p,n.2.2.2.2.2.2.2.2.2.2.2.2.2.2)
theorem uG {l:List dL}{r:Int}{t:Int}(h:t∈dI l r):∃ p∈l,t∈p.2.2:=by
 unfold dI at h;cases u:l.find? λp=>p.1==r with
 |none=>rw[u]at h;simp at h
 |some p =>
  rw[u]at h;exact⟨p,Cr u,h⟩
theorem xI {l:List Int}{t:Int}(u:∀ x∈l,InP x 1 60000)(r:InP t 1 60000):InP ((hY l t).length:Int) 1 3/\∀ x∈hY l t,InP x 1 60000:=by
 unfold hY;constructor
 ·simp only[CO,B8,BW,B4];constructor <;> omega
 ·intro x y;have:=List.mem_of_mem_drop y;rcases CR.1 this with h|h
  ·exact u x h
  ·rw[CN.1 h];exact r
theorem wk {me r:Int}{l:List dL}{c:dC}{t:Int}(h:eA me l)(J:InP r 0 7)(M:ak r=ak me)(O:r≠me)(I:cJ c)(H:InP t 1 60000):eA me (pi l r c t):=by
 have z:=xI (l:=dI l r) (t:=t) (λx y=>by
  obtain⟨p,u,y⟩:=uG y;exact (h.1 p u).2.2.2.2.2 x y) H
 exact⟨λp u=>by
  rcases aW.1 u with rfl|⟨u,_⟩
  ·exact⟨J,M,O,I,z.1,z.2⟩
  ·exact h.1 p u,eE h.2⟩
theorem UpN.heard {n:aa}(h:UpN n){c:dC}{p:List dL}(r:cJ c)(u:eA n.1 p):UpN (p8 n c p):=⟨⟨h.x.me,h.x.now0,h.x.table,h.x.site,h.x.cast,h.x.vs,xD n,h.x.doubts,r,u,h.x.others⟩,h.self,h.now1,⟨h.seq.seq,h.seq.turn⟩,h.inc,h.up⟩
theorem UpN.way {n:aa}(h:UpN n):UpN (iV n):=⟨h.x.way,h.self,h.now1,⟨h.seq.seq,h.seq.turn⟩,h.inc,h.up⟩
def Tot {α:Type}(o:Option α)(P:α->Prop):Prop:=∃ v,o=some v/\P v
section
variable {α β:Type} {P:α->Prop} {Q:β->Prop}
theorem Tot.ret {v:α}(h:P v):Tot (some v) P:=⟨v,rfl,h⟩
theorem Tot.mono {o:Option α}{r:α->Prop}(h:Tot o P)(k:∀ v,P v->r v):Tot o r:=by obtain⟨v,e,u⟩:=h;exact⟨v,e,k v u⟩
theorem Tot.bind {o:Option α}{g:α->Option β}(h:Tot o P)(k:∀ v,P v->Tot (g v) Q):Tot (o.bind g) Q:=by obtain⟨v,e,r⟩:=h;rw[e];exact k v r
theorem Tot.vl {o:Option α}{v:α}{g:α->Option β}(e:o=some v)(k:Tot (g v) Q):Tot (o.bind g) Q:=by rw[e];exact k
theorem Tot.cnd {b:Bool}{x y:Option α}(r:b=true->Tot x P)(u:b=false->Tot y P):Tot (bif b then x else y) P:=by
 cases b
 ·exact u rfl
 ·exact r rfl
theorem Tot.must {b:Bool}{x y:Option α}(r:b=true)(h:Tot x P):Tot (bif b then x else y) P:=by rw[r];exact h
theorem Tot.not {b:Bool}{x y:Option α}(r:b=false)(h:Tot x P):Tot (bif b then y else x) P:=by rw[r];exact h
theorem Tot.ix {xs:List α}{i:Int}{g:α->Option β}(u:0<=i)(z:i<xs.length)(k:∀ y∈xs,idx xs i=some y->Tot (g y) Q):Tot ((idx xs i).bind g) Q:=by
 obtain⟨n,rfl⟩:=BU u;have r:n<xs.length:=by omega
 have:=ag r;rw[this];exact k _ (BS r) this
theorem Tot.iter {A:Type}{step:(A->Option β)->A->Option β}(Inv:A->Prop)(m:A->Nat)(h:∀ (rec:A->Option β) (a:A),Inv a->(∀ r,Inv r->m r<m a->Tot (rec r) Q)->Tot (step rec a) Q):∀ (k:Nat) (a:A),m a<k->Inv a->Tot (ae step k a) Q:=by
 intro k;induction k with
 |zero=>intro a H;omega
 |succ k z =>
  intro a H I;exact h (ae step k) a I λr u y=>z r (by omega) u
end
theorem Ret.tot {o:Option RB}{P:Prop}(h:Ret o P):Tot o λv=>(v.1.1=true<->P):=by
 obtain⟨b,e,r⟩:=h;exact⟨_,e,r⟩
section
variable {α β:Type} {Q:β->Prop}
theorem Tot.cat {x y:ByteArray}{k:ByteArray->Option β}{a b:Nat}(H:x.size<=a)(u:y.size<=b)(h:∀ z:ByteArray,z.size<=a+b->Tot (k z) Q)(r:a+b<=4611686018427387904:=by omega):Tot (aV x y k) Q:=by
 unfold aV;rw[decide_eq_true (by omega)];exact h _ (by rw[ByteArray.size_append];omega)
theorem Tot.fit {a b c:Nat}{x y:Option β}(h:Tot x Q)(u:c<=1000:=by omega)(r:a+b<=2097152:=by omega):Tot (bif decide ((a+b)*c<=an) then x else y) Q:=by
 have:=Cw r u;rw[decide_eq_true (by unfold an;omega)];exact h
theorem Tot.ix2 {xs:List α}{i:Int}{g:α->Option β}(r:0<=i)(z:i<xs.length)(k:∀ y∈xs,idx xs i=some y->Tot (g y) Q):Tot ((idx xs i).bind λ_=>(idx xs ((BT i:Nat):Int)).bind g) Q :=
 Tot.ix r z λy u e=>by rw[Int.toNat_of_nonneg r,e];exact k y u e
end
theorem fQ (s:ByteArray):s.data.toList.length=s.size:=Array.length_toList
theorem iX (xs:List Int):(gN xs).size=xs.length:=by
 unfold gN;show (List.toArray _).size=_;rw[List.size_toArray,CC]
theorem rB (s:ByteArray):(ez s).length=s.size:=by
 unfold ez;rw[CC];exact fQ s
theorem dec_t:∀ (d k:Nat) (n:Int),0<=n->n<10 ^ (d+1)->n<=1000000000->d<=100->d<k->Tot (Q0.f k (n,())) λr=>r.1.1.size<=d+1:=by
 intro d;induction d with
 |zero =>
  intro k n H u J M I;obtain⟨k,rfl⟩:∃ m,k=m+1:=⟨k-1,by omega⟩;show Tot (Q0.step (Q0.f k) (n,())) _;simp only[Q0.step];refine Tot.not (decide_eq_false (show ¬ n< -9223372036854775807 by omega)) (Tot.not (decide_eq_false (show ¬ n<0 by omega)) (Tot.must (decide_eq_true (show n<10 by exact u)) (Tot.ret ?_)));show (gN _).size<=1;rw[iX];exact CA _
 |succ d O =>
  intro k n H u J M I;obtain⟨k,rfl⟩:∃ m,k=m+1:=⟨k-1,by omega⟩;show Tot (Q0.step (Q0.f k) (n,())) _;simp only[Q0.step];refine Tot.not (decide_eq_false (show ¬ n< -9223372036854775807 by omega)) (Tot.not (decide_eq_false (show ¬ n<0 by omega)) (Tot.cnd (λ_=>Tot.ret ?_) λh=>?_))
  ·show (gN _).size<=_;rw[iX];exact Nat.succ_le_succ (CG _)
  ·have h:¬ n<10:=of_decide_eq_false h;have e:Cx n 10=n / 10:=by rw[CQ H]
   have y:(10:Int) ^ (d+1+1)=10 ^ (d+1)*10:=Int.pow_succ ..;have Y:n / 10<10 ^ (d+1):=Int.ediv_lt_of_lt_mul (by omega) (by rw[<- y];exact u);rw[e,aJ (by omega) (by omega)];refine Tot.bind (O k (n / 10) (by omega) Y (by omega) (by omega) (by omega)) λv R=>Tot.cat R (b:=1) (by rw[iX];exact CA _) (λz X=>Tot.ret X) (by omega)
theorem k7 (K:Nat)(n:Int)(u:0<=n)(y:n<=999999)(z:1048577<K):Tot (Q0.f K (n,())) λr=>r.1.1.size<=6 :=
 dec_t 5 K n u (by show n<1000000;omega) (by omega) (by omega) (by omega)
theorem tA (K:Nat)(i:Int)(u:0<=i)(y:i<=4):Tot (Q64.f K (i,())) λr=>r.1.1.size<=7:=by
 have:i=0\/i=1\/i=2\/i=3\/i=4:=by omega
 rcases this with rfl|rfl|rfl|rfl|rfl <;> exact⟨_,rfl,by decide⟩
theorem tB (K:Nat)(i:Int)(u:0<=i)(y:i<=6):Tot (Q61.f K (i,())) λr=>r.1.1.size<=4:=by
 have:i=0\/i=1\/i=2\/i=3\/i=4\/i=5\/i=6:=by omega
 rcases this with rfl|rfl|rfl|rfl|rfl|rfl|rfl <;> exact⟨_,rfl,by decide⟩
theorem yY (K:Nat)(t:List af)(M:ax t)(hK:1048577<K):Tot (Q67.f K (t,())) λr=>r.1.1.size<=240:=by
 have hl:=iS M.2 (λg hg=>(M.1 g hg).1);refine Tot.iter (step:=λrec a=>Q67.s0 K (t,()) rec a) (λa=>0<=a.2/\a.2<=t.length/\(a.1.size:Int)<=30*a.2) (λa=>t.length-a.2.toNat) ?_ K _ (by show t.length-BT 0<K;omega) ⟨by show (0:Int)<=0;omega,by show (0:Int)<=_;omega,by show (0:Int)<=30*0;omega⟩;rintro rec ⟨s,i⟩ ⟨h0,h1,h2⟩ ih;simp only at h0 h1 h2 ih ⊢;simp only[Q67.s0];refine Tot.cnd (λh=>?_) λh=>?_
 ·have h:=of_decide_eq_true h;obtain⟨n,rfl⟩:=BU h0;have hn:n<t.length:=by omega
  obtain⟨⟨f1,f2⟩,⟨f3,f4⟩,f5,f6⟩:=M.1 t[n] (BS hn);rw[ag hn,ar n (by omega)];simp only[BQ];have go:∀ z:ByteArray,z.size<=s.size+29->Tot (rec (z,((n+1:Nat):Int))) λr=>r.1.1.size<=240:=λz hz=>ih _ ⟨by show (0:Int)<=((n+1:Nat):Int);omega,by show ((n+1:Nat):Int)<=_;omega,by show (z.size:Int)<=30*((n+1:Nat):Int);omega⟩ (by show t.length-BT ((n+1:Nat):Int)<t.length-BT (n:Int);omega)
  have body:∀ O:ByteArray,O.size<=s.size+1->Tot ((Q0.f K (t[n].1,())).bind λy3=>aV O y3.1.1 λy4=>aV y4 (ByteArray.mk #[58]) λy5=>(Q0.f K (t[n].2.1,())).bind λy7=>aV y5 y7.1.1 λy8=>aV y8 (ByteArray.mk #[58]) λy9=>(Q64.f K (t[n].2.2.1,())).bind λY=>aV y9 Y.1.1 λu=>bif t[n].2.2.2 then (aV u (ByteArray.mk #[42]) λX=>rec (X,((n+1:Nat):Int))) else (rec (u,((n+1:Nat):Int)))) λr=>r.1.1.size<=240:=λO H =>
   Tot.bind (k7 K _ f1 (by omega) hK) λv1 s1=>Tot.cat H s1 λz1 R=>Tot.cat R (b:=1) (by decide) λz2 Z =>
   Tot.bind (k7 K _ f3 (by omega) hK) λv2 s2=>Tot.cat Z s2 λz3 I=>Tot.cat I (b:=1) (by decide) λz4 y =>
   Tot.bind (tA K _ (by omega) f6) λv3 s3=>Tot.cat y s3 λz5 J =>
   Tot.cnd (λ_=>Tot.cat J (b:=1) (by decide) λz6 a0=>go z6 (by omega)) λ_=>go z5 (by omega)
  exact Tot.cnd (λ_=>Tot.cat (CA _) (b:=1) (by decide) λz hz=>body z hz) λ_=>body s (by omega)
 ·have h:=of_decide_eq_false h;exact Tot.ret (by show s.size<=240;omega)
theorem oD (K:Nat)(t:List af)(y:t.length<=1048576)(u:1048577<K):Tot (Q68.f K (t,())) λr=>r.1.1.size<=240:=by
 simp only[Q68.f];refine Tot.bind (gw K t y u).tot λv z=>Tot.cnd (λ_=>Tot.ret (by show (0:Nat)<=240;omega)) λh=>?_
 have H:=z.1 (by simpa using h);exact Tot.cnd (λ_=>Tot.ret (by show (1:Nat)<=240;omega)) λ_=>Tot.bind (yY K t H u) λv h=>Tot.ret h
theorem p9 (K:Nat)(n:Int)(H:-999999<=n)(I:n<=999999)(y:1048577<K):Tot (Q70.f K (n,())) λr=>r.1.1.size<=7:=by
 simp only[Q70.f];refine Tot.cnd (λh=>?_) λh=>?_
 ·have h:n<0:=of_decide_eq_true h;rw[aJ (by omega) (by omega)];exact Tot.bind (k7 K _ (by omega) (by omega) y) λv s=>Tot.cat (a:=1) (by decide) s λz u=>Tot.ret u
 ·have h:¬ n<0:=of_decide_eq_false h;exact Tot.bind (k7 K _ (by omega) (by omega) y) λv s=>Tot.cat (a:=1) (by decide) s λz u=>Tot.ret u
theorem yZ (K:Nat)(w:ah)(J:cZ w)(y:1048577<K):Tot (Q71.f K (w,())) λr=>r.1.1.size<=400:=by
 obtain⟨_,⟨a1,Y⟩,⟨I,b2⟩,⟨z,c2⟩,⟨R,d2⟩,⟨O,e2⟩,⟨⟨x1,x2⟩,⟨y1,y2⟩,⟨M,z2⟩,⟨u1,Z⟩⟩,X,_⟩:=J;have H:=bR X;simp only[Q71.f];have u:(ByteArray.mk #[32]).size<=1:=by decide
 refine Tot.cnd (λ_=>?_) λ_=>?_ <;>
 exact Tot.cat (a:=3) (by decide) u λ_ h=>Tot.bind (tB K _ (by omega) Y) λ_ s=>Tot.cat h s λ_ h=>Tot.cat h u λ_ h =>
  Tot.bind (k7 K _ I (by omega) y) λ_ s=>Tot.cat h s λ_ h=>Tot.cat h u λ_ h =>
  Tot.bind (k7 K _ z (by omega) y) λ_ s=>Tot.cat h s λ_ h=>Tot.cat h u λ_ h =>
  Tot.bind (k7 K _ R (by omega) y) λ_ s=>Tot.cat h s λ_ h=>Tot.cat h u λ_ h =>
  Tot.bind (k7 K _ O (by omega) y) λ_ s=>Tot.cat h s λ_ h=>Tot.cat h u λ_ h =>
  Tot.bind (p9 K _ (by show -999999<=(ah.coord w).1;omega) (by show (ah.coord w).1<=999999;omega) y) λ_ s=>Tot.cat h s λ_ h=>Tot.cat h u λ_ h =>
  Tot.bind (p9 K _ (by show -999999<=(ah.coord w).2.1;omega) (by show (ah.coord w).2.1<=999999;omega) y) λ_ s=>Tot.cat h s λ_ h=>Tot.cat h u λ_ h =>
  Tot.bind (k7 K _ M (by show (ah.coord w).2.2.1<=999999;omega) y) λ_ s=>Tot.cat h s λ_ h=>Tot.cat h u λ_ h =>
  Tot.bind (k7 K _ (by show 0<=(ah.coord w).2.2.2;omega) (by show (ah.coord w).2.2.2<=999999;omega) y) λ_ s=>Tot.cat h s λ_ h=>Tot.cat h u λ_ h =>
  Tot.bind (oD K _ H y) λ_ s=>Tot.cat h s λ_ h=>Tot.ret (CK h (by decide))
theorem za (K:Nat)(n:Int)(I:1048577<K):Tot (Q73.f K (n,())) λ_=>True:=by
 refine Tot.iter (step:=λrec a=>Q73.s0 K (n,()) rec a) (λa=>0<=a.2/\a.2<=8) (λa=>8-a.2.toNat) ?_ K _ (by show 8-BT 0<K;omega) ⟨by show (0:Int)<=0;omega,by show (0:Int)<=8;omega⟩;rintro rec ⟨s,i⟩ ⟨r,H⟩ y;simp only at r H y ⊢;simp only[Q73.s0];obtain⟨i,rfl⟩:=BU r;refine Tot.cnd (λh=>?_) λ_=>Tot.ret trivial
 have h:=of_decide_eq_true h;rw[ar i (by omega)];have u:∀ z:Int,Tot (rec (z,((i+1:Nat):Int))) λ_=>True:=λz=>y _ ⟨by show (0:Int)<=((i+1:Nat):Int);omega,by show ((i+1:Nat):Int)<=8;omega⟩ (by show 8-BT ((i+1:Nat):Int)<8-BT (i:Int);omega)
 exact Tot.cnd (λ_=>u _) λ_=>u _
theorem Ao (K:Nat)(s:ByteArray)(J:s.size<=1000000)(I:1048577<K):Tot (Q74.f K (s,())) λ_=>True:=by
 refine Tot.iter (step:=λrec a=>Q74.s0 K (s,()) rec a) (λa=>0<=a.2/\a.2<=s.size) (λa=>s.size-a.2.toNat) ?_ K _ (by show s.size-BT 0<K;omega) ⟨by show (0:Int)<=0;omega,by show (0:Int)<=_;omega⟩;rintro rec ⟨z,i⟩ ⟨r,H⟩ u;simp only at r H u ⊢;simp only[Q74.s0];obtain⟨i,rfl⟩:=BU r;refine Tot.cnd (λh=>?_) λ_=>Tot.ret trivial
 have h:=of_decide_eq_true h;rw[ar i (by omega)];exact Tot.ix r (by rw[fQ];exact h) λy _ _=>Tot.bind (za K _ I) λv _=>u _ ⟨by show (0:Int)<=((i+1:Nat):Int);omega,by show ((i+1:Nat):Int)<=_;omega⟩ (by show s.size-BT ((i+1:Nat):Int)<s.size-BT (i:Int);omega)
theorem hex_t (K:Nat)(n:Int)(R:1048577<K):Tot (Q72.f K (n,())) λr=>r.1.1.size<=8:=by
 refine Tot.iter (step:=λrec a=>Q72.s0 K (n,()) rec a) (λa=>-1<=a.2/\a.2<=7/\a.1.length=7-a.2) (λa=>(a.2+1).toNat) ?_ K _ (by show BT 8<K;omega) ⟨by show (-1:Int)<=7;omega,by show (7:Int)<=7;omega,by show (0:Int)=7-7;omega⟩;rintro rec ⟨z,i⟩ ⟨H,J,M⟩ u;simp only at H J M u ⊢;simp only[Q72.s0];refine Tot.cnd (λh=>?_) λh=>?_
 ·have h:=of_decide_eq_true h;rw[aJ (n:=4*i) (by omega) (by omega),aJ (n:=i-1) (by omega) (by omega)];obtain⟨O,I⟩:=lH (a:=CT n (2 ^ min (BT (4*i)) 64)) (m:=15) (by omega);refine Tot.not (decide_eq_false (by omega)) (Tot.ix O (Int.lt_of_le_of_lt I (by decide)) λy _ _=>Tot.fit ?_ (by omega) (by simp only[BW,B4];omega));exact u _ ⟨by show -1<=i-1;omega,by show i-1<=7;omega,by show ((z++[_]).length:Int)=7-(i-1);rw[B8,Cj];omega⟩ (by show BT (i-1+1)<BT (i+1);omega)
 ·have h:=of_decide_eq_false h;refine Tot.ret ?_;show (gN z).size<=8;rw[iX];omega
theorem oE (K:Nat)(w:ah)(O:(ah.table w).length<=1048576)(u:1048577<K):Tot (Q75.f K (w,())) λr=>r.1.1.size<=409/\(¬ cZ w->r.1.1=ByteArray.mk #[]):=by
 simp only[Q75.f];refine Tot.bind (mc K w O u).tot λv M=>Tot.cnd (λ_=>Tot.ret ⟨by show (0:Nat)<=409;omega,λ_=>rfl⟩) λh=>?_
 have H:=M.1 (by simpa using h);exact Tot.bind (yZ K w H u) λb I=>Tot.cat I (b:=1) (by decide) λz y=>Tot.bind (Ao K _ (by omega) u) λs _=>Tot.bind (hex_t K _ u) λx J=>Tot.cat y J λz y=>Tot.ret ⟨y,λh=>absurd H h⟩
theorem wm (K:Nat)(s:ByteArray)(c:Int)(hs:s.size<=100000)(hK:1048577<K):Tot (Q60.f K (s,c,())) λr=>r.1.1.length<=s.size+1/\∀ p∈r.1.1,p.size<=s.size:=by
 have H:∀ i j:Nat,(s.extract i j).size<=s.size:=λi j=>by rw[Cz];omega
 refine Tot.iter (step:=λrec a=>Q60.s0 K (s,c,()) rec a) (λa=>0<=a.2.1/\a.2.1<=a.2.2/\a.2.2<=s.size/\a.1.length<=a.2.2/\∀ p∈a.1,p.size<=s.size) (λa=>s.size-a.2.2.toNat) ?_ K _ (by show s.size-BT 0<K;omega) ⟨by show (0:Int)<=0;omega,by show (0:Int)<=0;omega,by show (0:Int)<=_;omega,by show (0:Int)<=0;omega,λp R=>by cases R⟩;rintro rec ⟨u,from_,i⟩ ⟨z,J,X,Z,M⟩ O;simp only at z J X Z M O ⊢;simp only[Q60.s0];obtain⟨i,rfl⟩:=BU (Cy z J);have I:∀ x:ByteArray,x.size<=s.size->∀ p∈u++[x],p.size<=s.size:=λx Y p R=>by
  rcases CR.1 R with h|h
  ·exact M p h
  ·rw[CN.1 h];exact Y
 refine Tot.cnd (λh=>?_) λh=>?_
 ·have h:=of_decide_eq_true h;rw[ar i (by omega)];refine Tot.ix (Cy z J) (by rw[fQ];exact h) λy _ _=>Tot.cnd (λ_=>Tot.must (by rw[decide_eq_true z,decide_eq_true J,decide_eq_true X];rfl) (Tot.fit (O _ ⟨?_,?_,?_,?_,I _ (H _ _)⟩ ?_) (by omega) (by simp only[BW,B4];omega))) λ_=>O _ ⟨z,?_,?_,?_,M⟩ ?_
  ·show (0:Int)<=((i+1:Nat):Int);omega
  ·show ((i+1:Nat):Int)<=((i+1:Nat):Int);omega
  ·show ((i+1:Nat):Int)<=s.size;omega
  ·show ((u++[_]).length:Int)<=((i+1:Nat):Int);rw[B8,Cj];omega
  ·show s.size-BT ((i+1:Nat):Int)<s.size-BT (i:Int);omega
  ·show from_<=((i+1:Nat):Int);omega
  ·show ((i+1:Nat):Int)<=s.size;omega
  ·show (u.length:Int)<=((i+1:Nat):Int);omega
  ·show s.size-BT ((i+1:Nat):Int)<s.size-BT (i:Int);omega
 ·refine Tot.must (by rw[decide_eq_true z,decide_eq_true (by omega),decide_eq_true (CW _)];rfl) (Tot.fit (Tot.ret ⟨?_,I _ (H _ _)⟩) (by omega) (by simp only[BW,B4];omega));show (u++[_]).length<=_;rw[B8,Cj];omega
theorem j0 (K:Nat)(s:ByteArray)(X:s.size<=100000)(R:1048577<K):Tot (Q62.f K (s,())) λ_=>True:=by
 simp only[Q62.f,Q62.pre];have r:((s.size:Int)<=6)->Tot (Q62.l0 K (s,()) (0,0)) λ_=>True:=λY=>by
  refine Tot.iter (step:=λrec a=>Q62.s0 K (s,()) rec a) (λa=>0<=a.2/\a.2<=s.size) (λa=>s.size-a.2.toNat) ?_ K _ (by show s.size-BT 0<K;omega) ⟨by show (0:Int)<=0;omega,by show (0:Int)<=_;omega⟩;rintro rec ⟨z,i⟩ ⟨u,M⟩ J;simp only at u M J ⊢;simp only[Q62.s0];obtain⟨i,rfl⟩:=BU u;refine Tot.cnd (λh=>?_) λ_=>Tot.ret trivial
  have h:=of_decide_eq_true h;have I:((i:Nat):Int)<s.data.toList.length:=by rw[fQ];exact h
  rw[ar i (by omega)];exact Tot.ix u I λy _ _=>Tot.cnd (λ_=>Tot.ret trivial) λ_=>Tot.ix u I λy _ _=>Tot.cnd (λ_=>Tot.ret trivial) λ_=>Tot.ix u I λy _ _=>J _ ⟨by show (0:Int)<=((i+1:Nat):Int);omega,by show ((i+1:Nat):Int)<=_;omega⟩ (by show s.size-BT ((i+1:Nat):Int)<s.size-BT (i:Int);omega)
 refine Tot.bind (cI K _ _ _).tot λv O=>Tot.cnd (λ_=>Tot.ret trivial) λh=>?_
 have H:=O.1 (by simpa using h);exact Tot.cnd (λh=>Tot.ix (by omega) (by rw[fQ];have:=of_decide_eq_true h;omega) λy _ _=>Tot.cnd (λ_=>Tot.ret trivial) λ_=>r H.2) λ_=>r H.2
theorem vh (K:Nat)(s:ByteArray)(J:s.size<=100000)(I:1048577<K):Tot (Q63.f K (s,())) λ_=>True:=by
 simp only[Q63.f];refine Tot.cnd (λ_=>Tot.ret trivial) λh=>?_
 have h:=of_decide_eq_false h;have u:(0:Int)<s.data.toList.length:=by rw[fQ];omega
 have r:Tot (bif decide ((0:Int)<=1)&&decide ((1:Int)<=(s.size:Int))&&decide ((s.size:Int)<=(s.size:Int)) then ((Q62.f K (s.extract (BT 1) (BT (s.size:Int)),())).bind λz=>bif decide (z.1.1<0) then (some (((-1),false,()),())) else (bif s.toList==(ByteArray.mk #[45,48]).toList then (some (((-1),false,()),())) else ((idx s.data.toList 0).bind λH=>bif (H.toNat:Int)==45 then (some ((wr .i64 (0-z.1.1),true,()),())) else (some ((z.1.1,true,()),()))))) else none) λ (_:(Int×Bool×Unit)×Unit)=>True :=
  Tot.must (by rw[decide_eq_true (by omega:(0:Int)<=1),decide_eq_true (by omega:(1:Int)<=s.size),decide_eq_true (CW _)];rfl) (Tot.bind (j0 K _ (by rw[Cz];omega) I) λv _=>Tot.cnd (λ_=>Tot.ret trivial) λ_=>Tot.cnd (λ_=>Tot.ret trivial) λ_=>Tot.ix (by omega) u λy _ _=>Tot.cnd (λ_=>Tot.ret trivial) λ_=>Tot.ret trivial)
 exact Tot.ix (by omega) u λy _ _=>Tot.cnd (λ_=>Tot.ix (by omega) u λy _ _=>Tot.cnd (λ_=>Tot.ret trivial) λ_=>r) λ_=>r
theorem Ap (K:Nat)(s:ByteArray)(hs:s.size<=100000)(J:1048577<K):Tot (Q65.f K (s,())) λ_=>True:=by
 simp only[Q65.f,Q65.pre];have H:∀ (Y:List ByteArray) (n1 n2:Int) (b:Bool),Y.length=3->Tot (Q65.l0 K (s,()) (Y,1,n1,n2,0,b)) λ_=>True:=λY n1 n2 b hx=>by
  refine Tot.iter (step:=λrec a=>Q65.s0 K (s,()) rec a) (λa=>a.1.length=3/\1<=a.2.1/\a.2.1<=5) (λa=>5-a.2.1.toNat) ?_ K _ (by show 5-BT 1<K;omega) ⟨hx,by show (1:Int)<=1;omega,by show (1:Int)<=5;omega⟩;rintro rec ⟨ys,i,m1,m2,m3,m4⟩ ⟨Z,h1,h2⟩ ih;simp only at Z h1 h2 ih ⊢;simp only[Q65.s0];refine Tot.cnd (λh=>?_) λ_=>Tot.bind (o7 K _).tot λ_ _=>Tot.ret trivial
  have h:=of_decide_eq_true h;rw[aJ (n:=i+1) (by omega) (by omega)];have go:∀ m:Int,Tot (rec (ys,i+1,m1,m2,m,m4)) λ_=>True:=λm=>ih _ ⟨Z,by show 1<=i+1;omega,by show i+1<=5;omega⟩ (by show 5-BT (i+1)<5-BT i;omega)
  exact Tot.bind (tA K i (by omega) h) λv _=>Tot.ix2 (by omega) (by omega) λy _ _=>Tot.cnd (λ_=>go _) λ_=>go _
 have u:∀ (z:ByteArray) (b:Bool),z.size<=s.size->Tot ((Q60.f K (z,58,())).bind λr=>bif (BR r.1.1:Int) != 3 then (some (((0,(0,(0,b))),false,()),())) else ((idx r.1.1 0).bind λ_=>(idx r.1.1 (BT 0:Nat)).bind λX=>(Q62.f K (X,())).bind λM=>(idx r.1.1 1).bind λ_=>(idx r.1.1 (BT 1:Nat)).bind λR=>(Q62.f K (R,())).bind λI=>Q65.l0 K (s,()) (r.1.1,1,M.1.1,I.1.1,0,b))) λ_=>True:=λz b hz =>
  Tot.bind (wm K z 58 (by omega) J) λv ⟨_,hp⟩=>Tot.cnd (λ_=>Tot.ret trivial) λh=>by
   have h3:(v.1.1.length:Int)=3:=by simpa using h
   exact Tot.ix2 (by omega) (by omega) λy O _=>Tot.bind (j0 K y (by have:=hp y O;omega) J) λ_ _=>Tot.ix2 (by omega) (by omega) λy O _=>Tot.bind (j0 K y (by have:=hp y O;omega) J) λ_ _=>H _ _ _ _ (by omega)
 refine Tot.cnd (λh=>?_) λ_=>u s false (CA _)
 have h:=of_decide_eq_true h;rw[aJ (n:=(s.size:Int)-1) (by omega) (by omega)];exact Tot.ix (by omega) (by rw[fQ];omega) λy _ _=>Tot.cnd (λ_=>Tot.must (by simp only[CX,decide_eq_true_eq];omega) (u _ true (by rw[Cz];omega))) λ_=>u s false (CA _)
theorem Aq (K:Nat)(s:ByteArray)(X:s.size<=100000)(H:1048577<K):Tot (Q66.f K (s,())) λr=>r.1.1.length<=100001:=by
 simp only[Q66.f,Q66.pre];refine Tot.cnd (λ_=>Tot.ret (by show (0:Nat)<=_;omega)) λ_=>Tot.bind (wm K s 44 X H) ?_
 rintro⟨⟨xs,⟨⟩⟩,⟨⟩⟩ ⟨hl,hp⟩;dsimp only at hl hp ⊢;refine Tot.iter (step:=λrec a=>Q66.s0 K (s,()) rec a) (λa=>a.2.1=xs/\0<=a.2.2/\a.2.2<=xs.length/\(a.1.length:Int)<=a.2.2) (λa=>xs.length-a.2.2.toNat) ?_ K _ (by show xs.length-BT 0<K;omega) ⟨rfl,by show (0:Int)<=0;omega,by show (0:Int)<=_;omega,by show (0:Int)<=0;omega⟩;rintro rec ⟨u,I,i⟩ ⟨rfl,z,M,R⟩ J;simp only at z M R hl hp J ⊢;simp only[Q66.s0];obtain⟨i,rfl⟩:=BU z;refine Tot.cnd (λh=>?_) λ_=>Tot.ret (by show u.length<=_;omega)
 have h:=of_decide_eq_true h;rw[ar i (by omega)];exact Tot.ix2 z h λy O _=>Tot.bind (Ap K y (by have:=hp y O;omega) H) λv _=>Tot.cnd (λ_=>Tot.ret (by show (0:Nat)<=_;omega)) λ_=>Tot.fit (J _ ⟨rfl,by show (0:Int)<=((i+1:Nat):Int);omega,by show ((i+1:Nat):Int)<=_;omega,by show ((u++[_]).length:Int)<=((i+1:Nat):Int);rw[B8,Cj];omega⟩ (by show I.length-BT ((i+1:Nat):Int)<I.length-BT (i:Int);omega)) (by omega) (by simp only[BW,B4];omega)
theorem Ar (K:Nat)(s:ByteArray)(z:s.size<=100000)(u:1048577<K):Tot (Q69.f K (s,())) λr=>r.1.1.length<=100001:=by
 simp only[Q69.f];exact Tot.bind (Aq K s z u) λv y=>Tot.cnd (λ_=>Tot.ret (by show (0:Nat)<=_;omega)) λ_=>Tot.bind (oD K _ (by omega) u) λx _=>Tot.cnd (λ_=>Tot.ret (by show (0:Nat)<=_;omega)) λ_=>Tot.ret y
theorem mn (K:Nat)(s:ByteArray)(Z:s.size<=100000)(H:1048577<K):Tot (Q76.f K (s,())) λr=>r.1.2.1=true->cZ r.1.1:=by
 simp only[Q76.f,Q76.pre];refine Tot.bind (wm K s 32 Z H) ?_;rintro⟨⟨xs,⟨⟩⟩,⟨⟩⟩ ⟨hl,hp⟩;dsimp only at hl hp ⊢;refine Tot.cnd (λ_=>Tot.ret λh=>by cases h) λ_=>Tot.cnd (λ_=>Tot.ret λh=>by cases h) λh=>?_
 have M:(xs.length:Int)=12:=by simpa using h
 have u:∀ y∈xs,y.size<=100000:=λy z=>CK (hp y z) Z
 have I:∀ p:Int,Tot (Q76.l0 K (s,()) (xs,1,p,0)) λr=>r.1.2.1=true->cZ r.1.1:=λp=>by
  refine Tot.iter (step:=λrec a=>Q76.s0 K (s,()) rec a) (λa=>a.1=xs/\1<=a.2.1/\a.2.1<=7) (λa=>7-a.2.1.toNat) ?_ K _ (by show 7-BT 1<K;omega) ⟨rfl,by show (1:Int)<=1;omega,by show (1:Int)<=7;omega⟩;rintro rec ⟨ys,i,p,k⟩ ⟨rfl,R,h2⟩ Y;simp only at R h2 hl M u Y ⊢;simp only[Q76.s0];refine Tot.cnd (λh=>?_) λ_=>?_
  ·have h:=of_decide_eq_true h;rw[aJ (n:=i+1) (by omega) (by omega)];have X:∀ m:Int,Tot (rec (ys,i+1,p,m)) λr=>r.1.2.1=true->cZ r.1.1:=λm=>Y _ ⟨rfl,by show 1<=i+1;omega,by show i+1<=7;omega⟩ (by show 7-BT (i+1)<7-BT i;omega)
   exact Tot.bind (tB K i (by omega) h) λv _=>Tot.ix2 (by omega) (by omega) λy _ _=>Tot.cnd (λ_=>X _) λ_=>X _
  ·refine Tot.ix2 (by omega) (by omega) λy z _=>Tot.bind (j0 K y (u y z) H) λ_ _=>Tot.ix2 (by omega) (by omega) λy z _=>Tot.bind (j0 K y (u y z) H) λ_ _=>Tot.ix2 (by omega) (by omega) λy z _=>Tot.bind (j0 K y (u y z) H) λ_ _=>Tot.ix2 (by omega) (by omega) λy z _=>Tot.bind (j0 K y (u y z) H) λ_ _ =>
    Tot.ix2 (by omega) (by omega) λy z _=>Tot.bind (vh K y (u y z) H) λ_ _=>Tot.ix2 (by omega) (by omega) λy z _=>Tot.bind (vh K y (u y z) H) λ_ _=>Tot.ix2 (by omega) (by omega) λy z _=>Tot.bind (Ar K y (u y z) H) λt ht=>Tot.ix2 (by omega) (by omega) λy z _=>Tot.bind (j0 K y (u y z) H) λ_ _=>Tot.ix2 (by omega) (by omega) λy z _=>Tot.bind (j0 K y (u y z) H) λ_ _ =>
    Tot.cnd (λ_=>Tot.ret λh=>by cases h) λ_=>Tot.cnd (λ_=>Tot.ret λh=>by cases h) λ_=>Tot.cnd (λ_=>Tot.ret λh=>by cases h) λ_=>Tot.bind (oE K _ (by show t.1.1.length<=1048576;omega) H) λx ⟨_,hx⟩=>Tot.cnd (λ_=>Tot.ret λh=>by cases h) λJ=>Tot.ret λ_=>?_
   refine Classical.byContradiction λhn=>?_
   rw[hx hn]at J;have O:(ByteArray.mk #[]).toList=s.toList:=by
    have:((ByteArray.mk #[]).toList != s.toList)=false:=J;simpa using this
   rw[DN,DN]at O;have h0:=congrArg BR O;rw[fQ,fQ]at h0;have R:(ByteArray.mk #[]).size=0:=rfl;omega
 exact Tot.ix2 (by omega) (by omega) λy _ _=>Tot.cnd (λ_=>I 2) λ_=>I 1
def Rt (v r:Nat):Prop:=r*r<=v/\v<(r+1)*(r+1)
theorem Bn (K:Nat)(v:Nat)(hv:v<1500000001*1500000001)(hK:1048577<K):∃ r,Rt v r/\Q48.f K ((v:Int),())=some (((r:Int),()),()):=by
 have I:∀ (e k l h:Nat),h-l<2 ^ e->e<k->l<=h->h<=1500000000->l*l<=v->v<(h+1)*(h+1)->∃ r,Rt v r/\ae (λrec a=>Q48.s0 K ((v:Int),()) rec a) k ((l:Int),(h:Int))=some (((r:Int),()),()):=by
  intro e;induction e with
  |zero =>
   intro k l h J hk z X u y;obtain⟨k,rfl⟩:∃ H,k=H+1:=⟨k-1,by omega⟩;have:l=h:=by omega
   subst this;refine⟨l,⟨u,y⟩,?_⟩;show Q48.s0 K _ _ _=_;simp only[Q48.s0];rw[decide_eq_false (by omega)];rfl
  |succ e R =>
   intro k l h J hk z X u y;obtain⟨k,rfl⟩:∃ H,k=H+1:=⟨k-1,by omega⟩;show ∃ r,Rt v r/\Q48.s0 K _ _ _=_;simp only[Q48.s0];by_cases hl:l<h
   ·rw[decide_eq_true (show (l:Int)<(h:Int) by omega)];have e1:wr .i64 ((l:Int)+(h:Int))=(l:Int)+h:=aJ (by omega) (by omega);have e2:wr .i64 ((l:Int)+(h:Int)+1)=((l+h+1:Nat):Int):=(aJ (by omega) (by omega)).trans (by omega);have e3:Cx ((l+h+1:Nat):Int) 2=(((l+h+1) / 2:Nat):Int):=by
     rw[CQ (by omega)];omega
    rw[e1,e2,e3];have hm:l<(l+h+1) / 2/\(l+h+1) / 2<=h:=by omega
    have M:h-(l+h+1) / 2<2 ^ e/\(l+h+1) / 2-1-l<2 ^ e:=by
     rw[Nat.pow_succ]at J;omega
    generalize (l+h+1) / 2=m at *;have e4:wr .i64 (m:Int)=m:=aJ (by omega) (by omega);have e5:Cx (v:Int) (m:Int)=((v / m:Nat):Int):=by
     rw[CQ (by omega)];rfl
    have a0:v / m<=v:=Nat.div_le_self _ _;have Y:m<=v / m<->m*m<=v:=Nat.le_div_iff_mul_le (by omega);generalize v / m=q at *;have e6:wr .i64 (q:Int)=(q:Int):=aJ (by omega) (by omega);rw[e4,e5,e6,decide_eq_false (show ¬ (m:Int)=0 by omega)];simp only[cond_true,cond_false];by_cases O:m<=q
    ·rw[decide_eq_true (by omega)];exact R k m h M.1 (by omega) (by omega) X (Y.1 O) y
    ·rw[decide_eq_false (by omega)];have a1:¬ m*m<=v:=λh4=>O (Y.2 h4)
     have Z:wr .i64 ((m:Int)-1)=((m-1:Nat):Int):=eU m (by omega) (by omega);rw[Z];exact R k l (m-1) M.2 (by omega) (by omega) (by omega) u (by rw[show m-1+1=m by omega];omega)
   ·have:l=h:=by omega
    subst this;refine⟨l,⟨u,y⟩,?_⟩;rw[decide_eq_false (by omega)];rfl
 exact I 31 K 0 1500000000 (by decide) (by omega) (by omega) (by omega) (by omega) hv
def iY (x:Int):Int:=if x< -1000000000 then -1000000000 else if x>1000000000 then 1000000000 else x
theorem qJ (K:Nat)(x:Int):Q47.f K (x,())=some ((iY x,()),()):=by
 simp only[Q47.f,Q44.f,iY];by_cases h:x< -1000000000
 ·rw[decide_eq_true h,if_pos h];rfl
 ·rw[decide_eq_false h,if_neg h];by_cases r:x>1000000000
  ·rw[decide_eq_true r,if_pos r];rfl
  ·rw[decide_eq_false r,if_neg r];rfl
theorem tC (x:Int):-1000000000<=iY x/\iY x<=1000000000:=by
 unfold iY;split
 ·omega
 ·split <;> omega
theorem zL {a:Int}(h:-1000000000<=a/\a<=1000000000):0<=a*a/\a*a<=1000000000000000000:=by
 have e:∃ b:Nat,b<=1000000000/\a*a=((b*b:Nat):Int):=by
  refine⟨a.natAbs,by omega,?_⟩;exact (Int.natAbs_mul_self).symm
 obtain⟨b,r,u⟩:=e;have:=Cw r r;omega
theorem xJ (K:Nat)(x y:Int)(z:1048577<K):Tot (Q49.f K (x,y,())) λ_=>True:=by
 simp only[Q49.f];rw[qJ K x,qJ K y];simp only[BQ];have M:=zL (tC x);have O:=zL (tC y);generalize iY x*iY x=a at *;generalize iY y*iY y=b at *;have H:wr .i64 a=a:=aJ (by omega) (by omega);have J:wr .i64 b=b:=aJ (by omega) (by omega);have I:wr .i64 (a+b)=(((a+b).toNat:Nat):Int):=(aJ (by omega) (by omega)).trans (by omega);rw[H,J,I];obtain⟨r,_,u⟩:=Bn K (a+b).toNat (by omega) z;rw[u];simp only[BQ];rw[qJ K r];exact⟨_,rfl,trivial⟩
theorem Bo (K:Nat)(c d:dC)(r:1048577<K):Tot (Q50.f K (c,d,())) λ_=>True:=by
 simp only[Q50.f];exact Tot.bind (iG K c).tot λ_ _=>Tot.cnd (λ_=>Tot.ret trivial) λ_=>Tot.bind (iG K d).tot λ_ _=>Tot.cnd (λ_=>Tot.ret trivial) λ_=>Tot.bind (xJ K _ _ r) λ_ _=>Tot.ret trivial
theorem kK (K:Nat)(n u y:Int)(h:u<=y):Tot (Q44.f K (n,u,y,())) λr=>InP r.1.1 u y:=by
 simp only[Q44.f];exact Tot.cnd (λ_=>Tot.ret ⟨CW _,h⟩) λz=>Tot.cnd (λ_=>Tot.ret ⟨h,CW _⟩) λH=>Tot.ret ⟨Int.not_lt.1 (of_decide_eq_false z),Int.not_lt.1 (of_decide_eq_false H)⟩
theorem Bp (K:Nat)(c b:dC)(t s:Int)(H:cJ c)(X:1048577<K):Tot (Q55.f K (c,b,t,s,())) λr=>cJ r.1.1:=by
 simp only[Q55.f];refine Tot.bind (iG K c).tot λv O=>Tot.cnd (λh=>?_) λ_=>Tot.bind (iG K b).tot λv O=>Tot.cnd (λ_=>Tot.ret H) λu=>Tot.bind (cI K _ _ _).tot λv' M=>Tot.cnd (λ_=>Tot.ret H) λy=>?_
 ·rw[O.2 H]at h;cases h
 have Z:=O.1 (by simpa using u);have ht:=M.1 (by simpa using y);obtain⟨_,_,_,⟨c1,c2⟩⟩:=H;obtain⟨_,_,_,⟨b1,b2⟩⟩:=Z;obtain⟨t1,t2⟩:=ht;have Y:¬ wr .i64 (c.2.2.2+b.2.2.2)=0:=by rw[aJ (by omega) (by omega)];omega
 have z:∀ w:Int,Tot (Q54.f K (c,b,w,t,())) λr=>InP r.1.1 1 1500:=λw=>by
  simp only[Q54.f,Q53.f];refine Tot.bind (P:=λ_=>True) (Tot.cnd (λ_=>Tot.ret trivial) λ_=>Tot.ret trivial) λ_ _=>Tot.not (decide_eq_false (show ¬ t=0 by omega)) (Tot.bind (kK K _ _ _ (by omega)) λ_ _=>Tot.not (decide_eq_false Y) (Tot.bind (kK K _ _ _ (by omega)) λ_ h=>Tot.ret h))
 refine Tot.bind (Bo K c b X) λ_ _=>?_
 simp only[Q51.f];refine Tot.bind (P:=λ_=>True) (Tot.not (decide_eq_false Y) (Tot.ret trivial)) λ_ _=>Tot.bind (xJ K _ _ X) λn _=>Tot.cnd (λ_=>?_) λh=>?_
 ·simp only[Q52.f];refine Tot.bind (P:=λ_=>True) (Tot.cnd (λ_=>Tot.ret trivial) λ_=>Tot.cnd (λ_=>Tot.ret trivial) λ_=>Tot.cnd (λ_=>Tot.ret trivial) λ_=>Tot.ret trivial) λ_ _=>Tot.cnd (λ_=>?_) λ_=>?_ <;>
  exact Tot.bind (kK K _ _ _ (by omega)) λ_ I=>Tot.bind (kK K _ _ _ (by omega)) λ_ u=>Tot.bind (kK K _ _ _ (by omega)) λ_ y=>Tot.bind (z _) λ_ J=>Tot.ret ⟨I,u,y,J⟩
 ·have R:¬ n.1.1=0:=by simpa using h
  refine Tot.cnd (λ_=>?_) λ_=>?_ <;>
  exact Tot.not (decide_eq_false R) (Tot.bind (kK K _ _ _ (by omega)) λ_ I=>Tot.not (decide_eq_false R) (Tot.bind (kK K _ _ _ (by omega)) λ_ u=>Tot.bind (kK K _ _ _ (by omega)) λ_ y=>Tot.bind (z _) λ_ J=>Tot.ret ⟨I,u,y,J⟩))
noncomputable def qa (K:Nat)(c b:dC)(t s:Int):dC:=((Q55.f K (c,b,t,s,())).getD (((0,0,0,0),()),())).1.1
noncomputable def sx (K:Nat)(l:List Int):Int:=((Q56.f K (l,())).getD ((0,()),())).1.1
theorem xK (K:Nat)(c b:dC)(t s:Int)(r:cJ c)(u:1048577<K):Q55.f K (c,b,t,s,())=some ((qa K c b t s,()),())/\cJ (qa K c b t s):=by
 obtain⟨⟨⟨v,⟨⟩⟩,⟨⟩⟩,e,h⟩:=Bp K c b t s r u;unfold qa;rw[e];exact⟨rfl,h⟩
theorem med_t (K:Nat)(l:List Int)(hl:l.length<=100)(hK:1048577<K):Tot (Q56.f K (l,())) λ_=>True:=by
 simp only[Q56.f,Q56.pre];have H:∀ J:List Int,J.length<=100->Tot (Q56.l0 K (l,()) (J,[],0)) λ_=>True:=λJ hx=>by
  refine Tot.iter (step:=λrec a=>Q56.s0 K (l,()) (Q56.l1 K (l,()) rec) rec a) (λa=>a.1=J/\0<=a.2.2/\a.2.2<=J.length/\(a.2.1.length:Int)=a.2.2) (λa=>J.length-a.2.2.toNat) ?_ K _ (by show J.length-BT 0<K;omega) ⟨rfl,by show (0:Int)<=0;omega,by show (0:Int)<=_;omega,rfl⟩;rintro rec ⟨ys,z,i⟩ ⟨rfl,X,h1,h2⟩ ih;simp only at X h1 h2 hx ih ⊢;simp only[Q56.s0];obtain⟨i,rfl⟩:=BU X;refine Tot.cnd (λh=>?_) λ_=>Tot.cnd (λ_=>Tot.ret trivial) λh=>?_
  ·have I:=of_decide_eq_true h;clear h;refine Tot.iter (step:=λu a=>Q56.s1 K (l,()) rec u a) (λa=>a.1=ys/\a.2.1=z/\a.2.2.1=i/\0<=a.2.2.2/\a.2.2.2<=z.length) (λa=>z.length-a.2.2.2.toNat) ?_ K _ (by show z.length-BT 0<K;omega) ⟨rfl,rfl,rfl,by show (0:Int)<=0;omega,by show (0:Int)<=_;omega⟩;rintro u ⟨M,r,j,k⟩ ⟨rfl,rfl,e,Y,k1⟩ O;simp only at e Y k1 I h1 h2 hx O ih ⊢;subst e;simp only[Q56.s1];obtain⟨k,rfl⟩:=BU Y;have Z:∀ y:Int,Tot (rec (M,(([]++((r.take (BT (k:Int))).drop (BT 0)))++([y]))++((r.take (BT (BR r:Int))).drop (BT (k:Int))),wr .i64 ((i:Int)+1))) λ_=>True:=λy=>by
    rw[ar i (by omega)];refine ih _ ⟨rfl,by show (0:Int)<=((i+1:Nat):Int);omega,by show ((i+1:Nat):Int)<=_;omega,?_⟩ (by show M.length-BT ((i+1:Nat):Int)<M.length-BT (i:Int);omega);simp only[BV,Cl,CI,B7,B8,CE,CO,BW,B4];omega
   have R:Tot (bif decide (0<=0)&&decide ((0:Int)<=(k:Int))&&decide ((k:Int)<=(BR r:Int))&&true then (bif decide ((BR ([]:List (Ty.den (.int .i64)))+BR ((r.take (BT (k:Int))).drop (BT 0)))*8<=an) then ((idx M (i:Int)).bind λy3=>bif decide ((BR ([]++((r.take (BT (k:Int))).drop (BT 0)))+BR ([y3]))*8<=an) then (bif decide ((0:Int)<=(k:Int))&&decide ((k:Int)<=(BR r:Int))&&decide ((BR r:Int)<=(BR r:Int))&&true then (bif decide ((BR (([]++((r.take (BT (k:Int))).drop (BT 0)))++([y3]))+BR ((r.take (BT (BR r:Int))).drop (BT (k:Int))))*8<=an) then (rec (M,(([]++((r.take (BT (k:Int))).drop (BT 0)))++([y3]))++((r.take (BT (BR r:Int))).drop (BT (k:Int))),wr .i64 ((i:Int)+1))) else none) else none) else none) else none) else none) λ_=>True:=by
    refine Tot.must (by simp only[CX,decide_eq_true_eq,DD];omega) (Tot.fit (Tot.ix X I λy _ _=>Tot.fit (Tot.must (by simp only[CX,decide_eq_true_eq,DD];omega) (Tot.fit (Z y) (by omega) ?_)) (by omega) ?_) (by omega) ?_) <;>
    simp only[BV,Cl,CI,B7,B8,CE,CO,BW,B4] <;> omega
   refine Tot.cnd (λh4=>?_) λ_=>R
   have h4:=of_decide_eq_true h4;refine Tot.ix Y h4 λy1 _ _=>Tot.ix X I λy2 _ _=>Tot.cnd (λ_=>?_) λ_=>R
   rw[ar k (by omega)];exact O _ ⟨rfl,rfl,rfl,by show (0:Int)<=((k+1:Nat):Int);omega,by show ((k+1:Nat):Int)<=_;omega⟩ (by show r.length-BT ((k+1:Nat):Int)<r.length-BT (k:Int);omega)
  ·have h:¬ (z.length:Int)=0:=by simpa using h
   rw[aJ (n:=(z.length:Int)-1) (by omega) (by omega)];have e:Cx ((z.length:Int)-1) 2=((z.length:Int)-1) / 2:=by rw[CQ (by omega)]
   rw[e,aJ (by omega) (by omega)];exact Tot.ix (by omega) (by omega) λy _ _=>Tot.ret trivial
 refine Tot.cnd (λh=>?_) λ_=>H l hl
 have h:=of_decide_eq_true h;rw[aJ (n:=(l.length:Int)-3) (by omega) (by omega)];exact Tot.must (by simp only[CX,decide_eq_true_eq,DD];omega) (H _ (by simp only[CO,CE];omega))
theorem med_s (K:Nat)(l:List Int)(r:l.length<=100)(u:1048577<K):Q56.f K (l,())=some ((sx K l,()),()):=by
 obtain⟨⟨⟨v,⟨⟩⟩,⟨⟩⟩,e,_⟩:=med_t K l r u;unfold sx;rw[e];rfl
theorem rD {α A R:Type}(k:α->Int)(x:α)(t:List α)(hA:Asc k t)(S0 S1:List α->Nat->A)(I:List α->Option R){step:(A->Option R)->A->Option R}
  (h0:∀ (rec:A->Option R) (r:List α) (i:Nat) (O:i<t.length),r.length=i->(∀ y∈t.take i,k y<k x)->step rec (S0 r i)=if k t[i]<k x then rec (S0 (r++[t[i]]) (i+1)) else if k t[i]=k x then rec (S1 (r++[x]) (i+1)) else rec (S1 (r++[x]++[t[i]]) (i+1)))
  (h1:∀ (rec:A->Option R) (r:List α) (i:Nat) (O:i<t.length),r.length<=i+1->k x<k t[i]->step rec (S1 r i)=rec (S1 (r++[t[i]]) (i+1)))
  (e0:∀ (rec:A->Option R) (r:List α),r.length=t.length->(∀ y∈t,k y<k x)->step rec (S0 r t.length)=I (r++[x]))
  (e1:∀ (rec:A->Option R) (r:List α),r.length<=t.length+1->step rec (S1 r t.length)=I r) {K:Nat} (Z:t.length<K):ae step K (S0 [] 0)=I (bh k x t):=by
 have r1:∀ (n i K:Nat) (r:List α),i+n=t.length->n<K->r.length<=i+1->(∀ y∈t.drop i,k x<k y)->ae step K (S1 r i)=I (r++t.drop i):=by
  intro n;induction n with
  |zero =>
   intro i K r O Z M _;obtain⟨K,rfl⟩:∃ X,K=X+1:=⟨K-1,by omega⟩;have:i=t.length:=by omega
   subst this;show step (ae step K) _=_;rw[e1 _ _ M,C4,B5]
  |succ n ih =>
   intro i K r O Z M hg;obtain⟨K,rfl⟩:∃ X,K=X+1:=⟨K-1,by omega⟩;have u:i<t.length:=by omega
   rw[B3 u]at hg;show step (ae step K) _=_;rw[h1 _ _ _ u M (hg _ (.head _)),ih (i+1) K _ (by omega) (by omega) (by simp;omega) (λy z=>hg y (.tail _ z)),B3 u];simp
 have H:∀ i (O:i<t.length),∀ y∈t.drop (i+1),k t[i]<k y:=λi O y z=>by
  have:=List.Pairwise.drop (i:=i) hA;rw[B3 O]at this;exact (B9.1 this).1 y z
 have r0:∀ (n i K:Nat) (r:List α),i+n=t.length->n<K->r=t.take i->(∀ y∈t.take i,k y<k x)->ae step K (S0 r i)=I (bh k x t):=by
  intro n;induction n with
  |zero =>
   intro i K r O Z M J;obtain⟨K,rfl⟩:∃ X,K=X+1:=⟨K-1,by omega⟩;have:i=t.length:=by omega
   subst this;rw[Cf]at M J;subst M;show step (ae step K) _=_;rw[e0 _ _ rfl J];unfold bh;rw[CB.2 (by simpa using J),CF.2 (λy z=>by have:=J y z;simp;omega)]
  |succ n ih =>
   intro i K r O Z M J;obtain⟨K,rfl⟩:∃ X,K=X+1:=⟨K-1,by omega⟩;have u:i<t.length:=by omega
   subst M;have a0:(t.take i).length=i:=by rw[CE];omega
   show step (ae step K) _=_;rw[h0 _ _ _ u a0 J];have Y:k x<=k t[i]->bh k x t=t.take i++x::(t.drop i).filter (λy=>decide (k x<k y)):=λhc=>by
    unfold bh;conv=>lhs;rw[<- C0 i t]
    rw[CS,CS,CB.2 (by simpa using J),(CF (l:=t.take i)).2 (λy z=>by have:=J y z;simp;omega),B7];rw[B3 u,CD,if_neg (by simp;omega),CF.2 (λy z=>by have:=H i u y z;simp;omega),B5]
   by_cases hc:k t[i]<k x
   ·rw[if_pos hc];refine ih (i+1) K _ (by omega) (by omega) (by rw[DS,B6 u];rfl) λy z=>?_
    rw[DS,B6 u]at z;rcases CR.1 z with z|z
    ·exact J y z
    ·simp at z;rw[z];exact hc
   ·rw[if_neg hc,Y (by omega),B3 u];by_cases he:k t[i]=k x
    ·rw[if_pos he,r1 n (i+1) K _ (by omega) (by omega) (by simp;omega) (λy z=>by have:=H i u y z;omega),CD,if_neg (by simp;omega),CB.2 (λy z=>by have:=H i u y z;simp;omega)];simp
    ·rw[if_neg he,r1 n (i+1) K _ (by omega) (by omega) (by simp;omega) (λy z=>by have:=H i u y z;omega),CD,if_pos (by simp;omega),CB.2 (λy z=>by have:=H i u y z;simp;omega)];simp
 exact r0 t.length 0 K [] (by omega) Z rfl (by simp)
theorem xL {t:List af}{f:af}(h:∀ g∈t,g.1<f.1):(bj t f).1=t++[f]:=by
 rw[fO (λg r e=>by have:=h g r;omega)];unfold bh;rw[CB.2 (by simpa using h),CF.2 (λy u=>by have:=h y u;simp;omega)]
theorem qb:∀ {fs t:List af},Asc (λf:af=>f.1) fs->(∀ g∈t,∀ f∈fs,g.1<f.1)->cK t fs=t++fs
 |[],t,_,_=>by simp[cK]
 |f::fs,t,y,h=>by
  show cK (bj t f).1 fs=_;rw[xL (λg r=>h g r f (by simp)),qb (B9.1 y).2 ?_]
  ·simp
  ·intro g r e u;rcases CR.1 r with r|r
   ·exact h g r e (by simp[u])
   ·rw[CN.1 r];exact (B9.1 y).1 e u
theorem wn {fs:List af}(h:ax fs):cK [] fs=fs:=by
 rw[qb h.2 (by simp)];rfl
theorem At (K:Nat)(a b:List af)(u:ax a)(r:ax b)(y:1048577<K):Q35.f K (a,b,())=some ((cK a b,()),()):=by
 simp only[Q35.f,Q35.pre];obtain⟨R,I,J⟩:=gw K a (bR u) y;obtain⟨X,H,M⟩:=gw K b (bR r) y;have:=bR u;have:=bR r;rw[I,H,J.2 u,M.2 r];simp only[BQ,BY,cond_false];rw[szb _ _ _ (by omega) (by show (BR ([]:List af))+a.length<=_;simp;omega)];simp only[cond_true,B7];refine oy a b u r.1 (step:=λrec x=>Q35.s0 K (a,b,()) rec x) (λt=>some ((t,()),())) ?_ ?_ (by omega)
 ·intro rec t i O z;simp only[Q35.s0];rw[bi (by omega:(i:Int)<(BR b:Int)),ag O,ar i (by omega)];simp only[cond_true,BQ];rw[wc K t _ (bR z) z.2 y];rfl
 ·intro rec t;simp only[Q35.s0,aN];rfl
theorem pj {me:Int}{l:List bY}(h:de me l)(s:Int):ax (eM l s):=by
 rcases rm (l:=l) (s:=s) with e|⟨x,r,_,e⟩ <;> rw[e]
 ·exact⟨by simp,List.Pairwise.nil⟩
 ·exact (h.1 x r).2.2.2.1
theorem olen {me:Int}{l:List bY}(h:de me l):l.length<=1048576:=CK (iS h.2 λx r=>⟨(h.1 x r).1.1,Cy (h.1 x r).1.2 (by decide)⟩) (by decide)
theorem xM (K:Nat)(n:aa)(s:Int)(t:List af)(h:de n.1 (aa.others n))(r:ax t)(y:1048577<K):Q36.f K (n,s,t,())=some ((cK (eM (aa.others n) s) t,()),()):=by
 have z:=olen h;refine pR (step:=λrec a=>Q36.s0 K (n,s,t,()) rec a) (aa.others n) s (λl=>some ((cK l t,()),())) ?_ ?_ (aa.others n).length 0 K (by omega) (by omega)
 ·intro rec i u;simp only[Q36.s0];rw[bi (by omega:(i:Int)<(BR (aa.others n):Int)),ag u,ar i (by omega)];simp only[cond_true,BQ];cases (aa.others n)[i].1==s with
  |false=>rfl
  |true=>exact (congrArg (λo=>Cg o _) (At K _ t (h.1 _ (BS u)).2.2.2.1 r y)).trans rfl
 ·intro rec;simp only[Q36.s0,aN,cond_false];rw[wn r];refine (congrArg (λb=>bif b then _ else _) (szb (BR ([]:List af)) t.length 32 (by omega) ?_)).trans rfl;have:=bR r;simp;omega
theorem sum_s (K:Nat)(n:aa)(s:Int)(t:List af)(h:de n.1 (aa.others n))(R:1048577<K):Q37.f K (n,s,t,())=some ((nd n (bh (λx:bY=>x.1) (s,t) (aa.others n)),()),()):=by
 have X:=olen h;refine rD (step:=λrec a=>Q37.s0 K (n,s,t,()) rec a) (λx:bY=>x.1) (s,t) (aa.others n) h.2 (λr i=>(r,false,(i:Int))) (λr i=>(r,true,(i:Int))) (λo=>some ((nd n o,()),())) ?_ ?_ ?_ ?_ (by omega)
 ·intro rec r i I H _;simp only[Q37.s0,zcp4,zcp8];rw[bi (by omega:(i:Int)<(BR (aa.others n):Int)),ag I,ar i (by omega)];simp only[cond_true,BQ,CM];have u:=szb r.length 1 32 (by omega) (by omega);have O:=szb (r++[(s,t)]).length 1 32 (by omega) (by simp;omega);generalize (aa.others n)[i]=y at *;by_cases J:y.1<s
  ·rw[if_pos J,show decide (y.1>=s)=false from decide_eq_false (by omega),show (y.1 != s)=true by simp;omega];exact (congrArg (λb=>bif b then _ else _) u).trans rfl
  ·rw[if_neg J,show decide (y.1>=s)=true from decide_eq_true (by omega)];refine (congrArg (λb=>bif b then _ else _) u).trans ?_;by_cases z:y.1=s
   ·rw[if_pos z,show (y.1 != s)=false by simpa using z];rfl
   ·rw[if_neg z,show (y.1 != s)=true by simpa using z];exact (congrArg (λb=>bif b then _ else _) O).trans rfl
 ·intro rec r i I H M;simp only[Q37.s0,zcp4,zcp8];rw[bi (by omega:(i:Int)<(BR (aa.others n):Int)),ag I,ar i (by omega)];simp only[cond_true,BQ,BY,cond_false];have u:=szb r.length 1 32 (by omega) (by omega);rw[show ((aa.others n)[i].1 != s)=true by simp;have:s<_:=M;omega];exact (congrArg (λb=>bif b then _ else _) u).trans rfl
 ·intro rec r H _;simp only[Q37.s0,zcp4,zcp8,aN,cond_false,CM,cond_true];exact (congrArg (λb=>bif b then _ else _) (szb r.length 1 32 (by omega) (by omega))).trans rfl
 ·intro rec r H;simp only[Q37.s0,zcp4,zcp8,aN,cond_false,BY];rfl
theorem zb (K:Nat)(a b:List af)(Z:a.length<=1048576)(X:1048577<K):Q38.f K (a,b,())=rb (decide (a≠b)):=by
 simp only[Q38.f,Q38.pre];by_cases J:a.length=b.length
 ·rw[show ((BR a:Int) != (BR b:Int))=false by simp;omega];have:=ct (step:=λrec x=>Q38.s0 K (a,b,()) rec x) a.length (λi=>(i:Int)) (λj=>∃ (h:j<a.length) (Y:j<b.length),a[j]≠b[j]) (rb false) (λ_=>rb true) ?_ ?_ a.length K 0 (by omega) (by omega)
  ·rcases this with ⟨H,y⟩|⟨j,_,H,⟨z,I,R⟩,_,y⟩
   ·refine (y:Q38.l0 K (a,b,()) 0=_).trans ?_;rw[decide_eq_false];rintro u;exact u (Cq J λi z I=>Ck.1 λO=>H i (CG _) z ⟨z,I,O⟩)
   ·refine (y:Q38.l0 K (a,b,()) 0=_).trans ?_;rw[decide_eq_true];rintro rfl;exact R rfl
  ·intro rec i M;simp only[Q38.s0];rw[bi (by omega:(i:Int)<(BR a:Int)),ag M,ar i (by omega),ag (show i<b.length by omega)];simp only[cond_true,BQ];rw[show Ty.eqv t2 a[i] (b[i]'(by omega))=decide (a[i]=b[i]'(by omega)) from hH _ _];by_cases r:a[i]=b[i]'(by omega)
   ·exact .inl ⟨λ⟨_,_,h⟩=>h r,by rw[decide_eq_true r];rfl⟩
   ·exact .inr ⟨⟨M,by omega,r⟩,by rw[decide_eq_false r];rfl⟩
  ·intro rec;simp only[Q38.s0,aN];rfl
 ·rw[show ((BR a:Int) != (BR b:Int))=true by simp;omega,decide_eq_true (show a≠b from λe=>J (by rw[e]))];rfl
end Go.Proofs.YtadlacffdemoiaaGreatEv
