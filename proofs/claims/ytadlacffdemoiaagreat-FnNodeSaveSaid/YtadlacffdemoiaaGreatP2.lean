/- The marks that a law writes into what was answered, and the look whether they still stand. -/
import Derived.Test.YtadlacffdemoiaaGreatP1
import Derived.Test.YtadlacffdemoiaaGreatE0
import Derived.Laws.Strings
set_option linter.unusedVariables false
set_option linter.unusedSimpArgs false
open Bool renaming not_true->CB,not_false->CO,true_and->Cb,eq_iff_iff->Cd,false_and->Cq,and_self->Cu,and_eq_true->DA,false_or->DC,and_false->DI,true_or->DQ,and_true->Dn,or_true->Do
open ByteArray renaming size_extract->C8
open Classical renaming not_not->C6
open Eq renaming trans->DH
open Go.ByteArray renaming toList_eq->DY
open Go.IntKind renaming wrap_i64->Dh
open Int renaming toNat->B6,toNat_natCast->B7,eq_ofNat_of_zero_le->B8,fdiv->CQ,tmod->Cf,tdiv_eq_ediv_of_nonneg->Ch,le_refl->Cr,tdiv->DD,le_trans->DF,toNat_zero->DG,tmod_lt_of_pos->DJ,tmod_eq_emod_of_nonneg->DK,le_of_lt->DP,tmod_nonneg->DU,tdiv_le_self->Di,tdiv_nonneg->Dl
open List renaming length->B4,getElem_mem->B5,length_cons->B9,mem_filter->CA,getElem_of_mem->CC,getElem?_eq_getElem->CD,length_nil->CE,append_nil->CF,length_map->CG,nil_append->CJ,length_append->CK,mem_map->CM,pairwise_cons->CN,reverse_reverse->CP,drop_eq_getElem_cons->CR,pairwise_map->CT,length_filter_le->CU,filter_cons->CV,drop_zero->CW,take_of_length_le->CX,length_take->CY,mem_singleton->Ca,append_assoc->Cc,filter_eq_self->Ce,mem_cons->Cg,pairwise_iff_getElem->Ci,mem_append->Cj,pairwise_append->Ck,take_succ_eq_append_getElem->Cl,reverse_cons->Cm,length_take_le->Cn,length_pos_iff->Co,length_drop->Cp,filter_append->Cs,filter_eq_nil_iff->Ct,getElem?_eq_none->Cv,length_singleton->Cw,replicate->Cy,take_length->Cz,mem_of_find?_eq_some->C0,length_reverse->C3,getElem_take->C4,length_replicate->C9,ext_getElem->DB,map_append->DE,filter_congr->DL,map_cons->DM,drop_length->DN,pairwise_singleton->DO,find?_cons->DR,find?_some->DS,length_set->DT,take_append_drop->DV,set_append_right->DW,mem_of_mem_take->DX,find?_eq_none->DZ,mem_cons_self->Da,getElem_drop->Db,getElem_map->Dc,perm_middle->Dd,cons_append->De,getElem_set->Df,mem_range->Dm,map_nil->Dp
open List.Pairwise renaming filter->Cx
open Nat renaming le_refl->CH,le_trans->CL,zero_le->CS,lt_or_eq_of_le->CZ,mul_le_mul->C5,lt_trichotomy->C7
open Option renaming bind_some->B3,bind->CI,getD_some->Dg,map_some->Dj
open Option.some renaming inj->Dk
namespace Go.Proofs.YtadlacffdemoiaaGreatEv
open Go
theorem lr {α β R:Type}(t:List α)(p:α->Bool)(g:α->β)(n:Nat)(y:List β->Option R){step:(List β×Int->Option R)->List β×Int->Option R}
  (h:∀ (rec:List β×Int->Option R) (r:List β) (i:Nat) (M:i<t.length),r.length<=i->r.length<n->step rec (r,(i:Int))=rec (bif p t[i] then r++[g t[i]] else r,((i+1:Nat):Int)))
  (X:∀ (rec:List β×Int->Option R) (r:List β) (i:Nat),i<t.length->r.length<=i->n<=r.length->step rec (r,(i:Int))=y r)
  (z:∀ (rec:List β×Int->Option R) (r:List β),r.length<=t.length->step rec (r,(t.length:Int))=y r) :
  ∀ (d i k:Nat) (r:List β),i+d=t.length->d<k->r.length<=i->r.length<=n->ae step k (r,(i:Int))=y (r++(((t.drop i).filter p).map g).take (n-r.length)):=by
 intro d;induction d with
 |zero =>
  intro i k r M Z H _;obtain⟨k,rfl⟩:∃ I,k=I+1:=⟨k-1,by omega⟩;have:i=t.length:=by omega
  subst this;show step (ae step k) _=_;rw[z _ _ H];simp
 |succ d J =>
  intro i k r M Z H Y;obtain⟨k,rfl⟩:∃ I,k=I+1:=⟨k-1,by omega⟩;have u:i<t.length:=by omega
  show step (ae step k) _=_;by_cases hc:r.length<n
  ·rw[h _ _ _ u H hc,CR u,CV];cases hp:p t[i] with
   |true =>
    simp only[cond_true,if_true,DM];rw[J (i+1) k _ (by omega) (by omega) (by simp;omega) (by simp;omega)];congr 1;obtain⟨m,O⟩:∃ m,n-r.length=m+1:=⟨n-r.length-1,by omega⟩;rw[O,List.take_succ_cons,Cc];simp only[CK,B9,CE];rw[show n-(r.length+(0+1))=m by omega];rfl
   |false =>
    simp only[cond_false];rw[J (i+1) k _ (by omega) (by omega) (by omega) (by omega)];rfl
  ·rw[X _ _ _ u H (by omega)];rw[show n-r.length=0 by omega];simp
theorem pU {α β R:Type}(t:List α)(p:α->Bool)(g:α->β)(u:List β->Option R){step:(List β×Int->Option R)->List β×Int->Option R}
  (h:∀ (rec:List β×Int->Option R) (r:List β) (i:Nat) (z:i<t.length),r.length<=i->step rec (r,(i:Int))=rec (bif p t[i] then r++[g t[i]] else r,((i+1:Nat):Int)))
  (y:∀ (rec:List β×Int->Option R) (r:List β),r.length<=t.length->step rec (r,(t.length:Int))=u r) {k:Nat} (I:t.length<k) :
  ae step k ([],0)=u ((t.filter p).map g):=by
 have:=lr t p g (t.length+1) u (λrec r i z H _=>h rec r i z H) (λrec r i z H J=>by omega) y t.length 0 k [] (by omega) I (CH _) (by simp);refine this.trans ?_;congr 1;simp only[CJ,CE,CW];exact CX (by have:=CU p t;simp;omega)
theorem dv {e:Ty}{b:Nat}{xs:List e.den}(h:xs.length*b<=140737488355328):fk e b xs=some ((xs,()),()):=by
 unfold fk;rw[decide_eq_true (by simpa[am]using h)];rfl
theorem xw {α β:Type}{xs r:List α}{b:Nat}{x y:β}(h:(xs.length+r.length)*b<=140737488355328):(bif decide ((B4 xs+B4 r)*b<=am) then x else y)=x:=by
 rw[decide_eq_true (by simpa[am]using h)];rfl
theorem qL (K:Nat)(xs:List Int)(n:Int)(H:xs.length<=1048576):Q73.f K (xs,n,())=some ((xs.take n.toNat,()),()):=by
 simp only[Q73.f,Q72.f,B3,Q8.f];obtain⟨c,z,y,u,r⟩:∃ c:Int,(bif decide (0<(bif decide ((xs.length:Int)<n) then (xs.length:Int) else n)) then bif decide ((xs.length:Int)<n) then (xs.length:Int) else n else 0)=c/\0<=c/\c<=xs.length/\xs.take c.toNat=xs.take n.toNat:=by
  by_cases h:(xs.length:Int)<n
  ·rw[decide_eq_true h];simp only[cond_true];by_cases r:0<(xs.length:Int)
   ·rw[decide_eq_true r];refine⟨_,rfl,by simp,by simp,?_⟩;simp only[cond_true];rw[CX (by omega),CX (by omega)]
   ·rw[decide_eq_false r];refine⟨_,rfl,by simp,by simp,?_⟩;have:xs=[]:=List.eq_nil_of_length_eq_zero (by omega);subst this;simp
  ·rw[decide_eq_false h];simp only[cond_false];by_cases r:0<n
   ·rw[decide_eq_true r];exact⟨_,rfl,by simp;omega,by simp;omega,rfl⟩
   ·rw[decide_eq_false r];refine⟨_,rfl,by simp,by simp,?_⟩;simp only[cond_false];rw[show n.toNat=0 by omega];rfl
 rw[z,decide_eq_true y,decide_eq_true u];simp only[DG,CW,decide_true,Cu,cond_true];rw[dv (by
  have:=Cn c.toNat xs;have I:(List.take c.toNat xs).length<=1048576:=by omega
  omega)]
 simp only[B3];rw[r];rfl
theorem qM (K:Nat)(t:List af)(u:af×Unit->Option Bool)(p:af->Bool)(I:t.length<=1048576)(J:1048577<K)(hφ:∀ f∈t,u (f,())=some (p f)) :
  Q234.f K (t,u,())=some (((t.filter p).map (·.1),()),()):=by
 refine pU (step:=λrec a=>Q234.s0 K (t,u,()) rec a) t p (λf=>f.1) (λz=>some ((z,()),())) ?_ ?_ (by omega)
 ·intro rec r i y H;simp only[Q234.s0];rw[bz (by omega:(i:Int)<(B4 t:Int)),ag y,ar i (by omega)];simp only[cond_true,B3];rw[hφ _ (B5 y)];simp only[B3];cases p t[i] with
  |true=>simp only[cond_true];rw[xw (by simp;omega)]
  |false=>rfl
 ·intro rec r _;simp only[Q234.s0,aS];rfl
def iV (f:af):Bool:=f.2.2.2&&f.2.2.1==1
def dW (t:List af):List Int:=((t.filter iV).map (·.1)).take 2
theorem vd (K:Nat)(t:List af)(I:t.length<=1048576)(J:1048577<K):Q207.f K (t,2,())=some ((dW t,()),()):=by
 have:=lr (step:=λrec a=>Q207.s0 K (t,2,()) rec a) t iV (λf=>f.1) 2 (λy=>some ((y,()),())) ?_ ?_ ?_ t.length 0 K [] (by omega) (by omega) (CH _) (by simp)
 ·exact this
 ·intro rec r i u H z;simp only[Q207.s0];rw[bz (by omega:(i:Int)<(B4 t:Int)),ag u,ar i (by omega),decide_eq_true (by omega:(B4 r:Int)<2)];simp only[cond_true,B3,iV];cases t[i].2.2.2 with
  |true =>
   simp only[cond_true,Cb];cases t[i].2.2.1==1 with
   |true=>simp only[cond_true];rw[xw (by simp;omega)]
   |false=>rfl
  |false=>rfl
 ·intro rec r i u H z;simp only[Q207.s0];rw[bz (by omega:(i:Int)<(B4 t:Int)),decide_eq_false (by omega:¬ (B4 r:Int)<2)];rfl
 ·intro rec r _;simp only[Q207.s0,aS];rfl
theorem ve (K:Nat)(t:List af)(r:t.length<=1048576)(u:1048577<K)(y:aw t):Q241.f K (t,2,())=some ((dW t,()),()):=by
 obtain⟨b,z,H⟩:=fU K t r u;simp only[Q241.f];rw[z];simp only[B3,H.2 y,CB,cond_false];rw[qM K t _ iV r u (λf _=>by
  simp only[Q240.f,iV];cases f.2.2.2 <;> rfl)]
 simp only[B3];rw[qL K _ 2 (by have:=CU iV t;simp;omega)];rfl
theorem rE (t:List af):(dW t).length<=2:=by
 unfold dW;exact Cn _ _
def dp (l:List ce)(s:Int):List af:=((l.find? λx=>x.1==s).map (·.2)).getD []
theorem pV {R:Type}(l:List ce)(s:Int)(r:List af->Option R){step:(Int->Option R)->Int->Option R}
  (h:∀ (rec:Int->Option R) (i:Nat) (H:i<l.length),step rec (i:Int)=bif l[i].1==s then r l[i].2 else rec ((i+1:Nat):Int))
  (u:∀ rec:Int->Option R,step rec (l.length:Int)=r []) :
  ∀ (d i k:Nat),i+d=l.length->d<k->ae step k (i:Int)=r (dp (l.drop i) s):=by
 intro d;induction d with
 |zero =>
  intro i k H I;obtain⟨k,rfl⟩:∃ z,k=z+1:=⟨k-1,by omega⟩;have:i=l.length:=by omega
  subst this;show step (ae step k) _=_;rw[u];simp[dp]
 |succ d J =>
  intro i k H I;obtain⟨k,rfl⟩:∃ z,k=z+1:=⟨k-1,by omega⟩;have y:i<l.length:=by omega
  show step (ae step k) _=_;rw[h _ _ y,CR y];simp only[dp,DR];cases l[i].1==s with
  |true=>rfl
  |false=>exact J (i+1) k (by omega) (by omega)
theorem vf (K:Nat)(n:aa)(s:Int)(r:NB n)(z:1048577<K):Q66.f K (n,s,())=some ((dp (aa.others n) s,()),()):=by
 have y:=r.others;refine pV (step:=λrec a=>Q66.s0 K (n,s,()) rec a) (aa.others n) s (λt=>some ((t,()),())) ?_ ?_ (aa.others n).length 0 K (by omega) (by omega)
 ·intro rec i u;simp only[Q66.s0];rw[bz (by omega:(i:Int)<(B4 (aa.others n):Int)),ag u,ar i (by omega)];rfl
 ·intro rec;simp only[Q66.s0,aS];rfl
theorem m9 {l:List ce}{s:Int}:dp l s=[]\/∃ x∈l,x.1=s/\dp l s=x.2:=by
 unfold dp;cases h:l.find? λx=>x.1==s with
 |none=>exact .inl rfl
 |some x=>exact .inr ⟨x,C0 h,by simpa using DS h,rfl⟩
def bD {α:Type}(k:α->Int)(x:α)(xs:List α):List α:=xs.filter (λy=>decide (k y<k x))++x::xs.filter (λy=>decide (k x<k y))
theorem rF {α:Type}{k:α->Int}{xs:List α}{v:Int}{m:Nat}(J:m<=xs.length)(I:∀ i,(z:i<xs.length)->i<m->k xs[i]<v)(z:∀ i,(h:i<xs.length)->m<=i->v<=k xs[i]):xs.filter (λy=>decide (k y<v))=xs.take m:=by
 conv=>lhs;rw[<- DV m xs]
 rw[Cs];have r:(xs.take m).filter (λy=>decide (k y<v))=xs.take m:=by
  rw[Ce];intro y u;obtain⟨i,r,rfl⟩:=CC u;rw[CY]at r;rw[C4];exact decide_eq_true (I i (by omega) (by omega))
 have H:(xs.drop m).filter (λy=>decide (k y<v))=[]:=by
  rw[Ct];intro y u;obtain⟨i,r,rfl⟩:=CC u;rw[Cp]at r;rw[Db];have:=z (m+i) (by omega) (by omega);simp only[decide_eq_true_eq];omega
 rw[r,H,CF]
theorem rG {α:Type}{k:α->Int}{xs:List α}{v:Int}{m:Nat}(J:m<=xs.length)(I:∀ i,(z:i<xs.length)->i<m->k xs[i]<=v)(z:∀ i,(h:i<xs.length)->m<=i->v<k xs[i]):xs.filter (λy=>decide (v<k y))=xs.drop m:=by
 conv=>lhs;rw[<- DV m xs]
 rw[Cs];have r:(xs.take m).filter (λy=>decide (v<k y))=[]:=by
  rw[Ct];intro y u;obtain⟨i,r,rfl⟩:=CC u;rw[CY]at r;rw[C4];have:=I i (by omega) (by omega);simp only[decide_eq_true_eq];omega
 have H:(xs.drop m).filter (λy=>decide (v<k y))=xs.drop m:=by
  rw[Ce];intro y u;obtain⟨i,r,rfl⟩:=CC u;rw[Cp]at r;rw[Db];exact decide_eq_true (z (m+i) (by omega) (by omega))
 rw[r,H,CJ]
theorem iF {α:Type}{k:α->Int}{xs:List α}{x:α}{m:Nat}(h:Asc k xs)(H:m<xs.length)(e:k xs[m]=k x):xs.set m x=bD k x xs:=by
 have J:=cI.1 h;have M:∀ i,(u:i<xs.length)->i<m->k xs[i]<k x:=λi u y=>by rw[<- e];exact J i m u H y
 have I:∀ i,(u:i<xs.length)->m<i->k x<k xs[i]:=λi u y=>by rw[<- e];exact J m i H u y
 rw[bD,rF (m:=m) (by omega) M (λi u r=>by
   rcases CZ r with z|z
   ·exact DP (I i u z)
   ·subst z;omega),
  rG (m:=m+1) (by omega) (λi u r=>by
   rcases CZ (Nat.le_of_lt_succ r) with z|z
   ·exact DP (M i u z)
   ·subst z;omega) (λi u r=>I i u r),
  List.set_eq_take_append_cons_drop,if_pos H]
theorem gI {α:Type}{k:α->Int}{xs:List α}{x:α}{m:Nat}(H:m<=xs.length)(z:∀ i,(y:i<xs.length)->i<m->k xs[i]<k x)(y:∀ i,(h:i<xs.length)->m<=i->k x<k xs[i]):xs.take m++[x]++xs.drop m=bD k x xs:=by
 rw[bD,rF H z (λi r u=>DP (y i r u)),rG H (λi r u=>DP (z i r u)) y,Cc];rfl
theorem aW {α:Type}{k:α->Int}{xs:List α}{x y:α}:y∈bD k x xs<->y=x\/(y∈xs/\k y≠k x):=by
 simp only[bD,Cj,Cg,CA,decide_eq_true_eq];constructor
 ·rintro (⟨r,u⟩|rfl|⟨r,u⟩)
  ·exact .inr ⟨r,by omega⟩
  ·exact .inl rfl
  ·exact .inr ⟨r,by omega⟩
 ·rintro (rfl|⟨r,u⟩)
  ·exact .inr (.inl rfl)
  ·rcases Int.lt_or_gt_of_ne u with z|z
   ·exact .inl ⟨r,z⟩
   ·exact .inr (.inr ⟨r,z⟩)
theorem fE {α:Type}{k:α->Int}{xs:List α}{x:α}(h:Asc k xs):Asc k (bD k x xs):=by
 unfold Asc bD;rw[Ck,CN];refine⟨h.filter _,⟨λy u=>?_,h.filter _⟩,λy u z r=>?_⟩
 ·simpa using (CA.1 u).2
 ·have H:k y<k x:=by simpa using (CA.1 u).2
  rcases Cg.1 r with rfl|r
  ·exact H
  ·have I:k x<k z:=by simpa using (CA.1 r).2
   omega
theorem zd {α:Type}{k:α->Int}{xs:List α}{x:α}:(bD k x xs).length<=xs.length+1:=by
 have:∀ l:List α,(l.filter (λy=>decide (k y<k x))).length+(l.filter (λy=>decide (k x<k y))).length<=l.length:=by
  intro l;induction l with
  |nil=>simp
  |cons y l u =>
   simp only[CV,B9];by_cases r:k y<k x
   ·rw[if_pos (decide_eq_true r),if_neg (by simp;omega)];simp only[B9];omega
   ·rw[if_neg (by simpa using r)];split <;> (try simp only[B9]) <;> omega
 have:=this xs;simp only[bD,CK,B9];omega
theorem pg {α:Type}{k:α->Int}{xs:List α}(h:Asc k xs){i:Nat}(u:i<xs.length){v:Int}(e:k xs[i]=v):xs.find? (λy=>k y==v)=some xs[i]:=by
 cases r:xs.find? (λy=>k y==v) with
 |none =>
  have:=DZ.1 r xs[i] (B5 u);simp[e]at this
 |some y =>
  have z:k y=v:=by simpa using DS r
  obtain⟨j,H,rfl⟩:=CC (C0 r);have:=pb h H u (by rw[z,e]);subst this;rfl
theorem od {α:Type}{k:α->Int}{xs:List α}{v:Int}(h:∀ y∈xs,k y≠v):xs.find? (λy=>k y==v)=none:=by
 rw[DZ];intro y r;simpa using h y r
def ko {α:Type}(k:α->Int)(x:α):Bool->List α->List α
 |d,[]=>bif d then [] else [x]
 |d,y::r=>(bif !d&&decide (k x<=k y) then [x] else [])++((bif k y != k x then [y] else [])++ko k x (d||decide (k x<=k y)) r)
theorem pW {α:Type}{k:α->Int}{x:α}:∀ {r:List α},(∀ y∈r,k x<k y)->ko k x true r=r
 |[],_=>rfl
 |y::r,h=>by
  have H:=h y (by simp);simp only[ko,CB,Cq,cond_false,DQ,CJ];rw[pW (λz u=>h z (by simp[u])),show (k y != k x)=true by simp;omega];rfl
theorem lu {α:Type}{k:α->Int}{x:α}:∀ {xs:List α},Asc k xs->ko k x false xs=bD k x xs
 |[],_=>rfl
 |y::r,h=>by
  have O:Asc k r:=(CN.1 h).2;have H:∀ z∈r,k y<k z:=(CN.1 h).1;simp only[ko,CO,Cb,DC];by_cases I:k x<=k y
  ·rw[decide_eq_true I,pW (λz u=>by have:=H z u;omega)];simp only[cond_true,bD,CV];have M:r.filter (λz=>decide (k z<k x))=[]:=by
    rw[Ct];intro z u;have:=H z u;simp;omega
   have R:r.filter (λz=>decide (k x<k z))=r:=by
    rw[Ce];intro z u;have:=H z u;simp;omega
   rw[M,R,if_neg (by simp;omega)];by_cases J:k y=k x
   ·rw[if_neg (by simp;omega),show (k y != k x)=false by simpa using J];rfl
   ·rw[if_pos (by simp;omega),show (k y != k x)=true by simpa using J];rfl
  ·rw[decide_eq_false I,lu O,show (k y != k x)=true by simp;omega];simp only[cond_false,cond_true,bD,CV,CJ];rw[if_pos (by simp;omega),if_neg (by simp;omega)];rfl
theorem tn {α A R:Type}(k:α->Int)(x:α)(t:List α)(q:α->Bool)(O:Option R)(y:List α->Option R)(S:List α->Bool->Nat->A){step:(A->Option R)->A->Option R}
  (h:∀ (rec:A->Option R) (r:List α) (d:Bool) (i:Nat) (Y:i<t.length),r.length<=i+1->(d=false->r.length<=i)->step rec (S r d i)=bif q t[i] then O else rec (S ((r++(bif !d&&decide (k x<=k t[i]) then [x] else []))++(bif k t[i] != k x then [t[i]] else [])) (d||decide (k x<=k t[i])) (i+1)))
  (H:∀ (rec:A->Option R) (r:List α) (d:Bool),r.length<=t.length+1->(d=false->r.length<=t.length)->step rec (S r d t.length)=y (r++(bif d then [] else [x]))) :
  ∀ (n i K:Nat) (r:List α) (d:Bool),i+n=t.length->n<K->r.length<=i+1->(d=false->r.length<=i)->ae step K (S r d i)=bif (t.drop i).any q then O else y (r++ko k x d (t.drop i)):=by
 intro n;induction n with
 |zero =>
  intro i K r d Y hK J z;obtain⟨K,rfl⟩:∃ M,K=M+1:=⟨K-1,by omega⟩;have:i=t.length:=by omega
  subst this;show step (ae step K) _=_;rw[H _ _ _ J z,DN];rfl
 |succ n Z =>
  intro i K r d Y hK J z;obtain⟨K,rfl⟩:∃ M,K=M+1:=⟨K-1,by omega⟩;have u:i<t.length:=by omega
  show step (ae step K) _=_;rw[h _ _ _ _ u J z,CR u,List.any_cons];cases hq:q t[i] with
  |true=>rfl
  |false =>
   simp only[cond_false,DC,ko];rw[Z (i+1) K _ _ (by omega) (by omega) ?_ ?_]
   ·simp only[Cc]
   ·cases d with
    |true =>
     simp only[CB,Cq,cond_false,CF];cases k t[i] != k x <;> simp <;> omega
    |false =>
     have:=z rfl;cases X:decide (k x<=k t[i]) <;> cases k t[i] != k x <;> simp <;> omega
   ·intro I;rw[Bool.or_eq_false_iff]at I;obtain⟨rfl,X⟩:=I;have:=z rfl;rw[X];cases k t[i] != k x <;> simp <;> omega
theorem uD (K:Nat)(n:aa)(u:NB n)(y:1048577<K):∃ b,Q113.f K (n,())=rb b/\Q50.f K (n,())=rb b/\(b=true<->gu n):=by
 obtain⟨b,z,r⟩:=tm K n u y;obtain⟨H,I,J⟩:=ju K n u y;have:b=H:=by rw[Cd,r,J]
 subst this;exact⟨b,z,I,r⟩
theorem gu.up {n:aa}(h:gu n)(r:n.2.1=true):UpP n:=by
 have:=h.2.2.2.2.2
 rwa [if_pos r]at this
abbrev an:=Int×Int×Int×Int×Int×Int×dJ×List af
abbrev an.table (w:an):List af:=w.2.2.2.2.2.2.2
abbrev an.coord (w:an):dJ:=w.2.2.2.2.2.2.1
def mp:List af->Prop
 |[]=>False
 |f::l=>bV (f::l) (aj f.1)
def ft (w:an):Prop:=InP w.1 1 2/\InP w.2.1 1 6/\InP w.2.2.1 0 7/\InP w.2.2.2.1 0 7/\InP w.2.2.2.2.1 0 999999/\InP w.2.2.2.2.2.1 0 7/\cN (an.coord w)/\aw (an.table w) /\
 (if w.2.1=6 then mp (an.table w) else bV (an.table w) (aj w.2.2.1))
theorem tp (K:Nat)(w:an)(r:(an.table w).length<=1048576)(u:1048577<K):Ret (Q134.f K (w,())) (ft w):=by
 refine Ret.nx (cM K _ _ _) λ_=>Ret.nx (cM K _ _ _) λ_=>Ret.nx (cM K _ _ _) λ_=>Ret.nx (cM K _ _ _) λ_=>Ret.nx (cM K _ _ _) λ_=>Ret.nx (cM K _ _ _) λ_=>Ret.nx (iT K _) λ_=>Ret.nx (gF K _ r u) λ_=>?_
 dsimp only;by_cases h:w.2.1=6
 ·rw[show (w.2.1==6)=true by simpa using h,if_pos h];obtain⟨w1,w2,w3,w4,w5,z,y,t⟩:=w;cases t with
  |nil=>exact Ret.no (λh=>h)
  |cons f l =>
   rw[show decide ((B4 (f::l):Int)>0)=true from decide_eq_true (by simp only[B9];omega)];simp only[cond_true];exact Ret.vl (ag (xs:=f::l) (i:=0) (by simp)) (gG K _ _ r u).id
 ·rw[show (w.2.1==6)=false by simpa using h,if_neg h];exact (gG K _ _ r u).id
theorem ze (K:Nat)(w:an)(r:(an.table w).length<=1048576)(u:1048577<K):Ret (Q51.f K (w,())) (ft w):=by
 refine Ret.iff (Q:=ft w) (Ret.nx (eP K _ _ _) λ_=>Ret.nx (eP K _ _ _) λ_=>Ret.nx (jt K _) λ_=>Ret.nx (jt K _) λ_=>Ret.nx (jt K _) λ_=>Ret.nx (eP K _ _ _) λ_=>Ret.nx (oa K _) λ_=>Ret.nx (fU K _ r u)
  (Q:=if w.2.1=6 then mp (an.table w) else bV (an.table w) (aj w.2.2.1)) λ_=>?_) ?_
 ·dsimp only;by_cases h:w.2.1=6
  ·rw[show (w.2.1==6)=true by simpa using h,if_pos h];obtain⟨w1,w2,w3,w4,w5,z,y,t⟩:=w;cases t with
   |nil=>exact Ret.no (λh=>h)
   |cons f l =>
    rw[show decide ((B4 (f::l):Int)>0)=true from decide_eq_true (by simp only[B9];omega)];simp only[cond_true];exact Ret.vl (ag (xs:=f::l) (i:=0) (by simp)) (Ret.vl (m7 K _) (kJ K _ _ r u).id)
  ·rw[show (w.2.1==6)=false by simpa using h,if_neg h];simp only[cond_false];exact Ret.vl (m7 K _) (kJ K _ _ r u).id
 ·unfold ft;constructor
  ·rintro⟨h1,h2,h3,h4,h5,h6,h7,h8,h9⟩;exact⟨h1,h2,h3,h4,h6,h5,h7,h8,h9⟩
  ·rintro⟨h1,h2,h3,h4,h6,h5,h7,h8,h9⟩;exact⟨h1,h2,h3,h4,h5,h6,h7,h8,h9⟩
theorem iW {α A R:Type}(xs:List α)(S:List α->Nat->A)(r:Option R){step:(A->Option R)->A->Option R}
  (h:∀ (rec:A->Option R) (u:List α) (i:Nat) (z:i<xs.length),u.length=i->step rec (S u i)=rec (S (u++[xs[i]]) (i+1))) (y:∀ rec:A->Option R,step rec (S xs xs.length)=r) {k:Nat} (H:xs.length<k):ae step k (S [] 0)=r:=by
 refine oc (step:=step) xs.length (λi=>S (xs.take i) i) r ?_ ?_ H
 ·intro rec i z;show step rec (S (xs.take i) i)=rec (S (xs.take (i+1)) (i+1));rw[h rec (xs.take i) i z (by simp;omega),Cl z]
 ·intro rec;show step rec (S (xs.take xs.length) xs.length)=r;rw[Cz];exact y rec
theorem szb (a b c:Nat)(r:c<=64)(h:a+b<=2097152):decide ((a+b)*c<=am)=true:=by
 have:=C5 h r;exact decide_eq_true (by unfold am;omega)
theorem xx (K:Nat)(n:aa)(u:NB n)(R:1048577<K):Q119.f K (n,())=some ((n,()),()):=by
 have O:=u.table;have I:=u.cast;have J:=u.doubts;have H:=u.places;have M:=u.others;simp only[Q119.f,Q119.pre];rw[szb _ _ _ (by omega) (by show (B4 ([]:List af))+(aa.table n).length<=_;simp;omega),szb _ _ _ (by omega) (by show (B4 ([]:List aM))+(aa.cast n).length<=_;simp;omega)];simp only[cond_true];refine iW (aa.doubts n) (step:=λrec a=>Q119.s0 K (n,()) (Q119.l1 K (n,())) rec a) (λr i=>((i:Int),r)) _ ?_ ?_ (by omega)
 ·intro rec r i y z;have:=u.by_ _ (B5 y);simp only[Q119.s0];rw[bz (by omega:(i:Int)<(B4 (aa.doubts n):Int)),ag y,ar i (by omega)];simp only[cond_true,B3];rw[szb _ _ _ (by omega) (by simp;omega),szb _ _ _ (by omega) (by simp;omega)];rfl
 ·intro rec;simp only[Q119.s0,aS,cond_false];refine iW (aa.places n) (step:=λrec a=>Q119.s1 K (n,()) (Q119.l2 K (n,())) rec a) (λr i=>((i:Int),aa.doubts n,r)) _ ?_ ?_ (by omega)
  ·intro rec r i y z;have:=u.trips _ (B5 y);simp only[Q119.s1];rw[bz (by omega:(i:Int)<(B4 (aa.places n):Int)),ag y,ar i (by omega)];simp only[cond_true,B3];rw[szb _ _ _ (by omega) (by simp;omega),szb _ _ _ (by omega) (by simp;omega)];rfl
  ·intro rec;simp only[Q119.s1,aS,cond_false];refine iW (aa.others n) (step:=λrec a=>Q119.s2 K (n,()) rec a) (λr i=>((i:Int),aa.doubts n,aa.places n,r)) _ ?_ ?_ (by omega)
   ·intro rec r i y z;have:=u.facts _ (B5 y);simp only[Q119.s2,zcp8];rw[bz (by omega:(i:Int)<(B4 (aa.others n):Int)),ag y,ar i (by omega)];simp only[cond_true,B3];rw[szb _ _ _ (by omega) (by simp;omega),szb _ _ _ (by omega) (by simp;omega)];rfl
   ·intro rec;simp only[Q119.s2,zcp8,aS,cond_false];rfl
theorem tq (K:Nat)(n:aa)(u:NB n)(R:1048577<K):Q94.f K (n,())=some ((n,()),()):=by
 have O:=u.table;have I:=u.cast;have J:=u.doubts;have H:=u.places;have M:=u.others;simp only[Q94.f,Q94.pre];refine iW (aa.doubts n) (step:=λrec a=>Q94.s0 K (n,()) (Q94.l1 K (n,())) rec a) (λr i=>(r,(i:Int))) _ ?_ ?_ (by omega)
 ·intro rec r i y z;have:=u.by_ _ (B5 y);simp only[Q94.s0,Q8.f];rw[bz (by omega:(i:Int)<(B4 (aa.doubts n):Int)),ag y,ar i (by omega)];simp only[cond_true,B3];rw[dv (by omega)];simp only[B3];rw[szb _ _ _ (by omega) (by simp;omega)];rfl
 ·intro rec;simp only[Q94.s0,aS,cond_false];refine iW (aa.places n) (step:=λrec a=>Q94.s1 K (n,()) (Q94.l2 K (n,())) rec a) (λr i=>(aa.doubts n,r,(i:Int))) _ ?_ ?_ (by omega)
  ·intro rec r i y z;have:=u.trips _ (B5 y);simp only[Q94.s1,Q8.f];rw[bz (by omega:(i:Int)<(B4 (aa.places n):Int)),ag y,ar i (by omega)];simp only[cond_true,B3];rw[dv (by omega)];simp only[B3];rw[szb _ _ _ (by omega) (by simp;omega)];rfl
  ·intro rec;simp only[Q94.s1,aS,cond_false];refine iW (aa.others n) (step:=λrec a=>Q94.s2 K (n,()) rec a) (λr i=>(aa.doubts n,aa.places n,r,(i:Int))) _ ?_ ?_ (by omega)
   ·intro rec r i y z;have:=u.facts _ (B5 y);simp only[Q94.s2,zcp8,Q0.f];rw[bz (by omega:(i:Int)<(B4 (aa.others n):Int)),ag y,ar i (by omega)];simp only[cond_true,B3];rw[dv (by omega)];simp only[B3];rw[szb _ _ _ (by omega) (by simp;omega)];rfl
   ·intro rec;simp only[Q94.s2,zcp8,aS,cond_false,Q0.f,Q2.f];rw[dv (by show (aa.table n).length*_<=_;omega),dv (by show (aa.cast n).length*_<=_;omega)];rfl
instance (f g:af):Decidable (bM f g):=by unfold bM;infer_instance
theorem pX (K:Nat)(f g:af):Q106.f K (f,g,())=rb (decide (bM f g)):=by
 obtain⟨b,r,u⟩:=tk K f g;rw[r,show b=decide (bM f g) by rw[Cd,u];simp]
def bY (t:List af)(f:af):List af×Bool :=
 match t.find? (λg=>g.1==f.1) with
 |some g=>if bM f g then (bD (λg=>g.1) f t,true) else (t,false)
 |none=>(bD (λg=>g.1) f t,true)
theorem kK {t:List af}{f:af}(r:Asc (λg:af=>g.1) t){i:Nat}(u:i<t.length)(e:t[i].1=f.1):bY t f=if bM f t[i] then (bD (λg=>g.1) f t,true) else (t,false):=by
 unfold bY;rw[show t.find? (λg=>g.1==f.1)=some t[i] from pg r u e]
theorem iG {t:List af}{f:af}(h:∀ g∈t,g.1≠f.1):bY t f=(bD (λg=>g.1) f t,true):=by
 unfold bY;rw[show t.find? (λg=>g.1==f.1)=none from od h]
theorem jS {e:Ty}{b:Nat}{xs:List e.den}{m:Nat}{v:e.den}(y:m<=xs.length)(r:b<=64)(u:xs.length<=1048576):ge e b xs (m:Int) [v]=some ((xs.take m++[v]++xs.drop m,()),()):=by
 unfold ge;have:(xs.length+[v].length)*b<=140737488355328:=CL (C5 (show xs.length+[v].length<=1048577 by simp;omega) r) (by decide);rw[if_pos ⟨by omega,by omega,by simp,by simpa only[am]using this⟩,B7]
theorem rH {e:Ty}{xs:List e.den}{u:e.den×Unit->Option Bool}(p:e.den->Bool)(z:xs.length<=1048576)(h:∀ x∈xs,u (x,())=some (p x)):gZ e xs u=some ((xs.filter (λx=>!p x),()),()):=by
 have:∀ r:List e.den,(∀ x∈r,u (x,())=some (p x))->mh u r=some (r.filter (λx=>!p x)):=by
  intro r;induction r with
  |nil=>intro _;rfl
  |cons y r H =>
   intro h;simp only[mh,h y (by simp),B3,H (λx z=>h x (by simp[z])),Dj,CV];cases p y <;> rfl
 unfold gZ;rw[if_pos z,this xs h];rfl
theorem put_s (K:Nat)(t:List af)(f:af)(ht:t.length<=1048576)(O:Asc (λg:af=>g.1) t)(hK:1048577<K):Q136.f K (t,f,())=some (((bY t f).1,(bY t f).2,()),()):=by
 simp only[Q136.f,Q136.pre];obtain⟨o,H,I⟩:=fP K t f.1 ht hK;rw[I];simp only[B3];cases H with
 |at_ i r e =>
  simp only;rw[kK O r e,decide_eq_true (by omega:((i:Nat):Int)>=0),ag r];simp only[cond_true,B3];rw[show Q106.f K (f,t[i],())=_ from pX K f t[i]];simp only[B3];by_cases H:bM f t[i]
  ·rw[decide_eq_true H,if_pos H];simp only[CB,cond_false];rw[szb _ _ _ (by omega) (by show (B4 ([]:List af))+t.length<=_;simp;omega)];simp only[cond_true,CJ,ag r,B3,B7];rw[iF (k:=λg:af=>g.1) O r e]
  ·rw[decide_eq_false H,if_neg H];rfl
 |no h =>
  simp only;rw[iG h,decide_eq_false (by omega:¬ (-1:Int)>=0)];simp only[cond_false];have J:∀ m:Nat,m<=t.length->(bif decide ((0:Int)<=0)&&decide ((0:Int)<=(m:Int))&&decide ((m:Int)<=(B4 t:Int))&&true then (bif decide ((B4 ([]:List af)+B4 ((t.take (B6 (m:Int))).drop (B6 0)))*32<=am) then (bif decide ((B4 ([]++((t.take (B6 (m:Int))).drop (B6 0)))+B4 ([f]))*32<=am) then (bif decide ((0:Int)<=(m:Int))&&decide ((m:Int)<=(B4 t:Int))&&decide ((B4 t:Int)<=(B4 t:Int))&&true then (bif decide ((B4 (([]++((t.take (B6 (m:Int))).drop (B6 0)))++([f]))+B4 ((t.take (B6 (B4 t:Int))).drop (B6 (m:Int))))*32<=am) then (some (((([]++((t.take (B6 (m:Int))).drop (B6 0)))++([f]))++((t.take (B6 (B4 t:Int))).drop (B6 (m:Int))),true,()),())) else none) else none) else none) else none) else (none:Option ((List af×Bool×Unit)×Unit)))=some ((t.take m++[f]++t.drop m,true,()),()):=by
   intro m X;rw[decide_eq_true (by omega:(0:Int)<=0),decide_eq_true (by omega:(0:Int)<=(m:Int)),decide_eq_true (by omega:(m:Int)<=(B4 t:Int)),decide_eq_true (by omega:(B4 t:Int)<=(B4 t:Int))];simp only[B7,DG,CW,CJ,Cz,Cu,cond_true];have I:(t.take m).length=m:=by rw[CY];omega
   have z:(t.drop m).length=t.length-m:=Cp;rw[szb _ _ _ (by omega) (by simp only[CE];omega),szb _ _ _ (by omega) (by simp only[B9,CE];omega),szb _ _ _ (by omega) (by simp only[CK,B9,CE];omega)];rfl
  have:=bL (step:=λrec a=>Q136.s0 K (t,f,()) rec a) t.length (λi=>(i:Int)) (λj=>∃ h:j<t.length,¬ t[j].1<f.1) (some ((t.take t.length++[f]++t.drop t.length,true,()),())) (λj=>some ((t.take j++[f]++t.drop j,true,()),())) ?_ ?_ t.length K 0 (by omega) (by omega)
  ·have M:∀ m,m<=t.length->(∀ i,(r:i<t.length)->i<m->t[i].1<f.1)->(∀ i,(r:i<t.length)->m<=i->f.1<t[i].1)->t.take m++[f]++t.drop m=bD (λg=>g.1) f t:=λm X Y r=>gI (k:=λg:af=>g.1) X Y r
   rcases this with ⟨I,z⟩|⟨j,_,I,⟨h3,h4⟩,h5,z⟩
   ·rw[M t.length (CH _) (λi r _=>by
     have:=I i (CS _) r;exact C6.1 λh=>this ⟨r,h⟩) (λi r h=>by omega)]at z
    exact z
   ·rw[M j (by omega) (λi r y=>by
     have:=h5 i (CS _) y;exact C6.1 λh=>this ⟨r,h⟩) (λi r y=>by
     have Z:=h t[i] (B5 r);rcases CZ y with R|R
     ·have:=cI.1 O j i h3 r R;omega
     ·subst R;omega)]at z
    exact z
  ·intro rec i r;simp only[Q136.s0];rw[bz (by omega:(i:Int)<(B4 t:Int)),ag r,ar i (by omega)];simp only[cond_true,B3];by_cases u:t[i].1<f.1
   ·exact .inl ⟨λ⟨_,h⟩=>h u,by rw[decide_eq_true u];rfl⟩
   ·exact .inr ⟨⟨r,u⟩,by rw[decide_eq_false u];exact J i (by omega)⟩
  ·intro rec;simp only[Q136.s0,aS,cond_false];exact J t.length (CH _)
theorem vY (K:Nat)(t:List af)(f:af)(R:t.length<=1048576)(y:Asc (λg:af=>g.1) t)(X:1048577<K):Q54.f K (t,f,())=some (((bY t f).1,(bY t f).2,()),()):=by
 simp only[Q54.f,Q0.f,Q1.f];rw[dv (by omega)];simp only[B3];obtain⟨m,r,Y⟩:=tj K t f.1 R y X;rw[Y];simp only[B3];by_cases M:∃ h:m<t.length,t[m].1=f.1
 ·obtain⟨I,z⟩:=M;rw[decide_eq_true ⟨I,z⟩,kK y I z];simp only[CB,cond_false,ag I,B3,B7];rw[m8 K f t[m] X];simp only[B3];by_cases J:bM f t[m]
  ·rw[decide_eq_true ((jQ z.symm).2 J),if_pos J,iF (k:=λg:af=>g.1) y I z];rfl
  ·rw[decide_eq_false (λh=>J ((jQ z.symm).1 h)),if_neg J];rfl
 ·rw[decide_eq_false M,iG (λg Z e=>by
   obtain⟨i,u,rfl⟩:=CC Z;rcases C7 i m with h|h|h
   ·have:=r.lo i u h;omega
   ·subst h;exact M ⟨u,e⟩
   ·have h5:=r.hi m (by omega) (CH _);have O:=cI.1 y m i (by omega) u h;omega)]
  simp only[CO,cond_true];rw[jS r.le (by omega) R];simp only[B3];rw[gI (k:=λg:af=>g.1) r.le r.lo (λi u H=>by
   have:=r.hi i u H;rcases CZ H with O|O
   ·have h5:=r.hi m (by omega) (CH _);have h7:=cI.1 y m i (by omega) u O;omega
   ·subst O;have:t[m].1≠f.1:=λe=>M ⟨u,e⟩
    omega)]
def dB (l:List aM)(f:af):List aM:=if ∃ x∈l,x.1.1=f.1/\¬ bM f x.1 then l else bD (λx=>x.1.1) (f,4) l
theorem uE {l:List aM}{f:af}:dB l f=bif l.any (λx=>x.1.1==f.1&&!decide (bM f x.1)) then l else bD (λx=>x.1.1) (f,4) l:=by
 unfold dB;have:(∃ x∈l,x.1.1=f.1/\¬ bM f x.1)<->l.any (λx=>x.1.1==f.1&&!decide (bM f x.1))=true:=by
  rw[List.any_eq_true];simp
 by_cases h:∃ x∈l,x.1.1=f.1/\¬ bM f x.1
 ·rw[if_pos h,this.1 h];rfl
 ·rw[if_neg h,show l.any (λx=>x.1.1==f.1&&!decide (bM f x.1))=false by rw[Bool.eq_false_iff];exact λr=>h (this.2 r)];rfl
theorem Aq (K:Nat)(l:List aM)(f:af)(X:l.length<=1048576)(M:Asc (λx:aM=>x.1.1) l)(Y:1048577<K):Q137.f K (l,f,())=some ((dB l f,()),()):=by
 have:=tn (step:=λrec a=>Q137.s0 K (l,f,()) rec a) (λx:aM=>x.1.1) (f,4) l (λx=>x.1.1==f.1&&!decide (bM f x.1)) (some ((l,()),())) (λI=>some ((I,()),())) (λr d i=>(r,d,(i:Int))) ?_ ?_ l.length 0 K [] false (by omega) (by omega) (by simp) (by simp)
 ·refine DH (this:Q137.f K (l,f,())=_) ?_;rw[CW,uE,lu M];cases l.any (λx=>x.1.1==f.1&&!decide (bM f x.1)) <;> rfl
 ·intro rec r d i R J H;simp only[Q137.s0];rw[bz (by omega:(i:Int)<(B4 l:Int)),ag R,ar i (by omega)];simp only[cond_true,B3];have u:decide ((r.length+[((f,4):af×Nat)].length)*40<=am)=true:=szb _ _ _ (by omega) (by simp;omega);have O:decide (((r++[((f,4):aM)]).length+[l[i]].length)*40<=am)=true:=szb _ _ _ (by omega) (by simp;omega);have z:decide ((r.length+[l[i]].length)*40<=am)=true:=szb _ _ _ (by omega) (by simp;omega);by_cases y:l[i].1.1=f.1
  ·rw[show (l[i].1.1==f.1)=true by simpa using y,show (l[i].1.1 != f.1)=false by simpa using y,show decide (f.1<=l[i].1.1)=true from decide_eq_true (by omega)];simp only[cond_true,cond_false,Cb,Dn,Do,CF];rw[show Q106.f K (f,l[i].1,())=_ from pX K f l[i].1];simp only[B3];cases decide (bM f l[i].1) with
   |false=>rfl
   |true =>
    simp only[CB,cond_false];cases d with
    |true=>simp only[CB,cond_false,CF]
    |false =>
     simp only[CO,cond_true];rw[u];rfl
  ·rw[show (l[i].1.1==f.1)=false by simpa using y,show (l[i].1.1 != f.1)=true by simpa using y];simp only[cond_true,cond_false,Cq];cases d with
   |true =>
    simp only[CB,cond_false,Cq,CF,DQ];rw[z];rfl
   |false =>
    simp only[CO,cond_true,Cb,DC];cases decide (f.1<=l[i].1.1) with
    |true =>
     simp only[cond_true];rw[u];simp only[cond_true];rw[O];rfl
    |false =>
     simp only[cond_false,CF];rw[z];rfl
 ·intro rec r d J H;simp only[Q137.s0,aS];cases d with
  |true=>simp only[CB,cond_false,cond_true,CF]
  |false =>
   have:=H rfl;have u:decide ((r.length+[((f,4):af×Nat)].length)*40<=am)=true:=szb _ _ _ (by omega) (by simp;omega);simp only[CO,cond_true,cond_false];rw[u];rfl
theorem xy (K:Nat)(l:List aM)(f:af)(Z:l.length<=1048576)(O:c5 l)(hf:bu f)(hK:1048577<K):Q56.f K (l,f,())=some ((dB l f,()),()):=by
 simp only[Q56.f,Q2.f,Q3.f];obtain⟨b1,e1,e2⟩:=pe K l Z hK;have a1:=e2.2 O;subst a1;obtain⟨b2,e3,e4⟩:=mo K f;have a2:=e4.2 hf;subst a2;rw[e1];simp only[B3,CB,cond_false];rw[e3];simp only[B3,CB,cond_false];rw[dv (by omega)];simp only[B3];rw[va K l Z hK];simp only[B3];have hA:Asc (λg:af=>g.1) (l.map (·.1)):=by
  have:=O.2;unfold Asc at this ⊢;rw[CT];exact this
 have r:(l.map (·.1)).length=l.length:=CG _;obtain⟨m,hm,h1⟩:=tj K (l.map (·.1)) f.1 (by rw[r];exact Z) hA hK;rw[h1];simp only[B3];have y:∀ i (h:i<l.length),(l.map (·.1))[i]'(by rw[r];exact h)=l[i].1:=λi h=>Dc _
 have I:=hm.le;rw[r]at I;have lo:∀ i,(u:i<l.length)->i<m->l[i].1.1<f.1:=λi u M=>by have:=hm.lo i (by rw[r];exact u) M;rwa [y i u]at this
 have R:∀ i,(u:i<l.length)->m<=i->f.1<=l[i].1.1:=λi u M=>by have:=hm.hi i (by rw[r];exact u) M;rwa [y i u]at this
 by_cases he:∃ h:m<l.length,l[m].1.1=f.1
 ·obtain⟨z,H⟩:=he;rw[decide_eq_true ⟨by rw[r];exact z,by rw[y m z];exact H⟩];simp only[CB,cond_false,ag z,B3,B7];rw[show Q36.f K (f,l[m].1,())=_ from m8 K f l[m].1 hK];simp only[B3];have a0:∀ x∈l,x.1.1=f.1->x=l[m]:=λx J e=>by
   obtain⟨i,u,rfl⟩:=CC J;have:=pb O.2 u z (by show l[i].1.1=l[m].1.1;rw[e,H]);subst this;rfl
  by_cases Y:bM f l[m].1
  ·rw[decide_eq_true ((jQ H.symm).2 Y),dB,if_neg (λ⟨x,J,e,hn⟩=>hn (by rw[a0 x J e];exact Y)),iF (k:=λx:aM=>x.1.1) (x:=(f,4)) O.2 z H];rfl
  ·rw[decide_eq_false (λh=>Y ((jQ H.symm).1 h)),dB,if_pos ⟨l[m],B5 z,H,Y⟩];rfl
 ·have X:∀ x∈l,x.1.1≠f.1:=λx J e=>by
   obtain⟨i,u,rfl⟩:=CC J;rcases C7 i m with h|h|h
   ·have:=lo i u h;omega
   ·subst h;exact he ⟨u,e⟩
   ·have h5:=R m (by omega) (CH _);have h6:l[m].1.1<l[i].1.1:=cI.1 O.2 m i (by omega) u h;omega
  rw[decide_eq_false (λ⟨z,H⟩=>he ⟨by rw[r]at z;exact z,by rw[y m (by rw[r]at z;exact z)]at H;exact H⟩),dB,if_neg (λ⟨x,J,e,_⟩=>X x J e)];simp only[CO,cond_true];rw[jS I (by omega) Z];simp only[B3];rw[gI (k:=λx:aM=>x.1.1) (x:=(f,4)) I lo (λi u a3=>by
   have h1:=R i u a3;have z:=X l[i] (B5 u);show f.1<l[i].1.1;omega)]
theorem oD {α:Type}{k:α->Int}{x:α}:∀ {r:List α},ko k x true r=r.filter (λy=>k y != k x)
 |[]=>rfl
 |y::r=>by
  simp only[ko,CB,Cq,cond_false,DQ,CJ,CV];rw[oD];cases k y != k x <;> rfl
theorem uF {α:Type}{k:α->Int}{x:α}{xs:List α}:bD k x (xs.filter λy=>!(k y==k x))=bD k x xs:=by
 simp only[bD,List.filter_filter];congr 1
 ·refine DL λy _=>?_
  by_cases h:k y<k x
  ·rw[decide_eq_true h];simp;omega
  ·rw[decide_eq_false h];rfl
 ·congr 1;refine DL λy _=>?_
  by_cases h:k x<k y
  ·rw[decide_eq_true h];simp;omega
  ·rw[decide_eq_false h];rfl
def mkD (r:Int)(f:af)(b:Int):bt:=(f.1,f.2.1,r,[b])
def cD (r:Int)(ds:List bt)(f:af)(b:Int):List bt:=if f.2.2.1=2 then bD (λd=>d.1) (mkD r f b) ds else ds.filter (λd=>!(d.1==f.1))
theorem Ar (K:Nat)(n:aa)(f:af)(b:Int)(X:(aa.doubts n).length<=1048576)(M:Asc (λd:bt=>d.1) (aa.doubts n))(Y:1048577<K) :
  Q138.f K (n,f,b,())=some ((cD n.2.2.2.2.2.1 (aa.doubts n) f b,()),()):=by
 have:=tn (step:=λrec a=>Q138.s0 K (n,f,b,()) rec a) (λd:bt=>d.1) (mkD n.2.2.2.2.2.1 f b) (aa.doubts n) (λ_=>false) none (λH=>some ((H,()),())) (λr d i=>(r,d,(i:Int))) ?_ ?_ (aa.doubts n).length 0 K [] (f.2.2.1 != 2) (by omega) (by omega) (by simp) (by simp)
 ·refine DH (this:Q138.f K (n,f,b,())=_) ?_;rw[CW,show (aa.doubts n).any (λ_=>false)=false by simp,cD];by_cases u:f.2.2.1=2
  ·rw[if_pos u,show (f.2.2.1 != 2)=false by simpa using u,lu M];rfl
  ·rw[if_neg u,show (f.2.2.1 != 2)=true by simpa using u,oD];rfl
 ·intro rec r d i R J z;simp only[Q138.s0];rw[bz (by omega:(i:Int)<(B4 (aa.doubts n):Int)),ag R,ar i (by omega)];simp only[cond_true,cond_false,B3];have y:decide ((r.length+[mkD n.2.2.2.2.2.1 f b].length)*48<=am)=true:=szb _ _ _ (by omega) (by simp;omega);have O:decide (((r++[mkD n.2.2.2.2.2.1 f b]).length+[(aa.doubts n)[i]].length)*48<=am)=true:=szb _ _ _ (by omega) (by simp;omega);have I:decide ((r.length+[(aa.doubts n)[i]].length)*48<=am)=true:=szb _ _ _ (by omega) (by simp;omega);show (bif !d then (bif decide (f.1<=(aa.doubts n)[i].1) then (bif decide ((r.length+[mkD n.2.2.2.2.2.1 f b].length)*48<=am) then (bif (aa.doubts n)[i].1 != f.1 then (bif decide (((r++[mkD n.2.2.2.2.2.1 f b]).length+[(aa.doubts n)[i]].length)*48<=am) then (rec ((r++[mkD n.2.2.2.2.2.1 f b])++[(aa.doubts n)[i]],true,((i+1:Nat):Int))) else none) else (rec (r++[mkD n.2.2.2.2.2.1 f b],true,((i+1:Nat):Int)))) else none) else (bif (aa.doubts n)[i].1 != f.1 then (bif decide ((r.length+[(aa.doubts n)[i]].length)*48<=am) then (rec (r++[(aa.doubts n)[i]],d,((i+1:Nat):Int))) else none) else (rec (r,d,((i+1:Nat):Int))))) else (bif (aa.doubts n)[i].1 != f.1 then (bif decide ((r.length+[(aa.doubts n)[i]].length)*48<=am) then (rec (r++[(aa.doubts n)[i]],d,((i+1:Nat):Int))) else none) else (rec (r,d,((i+1:Nat):Int)))))=rec ((r++(bif !d&&decide (f.1<=(aa.doubts n)[i].1) then [mkD n.2.2.2.2.2.1 f b] else []))++(bif (aa.doubts n)[i].1 != f.1 then [(aa.doubts n)[i]] else []),d||decide (f.1<=(aa.doubts n)[i].1),((i+1:Nat):Int));rw[y,O,I];cases d <;> cases decide (f.1<=(aa.doubts n)[i].1) <;> cases (aa.doubts n)[i].1 != f.1 <;> simp only[CB,CO,Cb,Cq,DQ,DC,cond_true,cond_false,CF]
 ·intro rec r d J z;simp only[Q138.s0,aS];cases d with
  |true=>simp only[CB,cond_false,cond_true,CF]
  |false =>
   have:=z rfl;have y:decide ((r.length+[mkD n.2.2.2.2.2.1 f b].length)*48<=am)=true:=szb _ _ _ (by omega) (by simp;omega);show (bif decide ((r.length+[mkD n.2.2.2.2.2.1 f b].length)*48<=am) then some ((r++[mkD n.2.2.2.2.2.1 f b],()),()) else none)=some ((r++[mkD n.2.2.2.2.2.1 f b],()),());rw[y];rfl
theorem At (K:Nat)(t:List bt)(r:Int)(ht:t.length<=1048576)(I:Asc (λd:bt=>d.1) t)(h7:∀ d∈t,InP d.1 0 7)(X:InP r 0 7)(hK:1048577<K) :
  ∃ m,m<=t.length/\(∀ i,(h:i<t.length)->i<m->t[i].1<r)/\(∀ i,(h:i<t.length)->m<=i->r<=t[i].1)/\∃ b,Q59.f K (t,r,(λz=>(Q60.f K (z.1,z.2.1,())).map λy=>y.1.1),())=some ((((m:Nat):Int),b,()),()):=by
 let ks:Nat->Int:=λi=>if h:i<t.length then t[i].1 else 0
 have u:∀ i (h:i<t.length),ks i=t[i].1:=λi h=>by simp[ks,h]
 let H:Nat->Option ((Int×Bool×Unit)×Unit):=λm=>some ((((m:Nat):Int),decide (∃ h:m<t.length,t[m].1=r),()),())
 have R:∀ d∈t,((Q60.f K (d,r,())).map λy=>y.1.1)=some (d.1-r):=λd hd=>by
  obtain⟨a1,a2⟩:=h7 d hd;obtain⟨a3,a4⟩:=X;simp only[Q60.f];rw[aA (by omega) (by omega)];rfl
 have:=pQ (step:=λrec a=>Q59.s0 K (t,r,(λz=>(Q60.f K (z.1,z.2.1,())).map λy=>y.1.1),()) rec a) (ks:=ks) (n:=t.length) (t:=r) H ht
  (λi j O Y=>by
   rw[u i (by omega),u j Y];exact cI.1 I i j (by omega) Y O) ?_ ?_ t.length K 0 t.length (by omega) (CS _) (CH _) (by omega) (λi J=>by omega) (λi J X=>by omega)
 ·obtain⟨m,Z,h2,h3,h4⟩:=this;exact⟨m,Z,λi h J=>by rw[<- u i h];exact h2 i J,λi h J=>by rw[<- u i h];exact h3 i J h,_,h4⟩
 ·intro rec a b a0 hb;have M:(a+b) / 2<t.length:=by omega
  simp only[Q59.s0];rw[decide_eq_true (by omega:(a:Int)<(b:Int)),nY (by omega)];simp only[cond_true];rw[ag M];simp only[B3,R _ (B5 M)];rw[u _ M,ar _ (by omega)];by_cases h:t[(a+b) / 2].1<r
  ·rw[if_pos h,decide_eq_true (by omega:t[(a+b) / 2].1-r<0)];rfl
  ·rw[if_neg h,decide_eq_false (by omega:¬ t[(a+b) / 2].1-r<0)];rfl
 ·intro rec a ha;simp only[Q59.s0];rw[decide_eq_false (by omega)];simp only[cond_false];by_cases h:a<t.length
  ·rw[decide_eq_true (by omega:(a:Int)<(B4 t:Int)),ag h];simp only[cond_true,B3,R _ (B5 h)];have:(t[a].1-r==0)=decide (∃ h:a<t.length,t[a].1=r):=by
    rw[Cd];simp only[beq_iff_eq,decide_eq_true_eq];exact⟨λe=>⟨h,by omega⟩,λ⟨_,e⟩=>by omega⟩
   rw[this]
  ·rw[decide_eq_false (by omega:¬ (a:Int)<(B4 t:Int))];simp only[cond_false,H];rw[decide_eq_false (λ⟨h',_⟩=>h h')]
def gl (n:aa)(t:List af)(c:List aM)(ds:List bt):aa :=
 (n.1,n.2.1,n.2.2.1,n.2.2.2.1,n.2.2.2.2.1,n.2.2.2.2.2.1,n.2.2.2.2.2.2.1,n.2.2.2.2.2.2.2.1,t,c,n.2.2.2.2.2.2.2.2.2.2.1,ds,n.2.2.2.2.2.2.2.2.2.2.2.2)
def jg (n:aa)(f:af):Bool:=decide (∃ g∈aa.table n,g.1=f.1/\g.2.1=f.2.1/\g.2.2.1=f.2.2.1)
def sayOf (n:aa)(f:af)(b:Int):aa :=
 bif (bY (aa.table n) f).2 then gl n (bY (aa.table n) f).1 (dB (aa.cast n) f) (bif jg n f then aa.doubts n else cD n.2.2.2.2.2.1 (aa.doubts n) f b) else n
structure cf (n:aa):Prop where
 table:aw (aa.table n)
 cast:c5 (aa.cast n)
 asc:Asc (λd:bt=>d.1) (aa.doubts n)
 inp:∀ d∈aa.doubts n,InP d.1 0 7
 lt:(aa.table n).length<=1048576
 lc:(aa.cast n).length<=1048576
 ld:(aa.doubts n).length<=1048576
theorem tr {n:aa}{f g:af}(u:Asc (λg:af=>g.1) (aa.table n))(r:g∈aa.table n)(e:g.1=f.1):jg n f=(g.2.1==f.2.1&&g.2.2.1==f.2.2.1):=by
 rw[Cd,jg,decide_eq_true_eq,DA,beq_iff_eq,beq_iff_eq];constructor
 ·rintro⟨x,hx,h1,h2,h3⟩;have:=fD u hx r (by rw[h1,e]);subst this;exact⟨h2,h3⟩
 ·rintro⟨h1,h2⟩;exact⟨g,r,e,h1,h2⟩
theorem tt {n:aa}{f:af}(h:∀ g∈aa.table n,g.1≠f.1):jg n f=false :=
 decide_eq_false λ⟨g,r,e,_⟩=>h g r e
theorem pY (K:Nat)(n:aa)(f:af)(b:Int)(h:cf n)(r:1048577<K):Q198.f K (n,f,b,())=some ((sayOf n f b,()),()):=by
 simp only[Q198.f,zcp8];rw[show Q136.f K (n.2.2.2.2.2.2.2.2.1,f,())=_ from put_s K (aa.table n) f h.lt h.table.2 r];simp only[B3];cases H:(bY (aa.table n) f).2 with
 |false =>
  simp only[sayOf,H];rfl
 |true =>
  simp only[sayOf,H,CB,cond_false,cond_true];obtain⟨o,M,J⟩:=fP K (aa.table n) f.1 h.lt r;rw[show Q103.f K (n.2.2.2.2.2.2.2.2.1,f.1,())=_ from J];simp only[B3];have y:=Ar K (n.1,n.2.1,n.2.2.1,n.2.2.2.1,n.2.2.2.2.1,n.2.2.2.2.2.1,n.2.2.2.2.2.2.1,n.2.2.2.2.2.2.2.1,(bY (aa.table n) f).1,dB (aa.cast n) f,n.2.2.2.2.2.2.2.2.2.2) f b h.ld h.asc r;have z:=Aq K (aa.cast n) f h.lc h.cast.2 r;cases M with
  |at_ i I e =>
   simp only;rw[tr h.table.2 (B5 I) e,decide_eq_true (by omega:((i:Nat):Int)>=0)];simp only[cond_true];rw[show idx n.2.2.2.2.2.2.2.2.1 (i:Int)=some (aa.table n)[i] from ag I];simp only[B3];rw[show Q137.f K (n.2.2.2.2.2.2.2.2.2.1,f,())=_ from z];simp only[B3];rw[y];cases (aa.table n)[i].2.1==f.2.1 with
   |true =>
    cases (aa.table n)[i].2.2.1==f.2.2.1 <;> rfl
   |false=>rfl
  |no u =>
   simp only;rw[tt u,decide_eq_false (by omega:¬ (-1:Int)>=0)];simp only[cond_false];rw[show Q137.f K (n.2.2.2.2.2.2.2.2.2.1,f,())=_ from z];simp only[B3];rw[y];rfl
theorem mq {α:Type}{k:α->Int}{xs:List α}(h:Asc k xs)(p:α->Bool):Asc k (xs.filter p):=Cx p h
theorem Au {R:Type}(K:Nat)(r:Int)(ds:List bt)(f:af)(b:Int)(G:List bt->Option R)(X:ds.length<=1048576)(Z:Asc (λd:bt=>d.1) ds)(h7:∀ d∈ds,InP d.1 0 7)(hf:bu f)(hK:1048577<K) :
  ((Q4.f K (ds,(λI=>(Q58.f K (I.1,f,())).map λy=>y.1.1),())).bind λH=>bif f.2.2.1==2 then ((Q59.f K (H.1.1,f.1,(λO=>(Q60.f K (O.1,O.2.1,())).map λy=>y.1.1),())).bind λy7=>(Q5.f K (H.1.1,y7.1.1,[mkD r f b],())).bind λy8=>G y8.1.1) else G H.1.1)=G (cD r ds f b):=by
 rw[show Q4.f K (ds,(λI=>(Q58.f K (I.1,f,())).map λy=>y.1.1),())=some ((ds.filter (λd=>!(d.1==f.1)),()),()) by
  simp only[Q4.f];exact rH _ X (λd _=>rfl)]
 simp only[B3,cD];by_cases z:f.2.2.1=2
 ·rw[if_pos z,show (f.2.2.1==2)=true by simpa using z];simp only[cond_true];have u:(ds.filter (λd=>!(d.1==f.1))).length<=1048576:=CL (CU _ _) X;obtain⟨m,M,Y,hi,b',e⟩:=At K (ds.filter (λd=>!(d.1==f.1))) f.1 u (mq Z _) (λd hd=>h7 d (CA.1 hd).1) hf.1 hK;rw[e];simp only[B3];rw[show Q5.f K (ds.filter (λd=>!(d.1==f.1)),(m:Int),[mkD r f b],())=some (((ds.filter (λd=>!(d.1==f.1))).take m++[mkD r f b]++(ds.filter (λd=>!(d.1==f.1))).drop m,()),()) by
   simp only[Q5.f];exact jS M (by omega) u]
  simp only[B3];have:=gI (k:=λd:bt=>d.1) (x:=mkD r f b) M Y (λi h J=>by
   have h1:=hi i h J;have h3:(!((ds.filter (λd=>!(d.1==f.1)))[i].1==f.1))=true:=(CA.1 (B5 h)).2;have h4:(ds.filter (λd=>!(d.1==f.1)))[i].1≠f.1:=by simpa using h3
   show f.1<_;omega)
  rw[this];exact congrArg G (uF (k:=λd:bt=>d.1) (x:=mkD r f b))
 ·rw[if_neg z,show (f.2.2.1==2)=false by simpa using z];rfl
theorem sJ (K:Nat)(n:aa)(f:af)(b:Int)(h:cf n)(y:bu f)(u:1048577<K):Q61.f K (n,f,b,())=some ((),(sayOf n f b,())):=by
 simp only[Q61.f,zcp8];have R:∃ g:af,∃ H,Q23.f K (aa.table n,f.1,())=some ((g,H,()),())/\jg n f=(g.2.2.1==f.2.2.1&&g.2.1==f.2.1):=by
  rcases gH K (aa.table n) f.1 h.lt u with ⟨r,_⟩|⟨_,⟨g,O,e,r⟩|⟨X,r⟩⟩
  ·exact absurd h.table r
  ·exact⟨g,_,r,by rw[tr h.table.2 O e,Bool.and_comm]⟩
  ·refine⟨_,_,r,?_⟩;rw[tt X,show ((0:Int)==f.2.2.1)=false by have:=y.2.2.1;simp;omega];rfl
 obtain⟨g,H,r,M⟩:=R;rw[show Q23.f K (n.2.2.2.2.2.2.2.2.1,f.1,())=_ from r];simp only[B3];rw[show Q54.f K (n.2.2.2.2.2.2.2.2.1,f,())=_ from vY K (aa.table n) f h.lt h.table.2 u];simp only[B3];cases I:(bY (aa.table n) f).2 with
 |false =>
  simp only[sayOf,I];rfl
 |true =>
  simp only[sayOf,I,CB,cond_false,cond_true];rw[show Q56.f K (n.2.2.2.2.2.2.2.2.2.1,f,())=_ from xy K (aa.cast n) f h.lc h.cast y u];simp only[B3];have z:=Au K n.2.2.2.2.2.1 (aa.doubts n) f b (λJ=>some ((),(gl n (bY (aa.table n) f).1 (dB (aa.cast n) f) J,()))) h.ld h.asc h.inp y u;rw[M];cases g.2.2.1==f.2.2.1 with
  |true =>
   cases g.2.1==f.2.1 with
   |true=>rfl
   |false=>exact z
  |false=>exact z
theorem jh {α:Type}{k:α->Int}{xs:List α}(h:Asc k xs)(u:∀ x∈xs,InP (k x) 0 7):xs.length<=8:=by
 have:=(js (xs.map k) [0,1,2,3,4,5,6,7] (by unfold Asc at h;rw[CT];exact h) (by decide) (λy z=>by
  obtain⟨x,r,rfl⟩:=CM.1 z;obtain⟨H,I⟩:=u x r;simp only[Cg,List.not_mem_nil,or_false];omega)).1
 rw[CG]at this;exact this
theorem ip (t:List af)(f:af):(bY t f).1=t\/(bY t f).1=bD (λg=>g.1) f t:=by
 unfold bY;split
 ·split
  ·exact .inr rfl
  ·exact .inl rfl
 ·exact .inr rfl
theorem kL {t:List af}{f:af}(h:aw t)(u:bu f):aw (bY t f).1:=by
 rcases ip t f with e|e
 ·rw[e];exact h
 ·rw[e];refine⟨λg y=>?_,fE h.2⟩;rcases aW.1 y with rfl|⟨r,_⟩
  ·exact u
  ·exact h.1 g r
theorem pZ {l:List aM}{f:af}(h:c5 l)(y:bu f):c5 (dB l f):=by
 unfold dB;split
 ·exact h
 ·refine⟨λx r=>?_,fE h.2⟩;rcases aW.1 r with rfl|⟨u,_⟩
  ·exact⟨y,show (1:Int)<=4 by omega,show (4:Int)<=4 by omega⟩
  ·exact h.1 x u
theorem kM {r:Int}{ds:List bt}{f:af}{b:Int}{d:bt}(h:d∈cD r ds f b):d=mkD r f b\/d∈ds:=by
 unfold cD at h;split at h
 ·rcases aW.1 h with h|h
  ·exact .inl h
  ·exact .inr h.1
 ·exact .inr (CA.1 h).1
theorem tu {r:Int}{ds:List bt}{f:af}{b:Int}(h:Asc (λd:bt=>d.1) ds):Asc (λd:bt=>d.1) (cD r ds f b):=by
 unfold cD;split
 ·exact fE h
 ·exact mq h _
theorem iX (n:aa)(f:af)(b:Int):∃ t c r,sayOf n f b=gl n t c r/\(t=aa.table n\/t=(bY (aa.table n) f).1)/\(c=aa.cast n\/c=dB (aa.cast n) f)/\(r=aa.doubts n\/r=cD n.2.2.2.2.2.1 (aa.doubts n) f b):=by
 unfold sayOf;cases (bY (aa.table n) f).2 with
 |false=>exact⟨aa.table n,aa.cast n,aa.doubts n,rfl,.inl rfl,.inl rfl,.inl rfl⟩
 |true =>
  cases jg n f with
  |true=>exact⟨_,_,_,rfl,.inr rfl,.inr rfl,.inl rfl⟩
  |false=>exact⟨_,_,_,rfl,.inr rfl,.inr rfl,.inr rfl⟩
theorem cf.mk' {n:aa}(u:aw (aa.table n))(r:c5 (aa.cast n))(z:Asc (λd:bt=>d.1) (aa.doubts n))(y:∀ d∈aa.doubts n,InP d.1 0 7):cf n where
 table:=u
 cast:=r
 asc:=z
 inp:=y
 lt:=CL (jh u.2 (λg I=>(u.1 g I).1)) (by decide)
 lc:=CL (jh r.2 (λx H=>(r.1 x H).1.1)) (by decide)
 ld:=CL (jh z y) (by decide)
theorem iH {n:aa}{f:af}{b:Int}(h:cf n)(r:bu f):cf (sayOf n f b):=by
 obtain⟨t,c,y,e,H,I,z⟩:=iX n f b;rw[e];refine cf.mk' ?_ ?_ ?_ ?_
 ·show aw t;rcases H with rfl|rfl
  ·exact h.table
  ·exact kL h.table r
 ·show c5 c;rcases I with rfl|rfl
  ·exact h.cast
  ·exact pZ h.cast r
 ·show Asc _ y;rcases z with rfl|rfl
  ·exact h.asc
  ·exact tu h.asc
 ·show ∀ d∈y,InP d.1 0 7;rcases z with rfl|rfl
  ·exact h.inp
  ·intro d u;rcases kM u with rfl|u
   ·exact r.1
   ·exact h.inp d u
theorem zf {n:aa}{f:af}{b:Int}(h:∀ d∈aa.doubts n,d.2.2.2.length<=1048576):∀ d∈aa.doubts (sayOf n f b),d.2.2.2.length<=1048576:=by
 obtain⟨t,c,u,e,_,_,y⟩:=iX n f b;rw[e];show ∀ d∈u,_;rcases y with rfl|rfl
 ·exact h
 ·intro d r;rcases kM r with rfl|r
  ·exact Nat.succ_le_of_lt (by decide)
  ·exact h d r
theorem UpP.say {n:aa}(h:UpP n):cf n:=by
 obtain⟨r,_,_,⟨H,_⟩,_,u,_⟩:=h;refine cf.mk' r H u.2.1 λd z=>?_
 obtain⟨f,y,e,_⟩:=(u.1 d z).1;rw[<- e];exact (r.1 f y).1
theorem lT {α β A R:Type}(t:List α)(p:α->Bool)(g:α->β)(S:List β->Nat->A)(u:List β->Option R){step:(A->Option R)->A->Option R}
  (h:∀ (rec:A->Option R) (r:List β) (i:Nat) (O:i<t.length),r.length<=i->step rec (S r i)=rec (S (bif p t[i] then r++[g t[i]] else r) (i+1)))
  (z:∀ (rec:A->Option R) (r:List β),r.length<=t.length->step rec (S r t.length)=u r) {k:Nat} (I:t.length<k) :
  ae step k (S [] 0)=u ((t.filter p).map g):=by
 have:∀ (d i k:Nat) (r:List β),i+d=t.length->d<k->r.length<=i->ae step k (S r i)=u (r++((t.drop i).filter p).map g):=by
  intro d;induction d with
  |zero =>
   intro i k r O I H;obtain⟨k,rfl⟩:∃ J,k=J+1:=⟨k-1,by omega⟩;have:i=t.length:=by omega
   subst this;show step (ae step k) _=_;rw[z _ _ H];simp
  |succ d M =>
   intro i k r O I H;obtain⟨k,rfl⟩:∃ J,k=J+1:=⟨k-1,by omega⟩;have y:i<t.length:=by omega
   show step (ae step k) _=_;rw[h _ _ _ y H,CR y,CV];cases p t[i] with
   |true =>
    simp only[cond_true,if_true,DM];rw[M (i+1) k _ (by omega) (by omega) (by simp;omega),Cc];rfl
   |false =>
    simp only[cond_false];rw[M (i+1) k _ (by omega) (by omega) (by omega)];rfl
 have:=this t.length 0 k [] (by omega) I (CH _)
 rwa [CW,CJ]at this
theorem szw (a b c:Nat)(r:c<=128)(h:a+b<=2097152):decide ((a+b)*c<=am)=true:=by
 have:=C5 h r;exact decide_eq_true (by unfold am;omega)
def k7 (n:aa):aa:=(n.1,n.2.1,true,n.2.2.2)
def oe (r:Int)(n:aa)(to:Int):an:=(1,r,n.1,to,0,n.1,aa.coord n,aa.table n)
theorem qN (K:Nat)(n:aa)(r to:Int)(u:(aa.table n).length<=1048576):Q91.f K (n,r,to,())=some ((oe r n to,()),()):=by
 simp only[Q91.f,zcp4,Q70.f,B3,Q0.f];rw[dv (by show (aa.table n).length*_<=_;omega)];rfl
theorem oh (K:Nat)(n:aa)(r to:Int)(u:(aa.table n).length<=1048576):Q147.f K (n,r,to,0,n.1,aa.table n,())=some ((oe r n to,()),()):=by
 simp only[Q147.f];rw[szb _ _ _ (by omega) (by show (B4 ([]:List af))+(aa.table n).length<=_;simp;omega)];rfl
def cW (f:af):Bool:=f.2.2.1==1||f.2.2.1==2
theorem vg (K:Nat)(t:List af)(f:af)(y:aw t)(I:t.length<=1048576)(r:f∈t)(J:1048577<K):Q200.f K (t,f.1,())=rb (cW f):=by
 simp only[Q200.f];obtain⟨o,H,z⟩:=fP K t f.1 I J;rw[z];simp only[B3];cases H with
 |at_ i u e =>
  simp only;rw[decide_eq_true (by omega:((i:Nat):Int)>=0),ag u];simp only[cond_true,B3];rw[fD y.2 (B5 u) r e,cW];cases f.2.2.1==1 <;> rfl
 |no h=>exact absurd rfl (h f r)
def tv (n:aa)(f:af):Bool:=f.1 != n.1&&cW f
def lU (n:aa):List an:=((aa.table n).filter (tv n)).map λf=>oe 5 n f.1
def na (n:aa):aa:=k7 (sayOf n (n.1,n.2.2.2.2.1,4,n.2.2.2.1) n.1)
theorem tw (K:Nat)(x:ab Q213.ps)(m:aa)(z:aw (aa.table m))(u:(aa.table m).length<=1048576)(J:1048577<K) :
  Q213.l0 K x ([],0,m.1,m.2.1,m.2.2.2.1,m.2.2.2.2.1,m.2.2.2.2.2.1,m.2.2.2.2.2.2.1,m.2.2.2.2.2.2.2.1,m.2.2.2.2.2.2.2.2.1,m.2.2.2.2.2.2.2.2.2.1,m.2.2.2.2.2.2.2.2.2.2.1.1,m.2.2.2.2.2.2.2.2.2.2.1.2.1,m.2.2.2.2.2.2.2.2.2.2.1.2.2.1,m.2.2.2.2.2.2.2.2.2.2.1.2.2.2,m.2.2.2.2.2.2.2.2.2.2.2.1,m.2.2.2.2.2.2.2.2.2.2.2.2.1.1,m.2.2.2.2.2.2.2.2.2.2.2.2.1.2.1,m.2.2.2.2.2.2.2.2.2.2.2.2.1.2.2.1,m.2.2.2.2.2.2.2.2.2.2.2.2.1.2.2.2,m.2.2.2.2.2.2.2.2.2.2.2.2.2.1,m.2.2.2.2.2.2.2.2.2.2.2.2.2.2)=some ((k7 m,lU (k7 m),()),()):=by
 refine lT (step:=λrec a=>Q213.s0 K x rec a) (aa.table m) (tv (k7 m)) (λf=>oe 5 (k7 m) f.1) (λr i=>(r,(i:Int),m.1,m.2.1,m.2.2.2.1,m.2.2.2.2.1,m.2.2.2.2.2.1,m.2.2.2.2.2.2.1,m.2.2.2.2.2.2.2.1,m.2.2.2.2.2.2.2.2.1,m.2.2.2.2.2.2.2.2.2.1,m.2.2.2.2.2.2.2.2.2.2.1.1,m.2.2.2.2.2.2.2.2.2.2.1.2.1,m.2.2.2.2.2.2.2.2.2.2.1.2.2.1,m.2.2.2.2.2.2.2.2.2.2.1.2.2.2,m.2.2.2.2.2.2.2.2.2.2.2.1,m.2.2.2.2.2.2.2.2.2.2.2.2.1.1,m.2.2.2.2.2.2.2.2.2.2.2.2.1.2.1,m.2.2.2.2.2.2.2.2.2.2.2.2.1.2.2.1,m.2.2.2.2.2.2.2.2.2.2.2.2.1.2.2.2,m.2.2.2.2.2.2.2.2.2.2.2.2.2.1,m.2.2.2.2.2.2.2.2.2.2.2.2.2.2)) (λH=>some ((k7 m,H,()),())) ?_ ?_ (by omega)
 ·intro rec r i y I;simp only[Q213.s0,zceae5f];rw[show decide ((i:Int)<(B4 m.2.2.2.2.2.2.2.2.1:Int))=true from bz (by omega:(i:Int)<(B4 (aa.table m):Int)),show idx m.2.2.2.2.2.2.2.2.1 (i:Int)=some (aa.table m)[i] from ag y,ar i (by omega)];simp only[cond_true,B3,tv];rw[show (k7 m).1=m.1 from rfl];cases M:(aa.table m)[i].1 != m.1 with
  |false=>rfl
  |true =>
   simp only[cond_true,Cb];rw[show Q200.f K (m.2.2.2.2.2.2.2.2.1,(aa.table m)[i].1,())=_ from vg K (aa.table m) _ z u (B5 y) J];simp only[B3];cases cW (aa.table m)[i] with
   |false=>rfl
   |true =>
    simp only[cond_true];refine (congrArg (λo=>CI o _) (oh K (k7 m) 5 (aa.table m)[i].1 u)).trans ?_;simp only[B3];rw[szw _ _ _ (by omega) (by simp;omega)];rfl
 ·intro rec r I;simp only[Q213.s0,zceae5f];rw[show decide ((B4 (aa.table m):Int)<(B4 m.2.2.2.2.2.2.2.2.1:Int))=false from aS _];rfl
theorem vZ {n:aa}(r:gu n):bu (n.1,n.2.2.2.2.1,4,n.2.2.2.1):=⟨r.1,r.2.2.2.2.1,show (1:Int)<=4 by omega,show (4:Int)<=4 by omega⟩
theorem Av (K:Nat)(n:aa)(J:NB n)(y:gu n)(z:n.2.1=true)(I:n.2.2.1=false)(H:1048577<K):Q213.f K (n,())=some ((na n,lU (na n),()),()):=by
 have r:=(y.up z).say;have u:=iH (b:=n.1) r (vZ y);simp only[Q213.f,Q213.pre];rw[z,I];simp only[CB,cond_false];rw[pY K n _ n.1 r H];exact tw K _ _ u.table u.lt H
theorem jT {α r A R:Type}(ds:List α)(st:r->α->r)(Inv:r->Prop)(S:r->Nat->A)(u:r->Option R){step:(A->Option R)->A->Option R}(n:r)(Y:Inv n)
  (h:∀ (rec:A->Option R) (m:r) (i:Nat) (M:i<ds.length),Inv m->step rec (S m i)=rec (S (st m ds[i]) (i+1))/\Inv (st m ds[i]))
  (z:∀ (rec:A->Option R) (m:r),Inv m->step rec (S m ds.length)=u m) {k:Nat} (I:ds.length<k):ae step k (S n 0)=u (ds.foldl st n):=by
 have:∀ (d i k:Nat) (m:r),i+d=ds.length->d<k->Inv m->ae step k (S m i)=u ((ds.drop i).foldl st m):=by
  intro d;induction d with
  |zero =>
   intro i k m M I H;obtain⟨k,rfl⟩:∃ J,k=J+1:=⟨k-1,by omega⟩;have:i=ds.length:=by omega
   subst this;show step (ae step k) _=_;rw[z _ _ H,DN];rfl
  |succ d Z =>
   intro i k m M I H;obtain⟨k,rfl⟩:∃ J,k=J+1:=⟨k-1,by omega⟩;have y:i<ds.length:=by omega
   show step (ae step k) _=_;obtain⟨O,X⟩:=h (ae step k) m i y H;rw[O,CR y];exact Z (i+1) k _ (by omega) (by omega) X
 have:=this ds.length 0 k n (by omega) I Y
 rwa [CW]at this
theorem jv {α r:Type}{st:r->α->r}{Inv:r->Prop}:∀ {ds:List α} {n:r},Inv n->(∀ m,∀ d∈ds,Inv m->Inv (st m d))->Inv (ds.foldl st n)
 |[],_,h,_=>h
 |d::ds,n,h,y=>jv (ds:=ds) (y n d (by simp) h) (λm z u=>y m z (by simp[u]))
def aB (t:List af)(r:Int):af:=(t.find? λg=>g.1==r).getD (0,0,0,false)
theorem jU {t:List af}(r:Asc (λg:af=>g.1) t){f:af}(u:f∈t):aB t f.1=f:=by
 obtain⟨i,y,e⟩:=CC u;unfold aB;rw[show t.find? (λg=>g.1==f.1)=some t[i] from pg r y (by rw[e]),e];rfl
theorem jV {t:List af}{r:Int}(h:∀ g∈t,g.1≠r):aB t r=(0,0,0,false):=by
 unfold aB;rw[show t.find? (λg=>g.1==r)=none from od h];rfl
theorem gJ (K:Nat)(t:List af)(r:Int)(y:aw t)(I:t.length<=1048576)(J:1048577<K):∃ b,Q23.f K (t,r,())=some ((aB t r,b,()),()):=by
 rcases gH K t r I J with ⟨u,_⟩|⟨_,⟨g,H,e,u⟩|⟨z,u⟩⟩
 ·exact absurd y u
 ·refine⟨true,?_⟩;rw[u,<- e,jU y.2 H]
 ·refine⟨false,?_⟩;rw[u,jV z]
theorem tx (K:Nat)(t:List af)(r:Int)(H:aw t)(z:t.length<=1048576)(I:1048577<K):Q200.f K (t,r,())=rb (cW (aB t r)):=by
 by_cases h:∃ f∈t,f.1=r
 ·obtain⟨f,u,rfl⟩:=h;rw[vg K t f H z u I,jU H.2 u]
 ·have y:∀ g∈t,g.1≠r:=λg O e=>h ⟨g,O,e⟩
  simp only[Q200.f];obtain⟨o,M,J⟩:=fP K t r z I;rw[J,jV y];cases M with
  |at_ i R e=>exact absurd e (y _ (B5 R))
  |no _=>rfl
theorem tz (K:Nat)(n:aa)(r:Int)(u:aw (aa.table n))(H:(aa.table n).length<=1048576)(J:1048577<K):Q233.f K (n,r,())=rb (cW (aB (aa.table n) r)):=by
 simp only[Q233.f,Q232.f];obtain⟨b,I⟩:=gJ K (aa.table n) r u H J;rw[show Q23.f K (n.2.2.2.2.2.2.2.2.1,r,())=_ from I];simp only[B3];obtain⟨b,y,z⟩:=eP K (aB (aa.table n) r).2.2.1 1 2;rw[y];have:b=cW (aB (aa.table n) r):=by
  rw[Cd,z,cW,Bool.or_eq_true,beq_iff_eq,beq_iff_eq];show (1<=(aB (aa.table n) r).2.2.1/\(aB (aa.table n) r).2.2.1<=2)<->_;omega
 rw[this];rfl
theorem dw (n:aa)(f:af)(b:Int):(sayOf n f b).1=n.1/\(sayOf n f b).2.1=n.2.1/\(sayOf n f b).2.2.1=n.2.2.1/\(sayOf n f b).2.2.2.1=n.2.2.2.1/\(sayOf n f b).2.2.2.2.1=n.2.2.2.2.1/\(sayOf n f b).2.2.2.2.2.1=n.2.2.2.2.2.1/\(sayOf n f b).2.2.2.2.2.2.1=n.2.2.2.2.2.2.1/\(sayOf n f b).2.2.2.2.2.2.2.1=n.2.2.2.2.2.2.2.1/\aa.probe (sayOf n f b)=aa.probe n/\(sayOf n f b).2.2.2.2.2.2.2.2.2.2.2.2=n.2.2.2.2.2.2.2.2.2.2.2.2:=by
 obtain⟨t,c,r,e,_⟩:=iX n f b;rw[e];exact⟨rfl,rfl,rfl,rfl,rfl,rfl,rfl,rfl,rfl,rfl⟩
theorem nc {t:List af}{f g:af}(r:g∈t):∃ u∈(bY t f).1,u.1=g.1:=by
 rcases ip t f with e|e
 ·rw[e];exact⟨g,r,rfl⟩
 ·rw[e];by_cases h:g.1=f.1
  ·exact⟨f,aW.2 (.inl rfl),h.symm⟩
  ·exact⟨g,aW.2 (.inr ⟨r,h⟩),rfl⟩
theorem iY {n:aa}{f:af}{b:Int}{g:af}(r:g∈aa.table n):∃ y∈aa.table (sayOf n f b),y.1=g.1:=by
 obtain⟨t,c,z,e,u,_⟩:=iX n f b;rw[e];rcases u with rfl|rfl
 ·exact⟨g,r,rfl⟩
 ·exact nc r
def ii (u r:Int)(len:Nat):Bool:=decide (u-r>=if 6-(len:Int)+1<3 then 3 else 6-(len:Int)+1)
def fu (f:af):af:=(f.1,f.2.1,3,f.2.2.2)
def cX (n:aa)(d:bt):aa:=bif ii n.2.2.2.2.2.1 d.2.2.1 d.2.2.2.length then sayOf n (fu (aB (aa.table n) d.1)) n.1 else n
def dO (n:aa):aa:=(aa.doubts n).foldl cX n
theorem due_s (K:Nat)(r:Int)(d:bt)(H:0<=d.2.2.1)(u:d.2.2.1<=r)(y:r<=1000000)(z:d.2.2.2.length<=1048576):Q197.f K (r,d,())=rb (ii r d.2.2.1 d.2.2.2.length):=by
 simp only[Q197.f];rw[aA (n:=6-(B4 d.2.2.2:Int)) (by omega) (by omega),aA (n:=6-(B4 d.2.2.2:Int)+1) (by omega) (by omega),aA (n:=r-d.2.2.1) (by omega) (by omega)];unfold ii;by_cases h:6-(B4 d.2.2.2:Int)+1<3
 ·rw[decide_eq_true h,if_pos h];rfl
 ·rw[decide_eq_false h,if_neg h];rfl
theorem Aw (K:Nat)(a b c:Int)(len:Nat)(r:len<=1048576):Q230.f K ((a,b,c,len),())=some ((if 6-(len:Int)+1<3 then 3 else 6-(len:Int)+1,()),()):=by
 simp only[Q230.f];rw[aA (n:=6-(len:Int)) (by omega) (by omega),aA (n:=6-(len:Int)+1) (by omega) (by omega)];by_cases h:6-(len:Int)+1<3
 ·rw[decide_eq_true h,if_pos h];rfl
 ·rw[decide_eq_false h,if_neg h];rfl
structure jW (ds:List bt) (now:Int) (n:aa):Prop where
 ok:cf n
 key:∀ d∈ds,∃ f∈aa.table n,f.1=d.1
 now_:n.2.2.2.2.2.1=now
theorem lV {f:af}(h:bu f):bu (fu f):=⟨h.1,h.2.1,show (1:Int)<=3 by omega,show (3:Int)<=4 by omega⟩
theorem cC {t:List af}{r:Int}(y:aw t)(h:∃ f∈t,f.1=r):bu (aB t r)/\(aB t r).1=r/\aB t r∈t:=by
 obtain⟨f,u,rfl⟩:=h;rw[jU y.2 u];exact⟨y.1 f u,rfl,u⟩
theorem lv {ds:List bt}{r:Int}{n:aa}{d:bt}(h:jW ds r n)(H:d∈ds):jW ds r (cX n d):=by
 unfold cX;cases ii n.2.2.2.2.2.1 d.2.2.1 d.2.2.2.length with
 |false=>exact h
 |true =>
  have z:=lV (cC h.ok.table (h.key d H)).1;refine⟨iH h.ok z,λO y=>?_,(dw n _ _).2.2.2.2.2.1.trans h.now_⟩;obtain⟨g,J,e⟩:=h.key O y;obtain⟨I,u,M⟩:=iY (f:=fu (aB (aa.table n) d.1)) (b:=n.1) J;exact⟨I,u,M.trans e⟩
theorem xz (K:Nat)(n:aa)(h:jW (aa.doubts n) n.2.2.2.2.2.1 n)(hd:∀ d∈aa.doubts n,0<=d.2.2.1/\d.2.2.1<=n.2.2.2.2.2.1/\d.2.2.2.length<=1048576)(y:n.2.2.2.2.2.1<=1000000)(R:1048577<K):Q199.f K (n,())=some ((dO n,()),()):=by
 have hl:=h.ok.ld;refine jT (step:=λrec a=>Q199.s0 K (n,()) rec a) (aa.doubts n) cX (jW (aa.doubts n) n.2.2.2.2.2.1) (λm i=>((i:Int),m.1,m.2.1,m.2.2.1,m.2.2.2.1,m.2.2.2.2.1,m.2.2.2.2.2.1,m.2.2.2.2.2.2.1,m.2.2.2.2.2.2.2.1,m.2.2.2.2.2.2.2.2.1,m.2.2.2.2.2.2.2.2.2.1,m.2.2.2.2.2.2.2.2.2.2.1.1,m.2.2.2.2.2.2.2.2.2.2.1.2.1,m.2.2.2.2.2.2.2.2.2.2.1.2.2.1,m.2.2.2.2.2.2.2.2.2.2.1.2.2.2,m.2.2.2.2.2.2.2.2.2.2.2.1,m.2.2.2.2.2.2.2.2.2.2.2.2.1.1,m.2.2.2.2.2.2.2.2.2.2.2.2.1.2.1,m.2.2.2.2.2.2.2.2.2.2.2.2.1.2.2.1,m.2.2.2.2.2.2.2.2.2.2.2.2.1.2.2.2,m.2.2.2.2.2.2.2.2.2.2.2.2.2.1,m.2.2.2.2.2.2.2.2.2.2.2.2.2.2)) (λm=>some ((m,()),())) n h ?_ ?_ (by omega)
 ·intro rec m i H u;refine⟨?_,lv u (B5 H)⟩;simp only[Q199.s0,zc286a0,zc3ec45];obtain⟨M,I,J⟩:=hd _ (B5 H);rw[show decide ((i:Int)<(B4 n.2.2.2.2.2.2.2.2.2.2.2.1:Int))=true from bz (by omega:(i:Int)<(B4 (aa.doubts n):Int)),show idx n.2.2.2.2.2.2.2.2.2.2.2.1 (i:Int)=some (aa.doubts n)[i] from ag H,ar i (by omega)];simp only[cond_true,B3];rw[due_s K m.2.2.2.2.2.1 (aa.doubts n)[i] M (by rw[u.now_];exact I) (by rw[u.now_];exact y) J];simp only[B3];have r:=u.key _ (B5 H);generalize (aa.doubts n)[i]=d at r M I J ⊢;unfold cX;cases ii m.2.2.2.2.2.1 d.2.2.1 d.2.2.2.length with
  |false=>rfl
  |true =>
   simp only[cond_true];have z:=cC u.ok.table r;obtain⟨o,Y,X⟩:=fP K (aa.table m) d.1 u.ok.lt R;rw[show Q103.f K (m.2.2.2.2.2.2.2.2.1,d.1,())=_ from X];simp only[B3];cases Y with
   |no h=>exact absurd r (λ⟨f,Z,e⟩=>h f Z e)
   |at_ j O e =>
    simp only;rw[show idx m.2.2.2.2.2.2.2.2.1 ((j:Nat):Int)=some (aa.table m)[j] from ag O,fD u.ok.table.2 (B5 O) z.2.2 (by rw[e,z.2.1])];simp only[B3];refine (congrArg (λo=>CI o _) (pY K m (fu (aB (aa.table m) d.1)) m.1 u.ok R)).trans ?_;rfl
 ·intro rec m u;simp only[Q199.s0,zc286a0,zc3ec45];rw[show decide ((B4 (aa.doubts n):Int)<(B4 n.2.2.2.2.2.2.2.2.2.2.2.1:Int))=false from aS _];rfl
theorem Bp (K:Nat)(n:aa)(h:jW (aa.doubts n) n.2.2.2.2.2.1 n)(hd:∀ d∈aa.doubts n,0<=d.2.2.1/\d.2.2.1<=n.2.2.2.2.2.1/\d.2.2.2.length<=1048576)(Y:n.2.2.2.2.2.1<=1000000)(Z:1048577<K):Q231.f K (n,())=some ((),(dO n,())):=by
 have hl:=h.ok.ld;simp only[Q231.f,Q231.pre,zc3ec45];have hc:∃ r:List (Int×Int×Int×Nat),r=(aa.doubts n).map (λd=>(d.1,d.2.1,d.2.2.1,d.2.2.2.length))/\Q12.f K (aa.doubts n,())=some ((r,()),()):=by
  refine⟨_,rfl,?_⟩;simp only[Q12.f,qH];rw[dv (by omega)];rfl
 obtain⟨r,H,e⟩:=hc;rw[show Q12.f K (n.2.2.2.2.2.2.2.2.2.2.2.1,())=_ from e];simp only[B3];have I:r.length=(aa.doubts n).length:=by rw[H,CG]
 have J:∀ i (z:i<(aa.doubts n).length),r[i]'(by rw[I];exact z)=((aa.doubts n)[i].1,(aa.doubts n)[i].2.1,(aa.doubts n)[i].2.2.1,(aa.doubts n)[i].2.2.2.length):=λi z=>by
  simp only[H,Dc]
 clear H;refine jT (step:=λrec a=>Q231.s0 K (n,()) rec a) (aa.doubts n) cX (jW (aa.doubts n) n.2.2.2.2.2.1) (λm i=>(r,(B4 r:Int),(i:Int),m.1,m.2.1,m.2.2.1,m.2.2.2.1,m.2.2.2.2.1,m.2.2.2.2.2.1,m.2.2.2.2.2.2.1,m.2.2.2.2.2.2.2.1,m.2.2.2.2.2.2.2.2.1,m.2.2.2.2.2.2.2.2.2.1,m.2.2.2.2.2.2.2.2.2.2.1.1,m.2.2.2.2.2.2.2.2.2.2.1.2.1,m.2.2.2.2.2.2.2.2.2.2.1.2.2.1,m.2.2.2.2.2.2.2.2.2.2.1.2.2.2,m.2.2.2.2.2.2.2.2.2.2.2.1,m.2.2.2.2.2.2.2.2.2.2.2.2.1.1,m.2.2.2.2.2.2.2.2.2.2.2.2.1.2.1,m.2.2.2.2.2.2.2.2.2.2.2.2.1.2.2.1,m.2.2.2.2.2.2.2.2.2.2.2.2.1.2.2.2,m.2.2.2.2.2.2.2.2.2.2.2.2.2.1,m.2.2.2.2.2.2.2.2.2.2.2.2.2.2)) (λm=>some ((),(m,()))) n h ?_ ?_ (by omega)
 ·intro rec m i z u;refine⟨?_,lv u (B5 z)⟩;simp only[Q231.s0,zc286a0,zc3ec45];have M:i<r.length:=by rw[I];exact z
  obtain⟨d0,d1,X⟩:=hd _ (B5 z);rw[bz (by omega:(i:Int)<(B4 r:Int)),ag M,ar i (by omega),B7,ag M,J i z];simp only[cond_true,B3];have y:=u.key _ (B5 z);generalize (aa.doubts n)[i]=d at y d0 d1 X ⊢;rw[Aw K d.1 d.2.1 d.2.2.1 d.2.2.2.length X];simp only[B3];have a0:=u.now_;rw[aA (n:=m.2.2.2.2.2.1-d.2.2.1) (by omega) (by omega)];have O:decide (m.2.2.2.2.2.1-d.2.2.1<if 6-(B4 d.2.2.2:Int)+1<3 then 3 else 6-(B4 d.2.2.2:Int)+1)=!ii m.2.2.2.2.2.1 d.2.2.1 d.2.2.2.length:=by
   unfold ii;rw[Cd];simp
  rw[show decide (m.2.2.2.2.2.1-d.2.2.1<(if 6-(B4 d.2.2.2:Int)+1<3 then 3 else 6-(B4 d.2.2.2:Int)+1:Int))=_ from O];unfold cX;cases ii m.2.2.2.2.2.1 d.2.2.1 d.2.2.2.length with
  |false=>rfl
  |true =>
   simp only[CB,cond_false,cond_true];have R:=cC u.ok.table y;obtain⟨b,hw⟩:=gJ K (aa.table m) d.1 u.ok.table u.ok.lt Z;rw[show Q23.f K (m.2.2.2.2.2.2.2.2.1,d.1,())=_ from hw];simp only[B3];refine (congrArg (λo=>CI o _) (sJ K m (fu (aB (aa.table m) d.1)) m.1 u.ok (lV R.1) Z)).trans ?_;rfl
 ·intro rec m u;simp only[Q231.s0,zc286a0,zc3ec45];rw[<- I,aS];rfl
def setP (n:aa)(p:af):aa:=(n.1,n.2.1,n.2.2.1,n.2.2.2.1,n.2.2.2.2.1,n.2.2.2.2.2.1,n.2.2.2.2.2.2.1,n.2.2.2.2.2.2.2.1,n.2.2.2.2.2.2.2.2.1,n.2.2.2.2.2.2.2.2.2.1,p,n.2.2.2.2.2.2.2.2.2.2.2)
def noP:af:=(-1,0,0,false)
def mr (f:af):af:=(f.1,f.2.1,2,f.2.2.2)
def p6 (n:aa)(f:af):Bool:=f.2.2.1==1&&f.1 != n.1&&f.1 != (aa.probe n).1
def cO (n:aa):List Int:=(((aa.table n).filter (p6 n)).map (·.1)).take 2
def askW (n:aa)(to:Int):an:=(1,3,n.1,to,(aa.probe n).2.2.1,(aa.probe n).1,aa.coord n,[])
def jX (n:aa):aa:=setP n ((aa.probe n).1,(aa.probe n).2.1,(aa.probe n).2.2.1,true)
def bd (n:aa):aa×List an :=
 bif (aa.probe n).1==-1 then (n,[]) else
 bif !cW (aB (aa.table n) (aa.probe n).1) then (setP n noP,[]) else
 bif decide (n.2.2.2.2.2.1-(aa.probe n).2.1>=4) then (bif (aB (aa.table n) (aa.probe n).1).2.2.1==1 then sayOf (setP n noP) (mr (aB (aa.table n) (aa.probe n).1)) n.1 else setP n noP,[]) else
 bif decide (n.2.2.2.2.2.1-(aa.probe n).2.1>=2) then (bif !(aa.probe n).2.2.2 then (jX n,(cO n).map (askW n)) else (n,[])) else (n,[])
theorem cf.setP {n:aa}(h:cf n)(p:af):cf (setP n p):=⟨h.table,h.cast,h.asc,h.inp,h.lt,h.lc,h.ld⟩
theorem qO {f:af}(h:bu f):bu (mr f):=⟨h.1,h.2.1,show (1:Int)<=2 by omega,show (2:Int)<=4 by omega⟩
theorem eE {t:List af}{r:Int}(h:cW (aB t r)=true):∃ f∈t,f.1=r:=by
 by_cases u:∃ f∈t,f.1=r
 ·exact u
 ·rw[jV (λg y e=>u ⟨g,y,e⟩)]at h;simp[cW]at h
theorem xA (K:Nat)(n:aa)(I:(aa.table n).length<=1048576)(J:1048577<K):Q201.f K (n,())=some ((cO n,()),()):=by
 have:=lr (step:=λrec a=>Q201.s0 K (n,()) rec a) (aa.table n) (p6 n) (λf=>f.1) 2 (λy=>some ((y,()),())) ?_ ?_ ?_ (aa.table n).length 0 K [] (by omega) (by omega) (CH _) (by simp)
 ·exact this
 ·intro rec r i u H z;simp only[Q201.s0];rw[show decide ((i:Int)<(B4 n.2.2.2.2.2.2.2.2.1:Int))=true from bz (by omega:(i:Int)<(B4 (aa.table n):Int)),show idx n.2.2.2.2.2.2.2.2.1 (i:Int)=some (aa.table n)[i] from ag u,ar i (by omega),decide_eq_true (by omega:(B4 r:Int)<2)];simp only[cond_true,B3,p6];show (bif (aa.table n)[i].1 != n.1 then (bif (aa.table n)[i].1 != (aa.probe n).1 then (bif (aa.table n)[i].2.2.1==1 then (bif decide ((B4 r+B4 ([(aa.table n)[i].1]))*8<=am) then (rec (r++([(aa.table n)[i].1]),((i+1:Nat):Int))) else none) else (rec (r,((i+1:Nat):Int)))) else (rec (r,((i+1:Nat):Int)))) else (rec (r,((i+1:Nat):Int))))=_;rw[szb _ _ _ (by omega) (by simp;omega)];cases (aa.table n)[i].1 != n.1 <;> cases (aa.table n)[i].1 != (aa.probe n).1 <;> cases (aa.table n)[i].2.2.1==1 <;> rfl
 ·intro rec r i u H z;simp only[Q201.s0];rw[show decide ((i:Int)<(B4 n.2.2.2.2.2.2.2.2.1:Int))=true from bz (by omega:(i:Int)<(B4 (aa.table n):Int)),decide_eq_false (by omega:¬ (B4 r:Int)<2)];rfl
 ·intro rec r _;simp only[Q201.s0];rw[show decide ((B4 (aa.table n):Int)<(B4 n.2.2.2.2.2.2.2.2.1:Int))=false from aS _];rfl
theorem xB (K:Nat)(n m:aa)(p:af)(H:aa.table m=aa.table n/\m.1=n.1)(I:p=aa.probe n)(r:(aa.table n).length<=1048576)(J:1048577<K) :
  ((Q234.f K (aa.table n,(λu=>(Q235.f K (u.1,m,p,())).map λy=>y.1.1),())).bind λz=>Q73.f K (z.1.1,2,()))=some ((cO n,()),()):=by
 rw[qM K (aa.table n) _ (p6 n) r J (λf _=>by
  simp only[Q235.f,p6];rw[H.2,I];cases f.2.2.1==1 <;> cases f.1 != n.1 <;> cases f.1 != (aa.probe n).1 <;> rfl)]
 simp only[B3];rw[qL K _ 2 (by rw[CG];exact CL (CU _ _) r)];rfl
theorem zg (K:Nat)(n:aa)(h:cf n)(h0:0<=(aa.probe n).2.1)(h1:(aa.probe n).2.1<=1000000)(a0:0<=n.2.2.2.2.2.1)(a1:n.2.2.2.2.2.1<=1000000)(u:1048577<K) :
  Q236.f K (n,())=some (((bd n).2,()),((bd n).1,())):=by
 simp only[Q236.f,Q236.pre,zcp8];obtain⟨b,Y⟩:=gJ K (aa.table n) (aa.probe n).1 h.table h.lt u;rw[show Q23.f K (n.2.2.2.2.2.2.2.2.1,n.2.2.2.2.2.2.2.2.2.2.1.1,())=_ from Y];simp only[B3,bd];show (bif (aa.probe n).1==-1 then _ else _)=_;cases (aa.probe n).1==-1 with
 |true=>rfl
 |false =>
  simp only[cond_false];rw[show Q233.f K (n,n.2.2.2.2.2.2.2.2.2.2.1.1,())=_ from tz K n (aa.probe n).1 h.table h.lt u];simp only[B3];cases Z:cW (aB (aa.table n) (aa.probe n).1) with
  |false=>rfl
  |true =>
   have X:=cC h.table (eE Z);simp only[CB,cond_false];rw[aA (n:=n.2.2.2.2.2.1-n.2.2.2.2.2.2.2.2.2.2.1.2.1) (by show -9223372036854775808<=n.2.2.2.2.2.1-(aa.probe n).2.1;omega) (by show n.2.2.2.2.2.1-(aa.probe n).2.1<=9223372036854775807;omega)];show (bif decide (n.2.2.2.2.2.1-(aa.probe n).2.1>=4) then _ else _)=_;cases decide (n.2.2.2.2.2.1-(aa.probe n).2.1>=4) with
   |true =>
    simp only[cond_true];cases (aB (aa.table n) (aa.probe n).1).2.2.1==1 with
    |true =>
     simp only[cond_true];refine (congrArg (λo=>CI o _) (sJ K (setP n noP) (mr (aB (aa.table n) (aa.probe n).1)) n.1 (h.setP noP) (qO X.1) u)).trans ?_;rfl
    |false=>rfl
   |false =>
    simp only[cond_false];show (bif decide (n.2.2.2.2.2.1-(aa.probe n).2.1>=2) then _ else _)=_;cases decide (n.2.2.2.2.2.1-(aa.probe n).2.1>=2) with
    |false=>rfl
    |true =>
     simp only[cond_true];show (bif !(aa.probe n).2.2.2 then _ else _)=_;cases I:(aa.probe n).2.2.2 with
     |true=>rfl
     |false =>
      simp only[CO,cond_true];have R:=xB K n (jX n) (aa.probe n) ⟨rfl,rfl⟩ rfl h.lt u;obtain⟨y,O,z⟩:=Option.bind_eq_some_iff.1 R;refine (congrArg (λo=>CI o _) O).trans ?_;simp only[B3];rw[z];simp only[B3];have H:(cO n).length<=2:=Cn _ _;refine DH (lT (step:=λrec a=>Q236.s0 K (n,()) rec a) (cO n) (λ_=>true) (askW n) (λr i=>(r,cO n,(B4 (cO n):Int),(i:Int))) (λws=>some ((ws,()),(jX n,()))) ?_ ?_ (by omega)) (by rw[Ce.2 (λ_ _=>rfl)])
      ·intro rec r i J M;simp only[Q236.s0,zcp4,zcp8];rw[bz (by omega:(i:Int)<(B4 (cO n):Int)),ag J,ar i (by omega),B7,ag J];simp only[cond_true,B3,Q70.f];rw[szw _ _ _ (by omega) (by simp;omega)];rfl
      ·intro rec r M;simp only[Q236.s0,zcp4,zcp8,aS];rfl
theorem xC (K:Nat)(n:aa)(h:cf n)(hp:(aa.probe n).1≠-1)(h0:0<=(aa.probe n).2.1)(h1:(aa.probe n).2.1<=1000000)(Z:0<=n.2.2.2.2.2.1)(a0:n.2.2.2.2.2.1<=1000000)(y:1048577<K) :
  Q202.f K (n,())=some (((bd n).1,(bd n).2,()),()):=by
 simp only[Q202.f,Q202.pre,zcp8,bd];rw[show ((aa.probe n).1==-1)=false by simpa using hp];simp only[cond_false];rw[show Q200.f K (n.2.2.2.2.2.2.2.2.1,n.2.2.2.2.2.2.2.2.2.2.1.1,())=_ from tx K (aa.table n) (aa.probe n).1 h.table h.lt y];simp only[B3];cases J:cW (aB (aa.table n) (aa.probe n).1) with
 |false=>rfl
 |true =>
  have u:=cC h.table (eE J);simp only[CB,cond_false];rw[aA (n:=n.2.2.2.2.2.1-n.2.2.2.2.2.2.2.2.2.2.1.2.1) (by show -9223372036854775808<=n.2.2.2.2.2.1-(aa.probe n).2.1;omega) (by show n.2.2.2.2.2.1-(aa.probe n).2.1<=9223372036854775807;omega)];show (bif decide (n.2.2.2.2.2.1-(aa.probe n).2.1>=4) then _ else _)=_;cases decide (n.2.2.2.2.2.1-(aa.probe n).2.1>=4) with
  |true =>
   simp only[cond_true];obtain⟨o,Y,R⟩:=fP K (aa.table n) (aa.probe n).1 h.lt y;rw[show Q103.f K (n.2.2.2.2.2.2.2.2.1,n.2.2.2.2.2.2.2.2.2.2.1.1,())=_ from R];simp only[B3];cases Y with
   |no z=>exact absurd (eE J) (λ⟨f,u,e⟩=>z f u e)
   |at_ j M e =>
    simp only;rw[show idx n.2.2.2.2.2.2.2.2.1 ((j:Nat):Int)=some (aa.table n)[j] from ag M,fD h.table.2 (B5 M) u.2.2 (by rw[e,u.2.1])];simp only[B3];cases (aB (aa.table n) (aa.probe n).1).2.2.1==1 with
    |true =>
     simp only[cond_true];refine (congrArg (λo=>CI o _) (pY K (setP n noP) (mr (aB (aa.table n) (aa.probe n).1)) n.1 (h.setP noP) y)).trans ?_;rfl
    |false=>rfl
  |false =>
   simp only[cond_false];show (bif decide (n.2.2.2.2.2.1-(aa.probe n).2.1>=2) then _ else _)=_;cases decide (n.2.2.2.2.2.1-(aa.probe n).2.1>=2) with
   |false=>rfl
   |true =>
    simp only[cond_true];show (bif !(aa.probe n).2.2.2 then _ else _)=_;cases I:(aa.probe n).2.2.2 with
    |true=>rfl
    |false =>
     simp only[CO,cond_true];refine (congrArg (λo=>CI o _) (xA K (jX n) h.lt y)).trans ?_;simp only[B3];rw[show cO (jX n)=cO n from rfl];have H:(cO n).length<=2:=Cn _ _;refine DH (lT (step:=λrec a=>Q202.s0 K (n,()) rec a) (cO n) (λ_=>true) (askW n) (λr i=>(r,cO n,(i:Int))) (λws=>some ((jX n,ws,()),())) ?_ ?_ (by omega)) (by rw[Ce.2 (λ_ _=>rfl)])
     ·intro rec r i O X;simp only[Q202.s0,zcp8];rw[bz (by omega:(i:Int)<(B4 (cO n):Int)),ag O,ar i (by omega),B7,ag O];simp only[cond_true,B3,Q147.f];rw[szb _ _ _ (by omega) (by simp)];simp only[cond_true,B3];rw[szw _ _ _ (by omega) (by simp;omega)];rfl
     ·intro rec r X;simp only[Q202.s0,zcp8,aS];rfl
def gK (n:aa)(i:Int):aa:=(n.1,n.2.1,n.2.2.1,n.2.2.2.1,i,n.2.2.2.2.2)
def eR (n:aa)(f:af):aa:=bif decide (bM f (aB (aa.table n) n.1))&&decide (f.2.1<999) then sayOf (gK n (f.2.1+1)) (n.1,f.2.1+1,1,n.2.2.2.1) n.1 else n
def dX (f:af)(b:Int)(d:bt):bt:=bif d.1==f.1&&d.2.1==f.2.1&&f.2.2.1==2 then (d.1,d.2.1,d.2.2.1,bD (λx:Int=>x) b d.2.2.2) else d
def jY (n:aa)(f:af)(b:Int):aa:=gl n (aa.table n) (aa.cast n) ((aa.doubts n).map (dX f b))
def c6 (b:Int)(n:aa)(f:af):aa:=bif f.1==n.1 then eR n f else jY (sayOf n f b) f b
def dC (n:aa)(t:List af)(b:Int):aa:=t.foldl (c6 b) n
def lw (l:List Int):Prop:=Asc (λx:Int=>x) l/\∀ x∈l,InP x 0 7
theorem lw.len {l:List Int}(h:lw l):l.length<=8:=jh h.1 h.2
theorem lw.put {l:List Int}{b:Int}(h:lw l)(u:InP b 0 7):lw (bD (λx:Int=>x) b l) :=
 ⟨fE h.1,λx r=>by
  rcases aW.1 r with rfl|⟨r,_⟩
  ·exact u
  ·exact h.2 x r⟩
structure dD (n:aa):Prop where
 say:cf n
 me:InP n.1 0 7
 has:∃ g∈aa.table n,g.1=n.1
 by_:∀ d∈aa.doubts n,lw d.2.2.2
theorem cf.inc {n:aa}(h:cf n)(i:Int):cf (gK n i):=⟨h.table,h.cast,h.asc,h.inp,h.lt,h.lc,h.ld⟩
theorem kp {n:aa}{f:af}{b:Int}(y:InP b 0 7)(h:∀ d∈aa.doubts n,lw d.2.2.2):∀ d∈aa.doubts (sayOf n f b),lw d.2.2.2:=by
 obtain⟨t,c,z,e,_,_,H⟩:=iX n f b;rw[e];intro d r;have r:d∈z:=r;rcases H with rfl|rfl
 ·exact h d r
 ·rcases kM r with rfl|r
  ·exact⟨DO _ _,λx u=>by rw[Ca.1 u];exact y⟩
  ·exact h d r
theorem qP {n:aa}{f:af}(u:InP n.1 0 7)(r:bu f)(h:f.2.1<999):bu (n.1,f.2.1+1,1,n.2.2.2.1):=by
 obtain⟨_,⟨y,z⟩,_⟩:=r;exact⟨u,⟨show (0:Int)<=f.2.1+1 by omega,show f.2.1+1<=999 by omega⟩,show (1:Int)<=1 by omega,show (1:Int)<=4 by omega⟩
theorem dD.refute {n:aa}{f:af}(h:dD n)(H:bu f):dD (eR n f):=by
 unfold eR;cases z:decide (bM f (aB (aa.table n) n.1))&&decide (f.2.1<999) with
 |false=>exact h
 |true =>
  have M:f.2.1<999:=by
   rw[DA]at z;exact of_decide_eq_true z.2
  obtain⟨u,_⟩:=dw (gK n (f.2.1+1)) (n.1,f.2.1+1,1,n.2.2.2.1) n.1;refine⟨iH (h.say.inc _) (qP h.me H M),?_,?_,kp h.me h.by_⟩
  ·show InP (sayOf (gK n (f.2.1+1)) (n.1,f.2.1+1,1,n.2.2.2.1) n.1).1 0 7;rw[u];exact h.me
  ·obtain⟨g,I,e⟩:=h.has;obtain⟨y,r,J⟩:=iY (n:=gK n (f.2.1+1)) (f:=(n.1,f.2.1+1,1,n.2.2.2.1)) (b:=n.1) (g:=g) I;refine⟨y,r,?_⟩;show y.1=(sayOf (gK n (f.2.1+1)) (n.1,f.2.1+1,1,n.2.2.2.1) n.1).1;rw[u,J,e];rfl
theorem dD.confirm {n:aa}{f:af}{b:Int}(h:dD n)(X:bu f)(M:InP b 0 7):dD (jY (sayOf n f b) f b):=by
 have u:=iH (b:=b) h.say X;obtain⟨O,_⟩:=dw n f b;have z:=kp (f:=f) M h.by_;obtain⟨g,Y,e⟩:=h.has;obtain⟨R,H,Z⟩:=iY (n:=n) (f:=f) (b:=b) Y;have I:∀ d,(dX f b d).1=d.1:=λd=>by unfold dX;cases d.1==f.1&&d.2.1==f.2.1&&f.2.2.1==2 <;> rfl
 refine⟨⟨u.table,u.cast,?_,λd J=>?_,u.lt,u.lc,?_⟩,?_,⟨R,H,?_⟩,λd J=>?_⟩
 ·show Asc (λd:bt=>d.1) ((aa.doubts (sayOf n f b)).map (dX f b));unfold Asc;rw[CT];exact u.asc.imp λ {a c} h=>by show (dX f b a).1<(dX f b c).1;rw[I,I];exact h
 ·obtain⟨y,r,rfl⟩:=CM.1 J;rw[I];exact u.inp y r
 ·show ((aa.doubts (sayOf n f b)).map (dX f b)).length<=_;rw[CG];exact u.ld
 ·show InP (sayOf n f b).1 0 7;rw[O];exact h.me
 ·show R.1=(sayOf n f b).1;rw[O,Z,e]
 ·obtain⟨y,r,rfl⟩:=CM.1 J;unfold dX;cases y.1==f.1&&y.2.1==f.2.1&&f.2.2.1==2 with
  |false=>exact z y r
  |true=>exact (z y r).put M
theorem dD.step {n:aa}{f:af}{b:Int}(h:dD n)(r:bu f)(u:InP b 0 7):dD (c6 b n f):=by
 unfold c6;cases f.1==n.1 with
 |true=>exact h.refute r
 |false=>exact h.confirm r u
theorem tA {α A R:Type}(ds:List α)(g:α->α)(S:List α->Nat->A)(u:List α->Option R){step:(A->Option R)->A->Option R}
  (h:∀ (rec:A->Option R) (cur:List α) (i:Nat) (X:i<ds.length),cur.length=ds.length->cur[i]?=some ds[i]->step rec (S cur i)=rec (S (cur.set i (g ds[i])) (i+1)))
  (z:∀ (rec:A->Option R) (cur:List α),cur.length=ds.length->step rec (S cur ds.length)=u cur) {k:Nat} (J:ds.length<k):ae step k (S ds 0)=u (ds.map g):=by
 have:∀ (d i k:Nat) (cur:List α),i+d=ds.length->d<k->cur.length=ds.length->(∀ j,(r:j<ds.length)->cur[j]?=some (if j<i then g ds[j] else ds[j]))->ae step k (S cur i)=u (ds.map g):=by
  intro d;induction d with
  |zero =>
   intro i k cur X J H I;obtain⟨k,rfl⟩:∃ M,k=M+1:=⟨k-1,by omega⟩;have:i=ds.length:=by omega
   subst this;show step (ae step k) _=_;rw[z _ _ H];congr 1;refine List.ext_getElem? λj=>?_
   rw[List.getElem?_map];by_cases r:j<ds.length
   ·rw[I j r,if_pos r,CD r];rfl
   ·rw[Cv (by omega),Cv (by omega)];rfl
  |succ d Y =>
   intro i k cur X J H I;obtain⟨k,rfl⟩:∃ M,k=M+1:=⟨k-1,by omega⟩;have y:i<ds.length:=by omega
   show step (ae step k) _=_;rw[h (ae step k) cur i y H (by rw[I i y,if_neg (by omega)])];refine Y (i+1) k _ (by omega) (by omega) (by rw[DT,H]) λj r=>?_
   rw[List.getElem?_set];by_cases e:i=j
   ·subst e;rw[if_pos rfl,if_pos (by omega),if_pos (by omega)]
   ·rw[if_neg e,I j r];by_cases O:j<i
    ·rw[if_pos O,if_pos (by omega)]
    ·rw[if_neg O,if_neg (by omega)]
 exact this ds.length 0 k ds (by omega) J rfl (λj r=>by rw[if_neg (by omega),CD r])
theorem mt {α:Type}{cur:List α}{i:Nat}{x:α}(h:cur[i]?=some x):cur.set i x=cur:=by
 obtain⟨r,e⟩:=List.getElem?_eq_some_iff.1 h;rw[<- e,List.set_getElem_self]
theorem tB {by_:List Int}{b:Int}{m:Nat}(z:m<=by_.length)(u:by_.length<=8){R:Type}(G:List Int->Option R) :
  (bif decide ((0:Int)<=0)&&decide ((0:Int)<=(m:Int))&&decide ((m:Int)<=(B4 by_:Int))&&true then (bif decide ((B4 ([]:List Int)+B4 ((by_.take (B6 (m:Int))).drop (B6 0)))*8<=am) then (bif decide ((B4 ([]++((by_.take (B6 (m:Int))).drop (B6 0)))+B4 ([b]))*8<=am) then (bif decide ((0:Int)<=(m:Int))&&decide ((m:Int)<=(B4 by_:Int))&&decide ((B4 by_:Int)<=(B4 by_:Int))&&true then (bif decide ((B4 (([]++((by_.take (B6 (m:Int))).drop (B6 0)))++([b]))+B4 ((by_.take (B6 (B4 by_:Int))).drop (B6 (m:Int))))*8<=am) then G ((([]++((by_.take (B6 (m:Int))).drop (B6 0)))++([b]))++((by_.take (B6 (B4 by_:Int))).drop (B6 (m:Int)))) else none) else none) else none) else none) else none)=G (by_.take m++[b]++by_.drop m):=by
 rw[decide_eq_true (by omega:(0:Int)<=0),decide_eq_true (by omega:(0:Int)<=(m:Int)),decide_eq_true (by omega:(m:Int)<=(B4 by_:Int)),decide_eq_true (by omega:(B4 by_:Int)<=(B4 by_:Int))];simp only[B7,DG,CW,CJ,Cz,Cu,cond_true];have r:(by_.take m).length=m:=by rw[CY];omega
 have y:(by_.drop m).length=by_.length-m:=Cp;rw[szb _ _ _ (by omega) (by simp only[CE];omega),szb _ _ _ (by omega) (by simp only[B9,CE];omega),szb _ _ _ (by omega) (by simp only[CK,B9,CE];omega)];rfl
theorem xD (K:Nat)(n:aa)(f:af)(b:Int)(hd:∀ d∈aa.doubts n,lw d.2.2.2)(hl:(aa.doubts n).length<=1048576)(hK:1048577<K):Q141.f K (n,f,b,())=some ((jY n f b,()),()):=by
 simp only[Q141.f,Q141.pre];refine tA (step:=λrec a=>Q141.s0 K (n,f,b,()) (Q141.l1 K (n,f,b,()) rec) rec a) (aa.doubts n) (dX f b) (λu i=>((i:Int),u)) (λu=>some ((gl n (aa.table n) (aa.cast n) u,()),())) ?_ ?_ (by omega)
 ·intro rec u i hi X I;have M:i<u.length:=by omega
  have a1:u[i]=(aa.doubts n)[i]:=by
   rw[CD M]at I;exact Dk I
  have R:=hd _ (B5 hi);simp only[Q141.s0,zcp8];rw[bz (by omega:(i:Int)<(B4 u:Int)),ag M,ar i (by omega),B7,ag M,a1];simp only[cond_true,B3];generalize a8:(aa.doubts n)[i]=d at R I ⊢;have y:rec (((i+1:Nat):Int),u)=rec (((i+1:Nat):Int),u.set i d):=by rw[mt I]
  unfold dX;by_cases h1:d.1=f.1
  case neg =>
   rw[show (d.1 != f.1)=true by simpa using h1,show (d.1==f.1)=false by simpa using h1];exact y
  by_cases h2:d.2.1=f.2.1
  case neg =>
   rw[show (d.1 != f.1)=false by simpa using h1,show (d.2.1 != f.2.1)=true by simpa using h2,show (d.2.1==f.2.1)=false by simpa using h2,DI];exact y
  by_cases h3:f.2.2.1=2
  case neg =>
   rw[show (d.1 != f.1)=false by simpa using h1,show (d.2.1 != f.2.1)=false by simpa using h2,show (f.2.2.1 != 2)=true by simpa using h3,show (f.2.2.1==2)=false by simpa using h3,DI];exact y
  rw[show (d.1 != f.1)=false by simpa using h1,show (d.2.1 != f.2.1)=false by simpa using h2,show (f.2.2.1 != 2)=false by simpa using h3,show (d.1==f.1)=true by simpa using h1,show (d.2.1==f.2.1)=true by simpa using h2,show (f.2.2.1==2)=true by simpa using h3];simp only[cond_false,Cu,cond_true];have a0:=R.len;have a2:∀ m:Nat,m<=d.2.2.2.length->(∀ j,(J:j<d.2.2.2.length)->j<m->d.2.2.2[j]<b)->(∀ j,(J:j<d.2.2.2.length)->m<=j->b<d.2.2.2[j])->d.2.2.2.take m++[b]++d.2.2.2.drop m=bD (λx:Int=>x) b d.2.2.2:=λm Y lo hi=>gI (k:=λx:Int=>x) Y lo hi
  have:=bL (step:=λr a=>Q141.s1 K (n,f,b,()) rec r a) d.2.2.2.length (λj=>((i:Int),(j:Int),u,d.1,d.2.1,d.2.2.1,d.2.2.2)) (λj=>∃ h:j<d.2.2.2.length,¬ d.2.2.2[j]<b)
   (rec (((i+1:Nat):Int),u.set i (d.1,d.2.1,d.2.2.1,d.2.2.2.take d.2.2.2.length++[b]++d.2.2.2.drop d.2.2.2.length)))
   (λj=>if h:j<d.2.2.2.length then (if d.2.2.2[j]=b then rec (((i+1:Nat):Int),u) else rec (((i+1:Nat):Int),u.set i (d.1,d.2.1,d.2.2.1,d.2.2.2.take j++[b]++d.2.2.2.drop j))) else none) ?_ ?_ d.2.2.2.length K 0 (by omega) (by omega)
  ·rcases this with ⟨a5,he⟩|⟨j,_,J,⟨Z,a7⟩,a4,he⟩
   ·refine DH he ?_;rw[a2 _ (CH _) (λj J _=>by
     by_cases O:d.2.2.2[j]<b
     ·exact O
     ·exact absurd ⟨J,O⟩ (a5 j (CS _) J)) (λj J Y=>by omega)]
   ·refine DH he ?_;rw[dif_pos Z];have lo:∀ m,(Y:m<d.2.2.2.length)->m<j->d.2.2.2[m]<b:=λm Y a6=>by
     by_cases O:d.2.2.2[m]<b
     ·exact O
     ·exact absurd ⟨Y,O⟩ (a4 m (CS _) a6)
    by_cases H:d.2.2.2[j]=b
    ·rw[if_pos H,<- iF (k:=λx:Int=>x) R.1 Z H];rw[show d.2.2.2.set j b=d.2.2.2 from mt (by rw[CD Z,H])];exact y
    ·rw[if_neg H,a2 j (by omega) lo (λm Y a3=>by
      rcases CZ a3 with h4|rfl
      ·have:=cI.1 R.1 j m (by omega) Y h4;omega
      ·omega)]
  ·intro r j J;simp only[Q141.s1];rw[bz (by omega:(j:Int)<(B4 d.2.2.2:Int)),ag J,ar j (by omega)];simp only[cond_true,B3];by_cases O:d.2.2.2[j]<b
   ·left;refine⟨λ⟨_,h⟩=>h O,?_⟩;rw[decide_eq_true O];rfl
   ·right;refine⟨⟨J,O⟩,?_⟩;rw[decide_eq_false O,show ((j:Int)==(B4 d.2.2.2:Int))=false by simp;omega,dif_pos J];simp only[cond_false];by_cases H:d.2.2.2[j]=b
    ·rw[if_pos H,show (d.2.2.2[j] != b)=false by simpa using H,ar i (by omega)];rfl
    ·rw[if_neg H,show (d.2.2.2[j] != b)=true by simpa using H];simp only[cond_true];refine (tB (m:=j) (b:=b) (Nat.le_of_lt J) a0 (λz=>(idx u (i:Int)).bind λ_=>(idx u (B6 (i:Int):Nat)).bind λ_=>rec (wr .i64 ((i:Int)+1),u.set (B6 (i:Int)) (d.1,(d.2.1,(d.2.2.1,z)))))).trans ?_;rw[B7,ag M,ar i (by omega)];rfl
  ·intro r;simp only[Q141.s1];rw[aS];simp only[cond_false,beq_self_eq_true,cond_true];refine (tB (b:=b) (CH _) a0 (λz=>(idx u (i:Int)).bind λ_=>(idx u (B6 (i:Int):Nat)).bind λ_=>rec (wr .i64 ((i:Int)+1),u.set (B6 (i:Int)) (d.1,(d.2.1,(d.2.2.1,z)))))).trans ?_;rw[B7,ag M,ar i (by omega)];rfl
 ·intro rec u X;simp only[Q141.s0,zcp8];rw[<- X,aS];rfl
theorem zh (K:Nat)(n:aa)(f:af)(h:dD n)(M:bu f)(H:1048577<K):Q140.f K (n,f,())=some ((eR n f,()),()):=by
 simp only[Q140.f,zcp4];have r:=cC h.say.table h.has;obtain⟨o,J,I⟩:=fP K (aa.table n) n.1 h.say.lt H;rw[show Q103.f K (n.2.2.2.2.2.2.2.2.1,n.1,())=_ from I];simp only[B3];cases J with
 |no u=>exact absurd h.has (λ⟨g,O,e⟩=>u g O e)
 |at_ j y e =>
  simp only;rw[show idx n.2.2.2.2.2.2.2.2.1 ((j:Nat):Int)=some (aa.table n)[j] from ag y,fD h.say.table.2 (B5 y) r.2.2 (by rw[e,r.2.1])];simp only[B3];rw[pX];obtain⟨_,⟨X,R⟩,_⟩:=M;simp only[rb,B3,eR];cases decide (bM f (aB (aa.table n) n.1)) with
  |false=>rfl
  |true =>
   simp only[CB,cond_false,Cb];by_cases z:f.2.1<999
   ·rw[decide_eq_false (by omega:¬ f.2.1>=999),decide_eq_true z,aA (by omega) (by omega)];simp only[cond_false,cond_true];refine (congrArg (λo=>CI o _) (pY K (gK n (f.2.1+1)) (n.1,f.2.1+1,1,n.2.2.2.1) n.1 (h.say.inc _) H)).trans ?_;rfl
   ·rw[decide_eq_true (by omega:f.2.1>=999),decide_eq_false z];rfl
theorem vh (K:Nat)(n:aa)(t:List af)(b:Int)(h:dD n)(I:∀ f∈t,bu f)(J:t.length<=1048576)(z:InP b 0 7)(y:1048577<K):Q142.f K (n,t,b,())=some ((dC n t b,()),()):=by
 refine jT (step:=λrec a=>Q142.s0 K (n,t,b,()) rec a) t (c6 b) dD (λm i=>((i:Int),m.1,m.2.1,m.2.2.1,m.2.2.2.1,m.2.2.2.2.1,m.2.2.2.2.2.1,m.2.2.2.2.2.2.1,m.2.2.2.2.2.2.2.1,m.2.2.2.2.2.2.2.2.1,m.2.2.2.2.2.2.2.2.2.1,m.2.2.2.2.2.2.2.2.2.2.1.1,m.2.2.2.2.2.2.2.2.2.2.1.2.1,m.2.2.2.2.2.2.2.2.2.2.1.2.2.1,m.2.2.2.2.2.2.2.2.2.2.1.2.2.2,m.2.2.2.2.2.2.2.2.2.2.2.1,m.2.2.2.2.2.2.2.2.2.2.2.2.1.1,m.2.2.2.2.2.2.2.2.2.2.2.2.1.2.1,m.2.2.2.2.2.2.2.2.2.2.2.2.1.2.2.1,m.2.2.2.2.2.2.2.2.2.2.2.2.1.2.2.2,m.2.2.2.2.2.2.2.2.2.2.2.2.2.1,m.2.2.2.2.2.2.2.2.2.2.2.2.2.2)) (λm=>some ((m,()),())) n h ?_ ?_ (by omega)
 ·intro rec m i H r;have u:=I _ (B5 H);refine⟨?_,r.step u z⟩;simp only[Q142.s0,zc286a0,zc3ec45];rw[bz (by omega:(i:Int)<(B4 t:Int)),ag H,ar i (by omega)];simp only[cond_true,B3];generalize t[i]=f at u ⊢;unfold c6;cases f.1==m.1 with
  |true =>
   simp only[cond_true];refine (congrArg (λo=>CI o _) (zh K m f r u y)).trans ?_;rfl
  |false =>
   simp only[cond_false];refine (congrArg (λo=>CI o _) (pY K m f b r.say y)).trans ?_;simp only[B3];rw[xD K (sayOf m f b) f b (kp z r.by_) (iH r.say u).ld y];rfl
 ·intro rec m r;simp only[Q142.s0,zc286a0,zc3ec45];rw[aS];rfl
theorem Ax (K:Nat)(l:List Int)(v:Int)(Z:l.length<=1048576)(R:Asc (λx:Int=>x) l)(hK:1048577<K) :
  ∃ m,m<=l.length/\(∀ i,(h:i<l.length)->i<m->l[i]<v)/\(∀ i,(h:i<l.length)->m<=i->v<=l[i])/\Q64.f K (l,v,())=some ((((m:Nat):Int),decide (∃ h:m<l.length,l[m]=v),()),()):=by
 let ks:Nat->Int:=λi=>if h:i<l.length then l[i] else 0
 have r:∀ i (h:i<l.length),ks i=l[i]:=λi h=>by simp[ks,h]
 let u:Nat->Option ((Int×Bool×Unit)×Unit):=λm=>some ((((m:Nat):Int),decide (∃ h:m<l.length,l[m]=v),()),())
 have:=pQ (step:=λrec a=>Q64.s0 K (l,v,()) rec a) (ks:=ks) (n:=l.length) (t:=v) u Z
  (λi j z I=>by
   rw[r i (by omega),r j I];exact cI.1 R i j (by omega) I z) ?_ ?_ l.length K 0 l.length (by omega) (CS _) (CH _) (by omega) (λi y=>by omega) (λi y hn=>by omega)
 ·obtain⟨m,J,M,h3,h4⟩:=this;exact⟨m,J,λi h y=>by rw[<- r i h];exact M i y,λi h y=>by rw[<- r i h];exact h3 i y h,h4⟩
 ·intro rec a b Y hb;have H:(a+b) / 2<l.length:=by omega
  simp only[Q64.s0];rw[decide_eq_true (by omega:(a:Int)<(b:Int)),nY (by omega)];simp only[cond_true];rw[ag H];simp only[B3,Q62.f,Q19.f,bne_self_eq_false,cond_false];rw[r _ H,ar _ (by omega)];by_cases h:l[(a+b) / 2]<v
  ·rw[if_pos h,decide_eq_true h];rfl
  ·rw[if_neg h,decide_eq_false h];rfl
 ·intro rec a ha;simp only[Q64.s0];rw[decide_eq_false (by omega)];simp only[cond_false];by_cases h:a<l.length
  ·rw[decide_eq_true (by omega:(a:Int)<(B4 l:Int)),ag h];simp only[cond_true,B3,Q63.f,bne_self_eq_false,cond_false];by_cases e:l[a]=v
   ·rw[show (l[a]==v)=true by simpa using e];simp only[cond_true,u];rw[decide_eq_true ⟨h,e⟩]
   ·rw[show (l[a]==v)=false by simpa using e];simp only[cond_false,u];rw[decide_eq_false (λ⟨_,X⟩=>e X)]
  ·rw[decide_eq_false (by omega:¬ (a:Int)<(B4 l:Int))];simp only[cond_false,u];rw[decide_eq_false (λ⟨O,_⟩=>h O)]
abbrev flN {R:Type}(n:aa)(r:R):=(n.1,n.2.1,n.2.2.1,n.2.2.2.1,n.2.2.2.2.1,n.2.2.2.2.2.1,n.2.2.2.2.2.2.1,n.2.2.2.2.2.2.2.1,n.2.2.2.2.2.2.2.2.1,n.2.2.2.2.2.2.2.2.2.1,n.2.2.2.2.2.2.2.2.2.2.1.1,n.2.2.2.2.2.2.2.2.2.2.1.2.1,n.2.2.2.2.2.2.2.2.2.2.1.2.2.1,n.2.2.2.2.2.2.2.2.2.2.1.2.2.2,n.2.2.2.2.2.2.2.2.2.2.2.1,n.2.2.2.2.2.2.2.2.2.2.2.2.1.1,n.2.2.2.2.2.2.2.2.2.2.2.2.1.2.1,n.2.2.2.2.2.2.2.2.2.2.2.2.1.2.2.1,n.2.2.2.2.2.2.2.2.2.2.2.2.1.2.2.2,n.2.2.2.2.2.2.2.2.2.2.2.2.2.1,n.2.2.2.2.2.2.2.2.2.2.2.2.2.2,r)
abbrev flE (n:aa):=(n.1,n.2.1,n.2.2.1,n.2.2.2.1,n.2.2.2.2.1,n.2.2.2.2.2.1,n.2.2.2.2.2.2.1,n.2.2.2.2.2.2.2.1,n.2.2.2.2.2.2.2.2.1,n.2.2.2.2.2.2.2.2.2.1,n.2.2.2.2.2.2.2.2.2.2.1.1,n.2.2.2.2.2.2.2.2.2.2.1.2.1,n.2.2.2.2.2.2.2.2.2.2.1.2.2.1,n.2.2.2.2.2.2.2.2.2.2.1.2.2.2,n.2.2.2.2.2.2.2.2.2.2.2.1,n.2.2.2.2.2.2.2.2.2.2.2.2.1.1,n.2.2.2.2.2.2.2.2.2.2.2.2.1.2.1,n.2.2.2.2.2.2.2.2.2.2.2.2.1.2.2.1,n.2.2.2.2.2.2.2.2.2.2.2.2.1.2.2.2,n.2.2.2.2.2.2.2.2.2.2.2.2.2.1,n.2.2.2.2.2.2.2.2.2.2.2.2.2.2)
theorem xE (K:Nat)(n0:aa)(t:List af)(n:aa)(f:af)(b:Int)(i:Nat)(hi:i<=1048576)(hd:∀ d∈aa.doubts n,lw d.2.2.2)(hl:(aa.doubts n).length<=1048576)(hK:1048577<K)(I:Q65.A0->Option Q65.Res) :
  Q65.l1 K (n0,t,b,()) I ((i:Int),(B4 (aa.doubts n):Int),0,flN n f)=I (((i+1:Nat):Int),flE (jY n f b)):=by
 refine tA (step:=λr a=>Q65.s1 K (n0,t,b,()) I r a) (aa.doubts n) (dX f b) (λu k=>((i:Int),(B4 (aa.doubts n):Int),(k:Int),flN (gl n (aa.table n) (aa.cast n) u) f)) (λu=>I (((i+1:Nat):Int),flE (gl n (aa.table n) (aa.cast n) u))) ?_ ?_ (by omega)
 ·intro rec u k hk M H;have X:k<u.length:=by omega
  have O:u[k]=(aa.doubts n)[k]:=by
   rw[CD X]at H;exact Dk H
  have J:=hd _ (B5 hk);have z:idx u (k:Int)=some (aa.doubts n)[k]:=by rw[ag X,O]
  simp only[Q65.s1,zcp4,zcp8];rw[bz (by omega:(k:Int)<(B4 (aa.doubts n):Int)),ar k (by omega),B7];simp only[cond_true];refine (congrArg (λo=>CI o _) z).trans ?_;simp only[B3];generalize a2:(aa.doubts n)[k]=d at J H z ⊢;have y:rec ((i:Int),(B4 (aa.doubts n):Int),((k+1:Nat):Int),flN (gl n (aa.table n) (aa.cast n) u) f)=rec ((i:Int),(B4 (aa.doubts n):Int),((k+1:Nat):Int),flN (gl n (aa.table n) (aa.cast n) (u.set k d)) f):=by rw[mt H]
  unfold dX;by_cases h3:f.2.2.1=2
  case neg =>
   rw[show (f.2.2.1 != 2)=true by simpa using h3,show (f.2.2.1==2)=false by simpa using h3,DI];exact y
  rw[show (f.2.2.1 != 2)=false by simpa using h3,show (f.2.2.1==2)=true by simpa using h3];simp only[cond_false,Dn];refine (congrArg (λo=>CI o _) z).trans ?_;simp only[B3];by_cases h1:d.1=f.1
  case neg =>
   rw[show (d.1 != f.1)=true by simpa using h1,show (d.1==f.1)=false by simpa using h1,Cq];exact y
  rw[show (d.1 != f.1)=false by simpa using h1,show (d.1==f.1)=true by simpa using h1];simp only[cond_false,Cb];refine (congrArg (λo=>CI o _) z).trans ?_;simp only[B3];by_cases h2:d.2.1=f.2.1
  case neg =>
   rw[show (d.2.1 != f.2.1)=true by simpa using h2,show (d.2.1==f.2.1)=false by simpa using h2];exact y
  rw[show (d.2.1 != f.2.1)=false by simpa using h2,show (d.2.1==f.2.1)=true by simpa using h2];simp only[cond_false,cond_true];refine (congrArg (λo=>CI o _) z).trans ?_;simp only[B3];have a1:=J.len;obtain⟨m,hm,lo,Y,hs⟩:=Ax K d.2.2.2 b (by omega) J.1 hK;refine (congrArg (λo=>CI o _) hs).trans ?_;simp only[B3];by_cases hb:∃ h:m<d.2.2.2.length,d.2.2.2[m]=b
  ·rw[decide_eq_true hb];obtain⟨Z,e⟩:=hb;rw[show bD (λx:Int=>x) b d.2.2.2=d.2.2.2 by rw[<- iF (k:=λx:Int=>x) J.1 Z e];exact mt (by rw[CD Z,e])];exact y
  ·rw[decide_eq_false hb];simp only[CO,cond_true];refine (congrArg (λo=>CI o _) z).trans ?_;simp only[B3];refine (congrArg (λo=>CI o _) z).trans ?_;simp only[B3];have R:Q6.f K (d.2.2.2,(m:Int),[b],())=some ((d.2.2.2.take m++[b]++d.2.2.2.drop m,()),()):=jS hm (by decide) (by show d.2.2.2.length<=1048576;omega);refine (congrArg (λo=>CI o _) R).trans ?_;simp only[B3];refine (congrArg (λo=>CI o _) z).trans ?_;rw[<- gI (k:=λx:Int=>x) hm lo (λj hj a0=>by
    rcases Int.lt_or_eq_of_le (Y j hj a0) with h|h
    ·exact h
    ·exfalso;rcases CZ a0 with h4|rfl
     ·have:=cI.1 J.1 m j (by omega) hj h4;have h5:=Y m (by omega) (CH _);omega
     ·exact hb ⟨hj,h.symm⟩)]
   simp only[B3,Nat.beq_refl,cond_true];rfl
 ·intro rec u M;simp only[Q65.s1,zcp4,zcp8];rw[aS,ar i (by omega)];rfl
theorem zi {R:Type}(K:Nat)(n:aa)(f:af)(h:dD n)(r:bu f)(e:f.1=n.1)(y:1048577<K)(G:aa->Option R) :
  ((Q23.f K (aa.table n,n.1,())).bind λO=>(Q37.f K (f,O.1.1,())).bind λI=>bif I.1.1 then (bif decide (f.2.1<999) then ((Q61.f K (gK n (wr .i64 (f.2.1+1)),(n.1,wr .i64 (f.2.1+1),1,n.2.2.2.1),n.1,())).bind λY=>G Y.2.1) else G n) else G n)=G (eR n f):=by
 obtain⟨b',z⟩:=gJ K (aa.table n) n.1 h.say.table h.say.lt y;rw[z];simp only[B3];obtain⟨M,J,p3⟩:=cC h.say.table h.has;obtain⟨c,H,X⟩:=pR K f (aB (aa.table n) n.1) y;rw[H];have Z:c=decide (bM f (aB (aa.table n) n.1)):=by
  rw[Cd,X,decide_eq_true_eq];exact⟨λh=>h.2.2.2,λh=>⟨r,M,e.trans J.symm,h⟩⟩
 subst Z;obtain⟨_,⟨i0,i1⟩,_⟩:=id r;simp only[rb,B3,eR];cases decide (bM f (aB (aa.table n) n.1)) with
 |false=>rfl
 |true =>
  simp only[cond_true,Cb];by_cases u:f.2.1<999
  ·rw[decide_eq_true u,aA (by omega) (by omega)];simp only[cond_true];rw[sJ K (gK n (f.2.1+1)) (n.1,f.2.1+1,1,n.2.2.2.1) n.1 (h.say.inc _) (qP h.me r u) y];rfl
  ·rw[decide_eq_false u];rfl
theorem vi (K:Nat)(n:aa)(t:List af)(b:Int)(h:dD n)(J:∀ f∈t,bu f)(M:t.length<=1048576)(H:InP b 0 7)(y:1048577<K):Q65.f K (n,t,b,())=some ((),(dC n t b,())):=by
 refine jT (step:=λrec a=>Q65.s0 K (n,t,b,()) (Q65.l1 K (n,t,b,()) rec) rec a) t (c6 b) dD (λm i=>((i:Int),flE m)) (λm=>some ((),(m,()))) n h ?_ ?_ (by omega)
 ·intro rec m i I r;have u:=J _ (B5 I);refine⟨?_,r.step u H⟩;simp only[Q65.s0,zc286a0,zc3ec45,zcp4];rw[bz (by omega:(i:Int)<(B4 t:Int)),ag I,ar i (by omega)];simp only[cond_true,B3];generalize t[i]=f at u ⊢;unfold c6;by_cases e:f.1=m.1
  ·rw[show (f.1==m.1)=true by simpa using e];simp only[cond_true];exact zi K m f r u e y (λz=>rec (((i+1:Nat):Int),flE z))
  ·rw[show (f.1==m.1)=false by simpa using e];simp only[cond_false];refine (congrArg (λo=>CI o _) (sJ K m f b r.say u y)).trans ?_;simp only[B3];exact xE K n t (sayOf m f b) f b i (by omega) (kp H r.by_) (iH r.say u).ld y rec
 ·intro rec m r;simp only[Q65.s0,zc286a0,zc3ec45,zcp4];rw[aS];rfl
def dI {α:Type}(r:α->α->Bool)(x:α):List α->List α->List α
 |[],B=>x::B
 |y::A,B=>bif r x y then dI r x A (y::B) else (y::A).reverse++x::B
def c7 {α:Type}(r:α->α->Bool):List α->List α->List α
 |done,[]=>done
 |done,x::u=>c7 r (dI r x done.reverse []) u
theorem ph {α:Type}(r:α->α->Bool)(x:α):∀ (A B C:List α),dI r x A (B++C)=dI r x A B++C
 |[],B,C=>rfl
 |y::A,B,C=>by
  simp only[dI];cases r x y with
  |true=>exact ph r x A (y::B) C
  |false=>simp
theorem pi {α:Type}(r:α->α->Bool)(x:α):∀ (A B:List α),(dI r x A B).length=A.length+B.length+1
 |[],B=>by simp[dI]
 |y::A,B=>by
  simp only[dI];cases r x y with
  |true=>simp only[cond_true];rw[pi r x A (y::B)];simp;omega
  |false=>simp;omega
theorem nd {α:Type}(r:α->α->Bool)(x:α):∀ (A B:List α),(dI r x A B).Perm (x::(A.reverse++B))
 |[],B=>by simp[dI]
 |y::A,B=>by
  simp only[dI];cases r x y with
  |true=>exact (nd r x A (y::B)).trans (by simp)
  |false=>simp only[cond_false];exact Dd
theorem mu {α:Type}(r:α->α->Bool):∀ (xs done:List α),(c7 r done xs).Perm (done++xs)
 |[],done=>by simp[c7]
 |x::xs,done=>by
  simp only[c7];refine (mu r xs _).trans ?_;have:=nd r x done.reverse [];simp only[CP,CF]at this;exact (this.append_right xs).trans (by simpa using (Dd (a:=x) (l₁:=done) (l₂:=xs)).symm)
def kc {α:Type}(r:α->α->Bool)(xs:List α):Prop:=xs.Pairwise λa b=>r b a=false
theorem lx {α:Type}(r:α->α->Bool)(I:∀ a b c,r a b=false->r b c=false->r a c=false)(x:α) :
  ∀ (A B:List α),kc r A.reverse->dI r x A B=(A.reverse.filter λy=>!r x y)++x::((A.reverse.filter λy=>r x y)++B)
 |[],B,_=>rfl
 |y::A,B,h=>by
  simp only[dI];have M:kc r A.reverse:=by
   unfold kc at h ⊢;rw[Cm,Ck]at h;exact h.1
  cases z:r x y with
  |true =>
   simp only[cond_true];rw[lx r I x A (y::B) M];simp[z,Cs]
  |false =>
   have H:∀ a∈A.reverse,r x a=false:=λa u=>by
    unfold kc at h;rw[Cm,Ck]at h;exact I x y a z (h.2.2 a u y (by simp))
   simp only[cond_false];have J:(y::A).reverse.filter (λy=>!r x y)=(y::A).reverse:=Ce.2 λa u=>by
    rw[Cm,Cj,Ca]at u;rcases u with u|rfl
    ·rw[H a u];rfl
    ·rw[z];rfl
   have O:(y::A).reverse.filter (λy=>r x y)=[]:=Ct.2 λa u=>by
    rw[Cm,Cj,Ca]at u;rcases u with u|rfl
    ·rw[H a u];simp
    ·rw[z];simp
   rw[J,O];rfl
theorem wa {α:Type}(r:α->α->Bool)(I:∀ a b c,r a b=false->r b c=false->r a c=false)(u:∀ a b,r a b=true->r b a=false)(x:α)(A:List α)(h:kc r A):kc r (dI r x A.reverse []):=by
 rw[lx r I x A.reverse [] (by rwa [CP])];unfold kc at h ⊢;simp only[CP,CF];rw[Ck];refine⟨h.filter _,?_,?_⟩
 ·rw[CN];refine⟨λa z=>?_,h.filter _⟩;exact u _ _ (by simpa using (CA.1 z).2)
 ·intro a z b y;have H:r x a=false:=by simpa using (CA.1 z).2
  rcases Cg.1 y with rfl|y
  ·exact H
  ·have J:r x b=true:=by simpa using (CA.1 y).2
   exact I b x a (u _ _ J) H
theorem ne {α:Type}(r:α->α->Bool)(y:∀ a b c,r a b=false->r b c=false->r a c=false)(u:∀ a b,r a b=true->r b a=false):∀ (xs done:List α),kc r done->kc r (c7 r done xs)
 |[],done,h=>h
 |x::xs,done,h=>ne r y u xs _ (wa r y u x done h)
theorem oE {α:Type}(O:α->α->Bool):∀ {H u:List α},H.Perm u->kc O H->u.Pairwise (λa b=>O a b=true)->H=u
 |H,[],r,_,_=>r.eq_nil
 |[],z::u,r,_,_=>absurd r.symm.eq_nil (by simp)
 |y::H,z::u,r,I,J=>by
  unfold kc at I;rw[CN]at I J;have e:y=z:=by
   rcases Cg.1 (r.mem_iff.1 (Da ..)) with h|h
   ·exact h
   ·have R:=J.1 y h;rcases Cg.1 (r.symm.mem_iff.1 (Da ..)) with M|M
    ·exact M.symm
    ·rw[I.1 z M]at R;cases R
  subst e;rw[oE O r.cons_inv I.2 J.2]
abbrev SoR (α:Type):=Unit×(List α×Unit)
theorem wb {α R:Type}(u:α->α->Bool)(i:Int)(r:List α×Int->Option R){step:(List α×Int×Int->Option R)->List α×Int×Int->Option R}
  (h:∀ (rec:List α×Int×Int->Option R) (A:List α) (y x:α) (B:List α),A.length+B.length<=1048576->step rec (A++y::x::B,i,((A.length+1:Nat):Int))=bif u x y then rec (A++x::y::B,i,(A.length:Int)) else r (A++y::x::B,wr .i64 (i+1)))
  (O:∀ (rec:List α×Int×Int->Option R) (J:List α),step rec (J,i,0)=r (J,wr .i64 (i+1))) :
  ∀ (A B:List α) (x:α) (k:Nat),A.length+B.length<=1048576->A.length<k->ae step k (A.reverse++x::B,i,(A.length:Int))=r (dI u x A B,wr .i64 (i+1)):=by
 intro A;induction A with
 |nil =>
  intro B x k M z;obtain⟨k,rfl⟩:∃ H,k=H+1:=⟨k-1,by simp at z;omega⟩;exact O (ae step k) (x::B)
 |cons y A X =>
  intro B x k M z;simp only[B9]at z M;obtain⟨k,rfl⟩:∃ H,k=H+1:=⟨k-1,by omega⟩;have I:=h (ae step k) A.reverse y x B (by simp;omega);simp only[C3]at I;show step (ae step k) _=_;rw[Cm,Cc];simp only[B9,De,CJ,dI];rw[I];cases u x y with
  |true=>exact X (y::B) x k (by simp;omega) (by omega)
  |false=>simp
theorem uG {α:Type}(r:α->α->Bool){step:(List α×Int->Option (SoR α))->List α×Int->Option (SoR α)}(n:Nat)(O:n<=1048576)
  (h:∀ (rec:List α×Int->Option (SoR α)) (done:List α) (x:α) (xs:List α),done.length+1+xs.length=n->step rec (done++x::xs,(done.length:Int))=rec (dI r x done.reverse xs,wr .i64 ((done.length:Int)+1)))
  (J:∀ (rec:List α×Int->Option (SoR α)) (z:List α) (i:Int),(n:Int)<=i->step rec (z,i)=some ((),(z,()))) :
  ∀ (xs done:List α) (k:Nat),done.length+xs.length=n->xs.length<k->ae step k (done++xs,(done.length:Int))=some ((),(c7 r done xs,())):=by
 intro xs;induction xs with
 |nil =>
  intro done k u H;obtain⟨k,rfl⟩:∃ y,k=y+1:=⟨k-1,by omega⟩;show step (ae step k) _=_;rw[J _ _ _ (by simp at u;omega)];simp[c7]
 |cons x xs M =>
  intro done k u H;simp only[B9]at H u;obtain⟨k,rfl⟩:∃ y,k=y+1:=⟨k-1,by omega⟩;show step (ae step k) _=_;rw[h _ _ _ _ (by omega),ar _ (by omega)];have e:dI r x done.reverse xs=dI r x done.reverse []++xs:=ph r x done.reverse [] xs;have I:(dI r x done.reverse []).length=done.length+1:=by rw[pi];simp
  rw[e,<- I];exact M _ k (by rw[I];omega) (by omega)
theorem zj {α:Type}(u:α->α->Bool){step:(List α×Int->Option (SoR α))->List α×Int->Option (SoR α)}(xs:List α)(J:xs.length<=1048576)
  (h:∀ (rec:List α×Int->Option (SoR α)) (done:List α) (x:α) (r:List α),done.length+1+r.length=xs.length->step rec (done++x::r,(done.length:Int))=rec (dI u x done.reverse r,wr .i64 ((done.length:Int)+1)))
  (z:∀ (rec:List α×Int->Option (SoR α)) (H:List α) (i:Int),(xs.length:Int)<=i->step rec (H,i)=some ((),(H,()))) {k:Nat} (y:xs.length<k) :
  ae step k (xs,1)=some ((),(c7 u [] xs,())):=by
 cases xs with
 |nil =>
  obtain⟨k,rfl⟩:∃ I,k=I+1:=⟨k-1,by simp at y;omega⟩;exact z (ae step k) [] 1 (by simp)
 |cons x xs =>
  simp only[B9]at y;have:=uG u (xs.length+1) (by simpa using J) h z xs [x] k (by simp;omega) (by omega);exact this
theorem vj {α:Type}(A B:List α)(x:α):idx (A++x::B) (A.length:Int)=some x:=by
 rw[qI];simp
theorem tC {α:Type}(A B:List α)(y x:α):idx (A++y::x::B) ((A.length+1:Nat):Int)=some x:=by
 rw[qI];simp[List.getElem?_append_right]
theorem vk {α:Type}(A B:List α)(x v:α):(A++x::B).set A.length v=A++v::B:=by simp
theorem tD {α:Type}(A B:List α)(y x v:α):(A++y::x::B).set (A.length+1) v=A++y::v::B:=by
 simp[DW]
theorem uH {α R:Type}(P:α->Prop)(u:α->α->Bool)(i:Int)(r:List α×Int->Option R){step:(List α×Int×Int->Option R)->List α×Int×Int->Option R}
  (h:∀ (rec:List α×Int×Int->Option R) (A:List α) (y x:α) (B:List α),P y->P x->A.length+B.length<=1048576->step rec (A++y::x::B,i,((A.length+1:Nat):Int))=bif u x y then rec (A++x::y::B,i,(A.length:Int)) else r (A++y::x::B,wr .i64 (i+1)))
  (Z:∀ (rec:List α×Int×Int->Option R) (X:List α),step rec (X,i,0)=r (X,wr .i64 (i+1))) :
  ∀ (A B:List α) (x:α) (k:Nat),(∀ y∈A,P y)->P x->A.length+B.length<=1048576->A.length<k->ae step k (A.reverse++x::B,i,(A.length:Int))=r (dI u x A B,wr .i64 (i+1)):=by
 intro A;induction A with
 |nil =>
  intro B x k H M Y I;obtain⟨k,rfl⟩:∃ J,k=J+1:=⟨k-1,by simp at I;omega⟩;exact Z (ae step k) (x::B)
 |cons y A ih =>
  intro B x k H M Y I;simp only[B9]at I Y;obtain⟨k,rfl⟩:∃ J,k=J+1:=⟨k-1,by omega⟩;have O:=h (ae step k) A.reverse y x B (H y (by simp)) M (by simp;omega);simp only[C3]at O;show step (ae step k) _=_;rw[Cm,Cc];simp only[B9,De,CJ,dI];rw[O];cases u x y with
  |true=>exact ih (y::B) x k (λz hz=>H z (by simp[hz])) M (by simp;omega) (by omega)
  |false=>simp
theorem tE {α:Type}(P:α->Prop)(r:α->α->Bool){step:(List α×Int->Option (SoR α))->List α×Int->Option (SoR α)}(n:Nat)(hn:n<=1048576)
  (h:∀ (rec:List α×Int->Option (SoR α)) (done:List α) (x:α) (xs:List α),(∀ y∈done,P y)->P x->done.length+1+xs.length=n->step rec (done++x::xs,(done.length:Int))=rec (dI r x done.reverse xs,wr .i64 ((done.length:Int)+1)))
  (Z:∀ (rec:List α×Int->Option (SoR α)) (R:List α) (i:Int),(n:Int)<=i->step rec (R,i)=some ((),(R,()))) :
  ∀ (xs done:List α) (k:Nat),(∀ y∈done,P y)->(∀ y∈xs,P y)->done.length+xs.length=n->xs.length<k->ae step k (done++xs,(done.length:Int))=some ((),(c7 r done xs,())):=by
 intro xs;induction xs with
 |nil =>
  intro done k J H I X;obtain⟨k,rfl⟩:∃ M,k=M+1:=⟨k-1,by omega⟩;show step (ae step k) _=_;rw[Z _ _ _ (by simp at I;omega)];simp[c7]
 |cons x xs ih =>
  intro done k J H I X;simp only[B9]at X I;obtain⟨k,rfl⟩:∃ M,k=M+1:=⟨k-1,by omega⟩;show step (ae step k) _=_;rw[h _ _ _ _ J (H x (by simp)) (by omega),ar _ (by omega)];have e:dI r x done.reverse xs=dI r x done.reverse []++xs:=ph r x done.reverse [] xs;have Y:(dI r x done.reverse []).length=done.length+1:=by rw[pi];simp
  rw[e,<- Y];refine ih _ k (λz O=>?_) (λz O=>H z (by simp[O])) (by rw[Y];omega) (by omega);have u:=(nd r x done.reverse []).mem_iff.1 O;simp only[CP,CF,Cg]at u;rcases u with rfl|u
  ·exact H z (by simp)
  ·exact J z u
theorem xF {α:Type}(P:α->Prop)(z:α->α->Bool){step:(List α×Int->Option (SoR α))->List α×Int->Option (SoR α)}(xs:List α)(H:∀ y∈xs,P y)(O:xs.length<=1048576)
  (h:∀ (rec:List α×Int->Option (SoR α)) (done:List α) (x:α) (r:List α),(∀ y∈done,P y)->P x->done.length+1+r.length=xs.length->step rec (done++x::r,(done.length:Int))=rec (dI z x done.reverse r,wr .i64 ((done.length:Int)+1)))
  (M:∀ (rec:List α×Int->Option (SoR α)) (I:List α) (i:Int),(xs.length:Int)<=i->step rec (I,i)=some ((),(I,()))) {k:Nat} (J:xs.length<k) :
  ae step k (xs,1)=some ((),(c7 z [] xs,())):=by
 cases xs with
 |nil =>
  obtain⟨k,rfl⟩:∃ R,k=R+1:=⟨k-1,by simp at J;omega⟩;exact M (ae step k) [] 1 (by simp)
 |cons x xs =>
  simp only[B9]at J;have:=tE P z (xs.length+1) (by simpa using O) h M xs [x] k (λy u=>H y (by simpa using .inl (by simpa using u))) (λy u=>H y (by simp[u])) (by simp;omega) (by omega);exact this
def ltZ (a b:Int):Bool:=decide (a<b)
theorem Bq (K:Nat)(a b:Int):Q62.f K (a,b,())=some ((ltZ a b,()),()):=by
 simp only[Q62.f,Q19.f,ltZ];simp
theorem zk (K:Nat)(xs:List Int)(H:Int×Int×Unit->Option Int)(I:Int->Int->Bool)(P:Int->Prop)(X:∀ y∈xs,P y)(hφ:∀ y z,P y->P z->∃ c,H (y,z,())=some c/\decide (c<0)=I y z)(hx:xs.length<=1048576)(hK:1048577<K) :
  Q74.f K (xs,0,(xs.length:Int),H,())=some ((),(c7 I [] xs,())):=by
 refine xF P (step:=λrec a=>Q74.s0 K (xs,0,(xs.length:Int),H,()) (Q74.l1 K (xs,0,(xs.length:Int),H,()) rec) rec a) I xs X hx ?_ ?_ (by omega)
 ·intro rec done x r M O hl;simp only[Q74.s0];rw[decide_eq_true (by omega:((done.length:Int))<(xs.length:Int))];simp only[cond_true];have:=uH P I (done.length:Int) rec (step:=λu a=>Q74.s1 K (xs,0,(xs.length:Int),H,()) rec u a) ?_ ?_ done.reverse r x K (λy J=>M y (by simpa using J)) O (by simp;omega) (by simp;omega)
  ·rw[CP,C3]at this;exact this
  ·intro u A y z B J hz a0;simp only[Q74.s1];have R:wr .i64 (((A.length+1:Nat):Int)-1)=(A.length:Int):=(aA (by omega) (by omega)).trans (by omega);rw[decide_eq_true (by omega:((A.length+1:Nat):Int)>0)];obtain⟨c,Z,M⟩:=hφ z y hz J;simp only[cond_true,R,B7,tC,vj,B3,Z,M,tD,vk]
  ·intro u Y;simp only[Q74.s1];rw[decide_eq_false (by omega:¬ (0:Int)>0)];rfl
 ·intro rec Y i hi;simp only[Q74.s0];rw[decide_eq_false (by omega:¬ i<(xs.length:Int))];rfl
theorem zl (K:Nat)(xs:List Int)(u:Int×Int×Unit->Option Int)(H:Int->Int->Bool)(P:Int->Prop)(I:∀ y∈xs,P y)(hφ:∀ y z,P y->P z->∃ c,u (y,z,())=some c/\decide (c<0)=H y z)(R:xs.length<=19)(O:1048577<K) :
  Q76.f K (xs,u,())=some ((),(c7 H [] xs,())):=by
 simp only[Q76.f];have:Q75.f K (xs,(xs.length:Int),u,())=some ((),(c7 H [] xs,())):=by
  obtain⟨k,rfl⟩:∃ J,K=J+1:=⟨K-1,by omega⟩;show Q75.s0 _ _ _ _ _=_;simp only[Q75.s0];rw[decide_eq_false (by omega:¬ (20:Int)<=(xs.length:Int))];simp only[cond_false];rw[zk (k+1) xs u H P I hφ (by omega) O];simp only[B3];have M:∀ (r:Q75.A1->Option Q75.Res),Q75.s1 (k+1) (xs,(xs.length:Int),u,()) (Q75.l2 (k+1) (xs,(xs.length:Int),u,()) r) r (c7 H [] xs,20)=some ((),(c7 H [] xs,())):=by
   intro r;simp only[Q75.s1];rw[decide_eq_false (by omega:¬ (20:Int)<(xs.length:Int))];rfl
  exact M _
 rw[this];rfl
theorem zm (K:Nat)(xs:List Int)(J:xs.length<=1048576)(X:1048577<K) :
  Q78.f K (xs,0,(xs.length:Int),())=some ((),(c7 ltZ [] xs,())):=by
 refine zj (step:=λrec a=>Q78.s0 K (xs,0,(xs.length:Int),()) (Q78.l1 K (xs,0,(xs.length:Int),()) rec) rec a) ltZ xs J ?_ ?_ (by omega)
 ·intro rec done x r O;simp only[Q78.s0];rw[decide_eq_true (by omega:((done.length:Int))<(xs.length:Int))];simp only[cond_true];have:=wb ltZ (done.length:Int) rec (step:=λu a=>Q78.s1 K (xs,0,(xs.length:Int),()) rec u a) ?_ ?_ done.reverse r x K (by simp;omega) (by simp;omega)
  ·rw[CP,C3]at this;exact this
  ·intro u A y z B M;simp only[Q78.s1];have H:wr .i64 (((A.length+1:Nat):Int)-1)=(A.length:Int):=(aA (by omega) (by omega)).trans (by omega);rw[decide_eq_true (by omega:((A.length+1:Nat):Int)>0)];simp only[cond_true,H,B7,tC,vj,B3,tD,vk];rw[show Q62.f K (z,y,())=_ from Bq K z y];rfl
  ·intro u I;simp only[Q78.s1];rw[decide_eq_false (by omega:¬ (0:Int)>0)];rfl
 ·intro rec I i R;simp only[Q78.s0];rw[decide_eq_false (by omega:¬ i<(xs.length:Int))];rfl
theorem zn (K:Nat)(xs:List Int)(z:xs.length<=12)(I:1048577<K) :
  Q86.f K (xs,())=some ((),(c7 ltZ [] xs,())):=by
 simp only[Q86.f,Q85.f];obtain⟨l,u⟩:∃ l:Int,Q84.f K (wr .u64 (xs.length:Int),())=some ((l,()),()):=by
  have e:wr .u64 (xs.length:Int)=(xs.length:Int):=by
   show IntKind.u64.wrap _=_;have r:IntKind.u64.wrap (xs.length:Int)=(xs.length:Int) % 18446744073709551616:=by simp[IntKind.wrap,IntKind.bits,IntKind.signed]
   rw[r];omega
  rw[e];generalize J:xs.length=n at z;have:n=0\/n=1\/n=2\/n=3\/n=4\/n=5\/n=6\/n=7\/n=8\/n=9\/n=10\/n=11\/n=12:=by omega
  rcases this with rfl|rfl|rfl|rfl|rfl|rfl|rfl|rfl|rfl|rfl|rfl|rfl|rfl
  ·exact⟨0,by kernel_rfl⟩
  ·exact⟨1,by kernel_rfl⟩
  ·exact⟨2,by kernel_rfl⟩
  ·exact⟨2,by kernel_rfl⟩
  ·exact⟨3,by kernel_rfl⟩
  ·exact⟨3,by kernel_rfl⟩
  ·exact⟨3,by kernel_rfl⟩
  ·exact⟨3,by kernel_rfl⟩
  ·exact⟨4,by kernel_rfl⟩
  ·exact⟨4,by kernel_rfl⟩
  ·exact⟨4,by kernel_rfl⟩
  ·exact⟨4,by kernel_rfl⟩
  ·exact⟨4,by kernel_rfl⟩
 rw[u];simp only[B3];have:Q83.f K (xs,0,(xs.length:Int),l,())=some ((),(c7 ltZ [] xs,())):=by
  obtain⟨k,rfl⟩:∃ y,K=y+1:=⟨K-1,by omega⟩;have H:∀ (rec:Q83.A0->Option Q83.Res) (a:Q83.A0),Q83.s0 (k+1) (xs,0,(xs.length:Int),l,()) rec a=some ((),(c7 ltZ [] xs,())):=by
   intro rec a;simp only[Q83.s0];have e:wr .i64 ((xs.length:Int)-0)=(xs.length:Int):=(aA (by omega) (by omega)).trans (by omega);rw[e,decide_eq_true (by omega:(xs.length:Int)<=12)];simp only[cond_true];rw[zm (k+1) xs (by omega) I];rfl
  exact H (λ_=>none) ()
 rw[this];rfl
def eo (l:List aM)(i:Int):Int:=((l[i.toNat]?).map (·.2)).getD 0
def ltL (l:List aM)(a b:Int):Bool:=decide (eo l b<eo l a)
def lt2 (l:List aM)(a b:Int):Prop:=eo l b<eo l a\/(eo l a=eo l b/\a<b)
def cF (n:Nat):List Int:=(List.range n).map λ (i:Nat)=>(i:Int)
def bF (l:List aM):List Int:=c7 (ltL l) [] (cF l.length)
theorem iI {n:Nat}{i:Int}:i∈cF n<->0<=i/\i<n:=by
 unfold cF;rw[CM];constructor
 ·rintro⟨j,hj,rfl⟩;have:=Dm.1 hj;omega
 ·rintro⟨h0,h1⟩;exact⟨i.toNat,Dm.2 (by omega),by omega⟩
theorem jx (n:Nat):(cF n).Pairwise (·<·):=by
 unfold cF;rw[CT];exact List.pairwise_lt_range.imp λh=>by omega
theorem dY {l:List aM}{i:Nat}(h:i<l.length):eo l (i:Int)=l[i].2:=by
 unfold eo;rw[B7,CD h];rfl
theorem tF (l:List aM):∀ (xs done:List Int),done.Pairwise (lt2 l)->(∀ a∈done,∀ b∈xs,a<b)->xs.Pairwise (·<·)->(c7 (ltL l) done xs).Pairwise (lt2 l)
 |[],done,h,_,_=>h
 |x::xs,done,h,H,O=>by
  have z:=CN.1 O;have R:kc (ltL l) done:=h.imp λ {a b} M=>by
   unfold ltL;rw[decide_eq_false_iff_not];rcases M with y|⟨y,_⟩ <;> omega
  have e:=lx (ltL l) (λa b c y I=>by
   unfold ltL at y I ⊢;rw[decide_eq_false_iff_not]at y I ⊢;omega) x done.reverse [] (by rw[CP];exact R)
  rw[CP,CF]at e;simp only[c7];rw[e];refine tF l xs _ ?_ ?_ z.2
  ·rw[Ck,CN];refine⟨h.filter _,⟨λb u=>?_,h.filter _⟩,λa r b u=>?_⟩
   ·have y:ltL l x b=true:=by simpa using (CA.1 u).2
    exact .inl (by simpa[ltL]using y)
   ·have y:ltL l x a=false:=by simpa using (CA.1 r).2
    have Y:¬ eo l a<eo l x:=by simpa[ltL]using y
    have J:=H a (CA.1 r).1 x (by simp);rcases Cg.1 u with rfl|u
    ·by_cases I:eo l b<eo l a
     ·exact .inl I
     ·exact .inr ⟨by omega,J⟩
    ·have I:ltL l x b=true:=by simpa using (CA.1 u).2
     have X:eo l b<eo l x:=by simpa[ltL]using I
     exact .inl (by omega)
  ·intro a r b u;rcases Cj.1 r with r|r
   ·exact H a (CA.1 r).1 b (by simp[u])
   ·rcases Cg.1 r with rfl|r
    ·exact z.1 b u
    ·exact H a (CA.1 r).1 b (by simp[u])
theorem p7 (l:List aM):(bF l).Pairwise (lt2 l):=tF l _ [] List.Pairwise.nil (by simp) (jx _)
theorem mv (l:List aM):(bF l).Perm (cF l.length):=by
 unfold bF;simpa using mu (ltL l) (cF l.length) []
theorem iZ {l:List aM}{i:Int}:i∈bF l<->0<=i/\i<l.length:=by rw[(mv l).mem_iff,iI]
theorem xG (l:List aM):(bF l).length=l.length:=by rw[(mv l).length_eq];simp[cF]
theorem uI (l:List aM):(bF l).Nodup:=(mv l).nodup_iff.2 ((jx _).imp λh=>by omega)
def dx (T:List Int)(n:Nat):List Bool:=(cF n).map λi=>decide (i∈T)
theorem fw (T:List Int)(n:Nat):(dx T n).length=n:=by simp[dx,cF]
theorem i8 (T:List Int){n i:Nat}(h:i<n):(dx T n)[i]'(by rw[fw];exact h)=decide ((i:Int)∈T):=by
 simp[dx,cF]
theorem xH {T:List Int}{n b:Nat}(y:b<n):(dx T n).set b true=dx (T++[(b:Int)]) n:=by
 refine DB (by rw[DT,fw,fw]) λi u r=>?_
 rw[fw]at r;rw[Df,i8 _ r];by_cases h:b=i
 ·subst h;rw[if_pos rfl,i8 _ r];simp
 ·rw[if_neg h,i8 _ r];have:¬ (i:Int)=(b:Int):=by omega
  simp[this]
def p8 (l:List aM)(T:List Int)(i:Nat)(r:Int):Prop :=
 (r=-1/\∀ j:Nat,j<i->(j:Int)∈T)\/(0<=r/\r<i/\r∉T/\∀ j:Nat,j<i->(j:Int)∉T->(j:Int)≠r->lt2 l r (j:Int))
theorem Ay (K:Nat)(l:List aM)(T:List Int)(hl:l.length<=1048576):∀ (d i k:Nat) (r:Int),i+d=l.length->d<k->p8 l T i r ->
  ∃ b:Int,ae (λrec a=>Q149.s0 K (l,dx T l.length,()) rec a) k (r,(i:Int))=some ((b,()),())/\p8 l T l.length b:=by
 intro d;induction d with
 |zero =>
  intro i k r hi hk X;obtain⟨k,rfl⟩:∃ k',k=k'+1:=⟨k-1,by omega⟩;have:i=l.length:=by omega
  subst this;refine⟨r,?_,X⟩;show Q149.s0 K (l,dx T l.length,()) _ _=_;simp only[Q149.s0,aS];rfl
 |succ d ih =>
  intro i k r hi hk X;obtain⟨k,rfl⟩:∃ k',k=k'+1:=⟨k-1,by omega⟩;have z:i<l.length:=by omega
  have H:∀ r,p8 l T (i+1) r->∃ b:Int,ae (λrec a=>Q149.s0 K (l,dx T l.length,()) rec a) k (r,((i+1:Nat):Int))=some ((b,()),())/\p8 l T l.length b:=λr h=>ih (i+1) k r (by omega) (by omega) h
  show ∃ b:Int,Q149.s0 K (l,dx T l.length,()) (ae (λrec a=>Q149.s0 K (l,dx T l.length,()) rec a) k) (r,(i:Int))=_/\_;generalize ae (λrec a=>Q149.s0 K (l,dx T l.length,()) rec a) k=REC at H ⊢;simp only[Q149.s0];rw[bz (by omega:(i:Int)<(B4 l:Int)),ag (show i<(dx T l.length).length by rw[fw];exact z),i8 T z,ar i (by omega)];simp only[cond_true,B3];by_cases O:(i:Int)∈T
  ·rw[decide_eq_true O];simp only[CB,cond_false];refine H r ?_;rcases X with ⟨rfl,h⟩|⟨h0,h1,h2,Y⟩
   ·refine .inl ⟨rfl,λj Z=>?_⟩;by_cases y:j=i
    ·subst y;exact O
    ·exact h j (by omega)
   ·refine .inr ⟨h0,by omega,h2,λj Z u J=>?_⟩;by_cases y:j=i
    ·subst y;exact absurd O u
    ·exact Y j (by omega) u J
  ·rw[decide_eq_false O];simp only[CO,cond_true];rcases X with ⟨rfl,h⟩|⟨h0,h1,h2,Y⟩
   ·rw[show decide ((-1:Int)<0)=true from rfl];refine H (i:Int) (.inr ⟨by omega,by omega,O,λj Z u J=>?_⟩);exact absurd (h j (by omega)) u
   ·rw[decide_eq_false (by omega:¬ r<0)];obtain⟨b,rfl⟩:=B8 h0;have I:b<l.length:=by omega
    simp only[cond_false];rw[ag z,ag I];simp only[B3];by_cases M:l[i].2>l[b].2
    ·rw[decide_eq_true M];refine H (i:Int) (.inr ⟨by omega,by omega,O,λj Z u J=>?_⟩);have y:j<i:=by omega
     have a1:j<l.length:=by omega
     by_cases R:(j:Int)=(b:Int)
     ·rw[R];exact .inl (by rw[dY z,dY I];exact M)
     ·have:=Y j y u R;rcases this with h4|⟨h4,_⟩
      ·exact .inl (by rw[dY I]at h4;rw[dY z];omega)
      ·exact .inl (by rw[dY I]at h4;rw[dY z];omega)
    ·rw[decide_eq_false M];refine H (b:Int) (.inr ⟨by omega,by omega,h2,λj Z u J=>?_⟩);by_cases y:j=i
     ·subst y;by_cases a0:eo l (b:Int)=eo l (j:Int)
      ·exact .inr ⟨a0,h1⟩
      ·refine .inl ?_;rw[dY z,dY I]at *;omega
     ·exact Y j (by omega) u J
theorem Br (K:Nat)(l:List aM)(n:Nat)(hl:l.length<=1048576)(hK:1048577<K):Q149.f K (l,dx ((bF l).take n) l.length,())=some ((((bF l)[n]?).getD (-1),()),()):=by
  obtain⟨b,e,Z⟩:=Ay K l ((bF l).take n) hl l.length 0 K (-1) (by omega) (by omega) (.inl ⟨rfl,λj H=>by omega⟩);have:b=((bF l)[n]?).getD (-1):=by
    by_cases z:n<(bF l).length
    · rw[CD z]
      show b=(bF l)[n];have hm:(bF l)[n]∉(bF l).take n:=λh=>by
        obtain⟨j,H,e⟩:=CC h;rw[CY]at H;rw[C4]at e;have:=Ci.1 (p7 l) j n (by omega) z (by omega);rw[e]at this;rcases this with u|⟨_,u⟩ <;> omega
      have hr:=iZ.1 (B5 z);obtain⟨m,r⟩:=B8 hr.1;rcases Z with ⟨rfl,h⟩|⟨R,J,y,h3⟩
      · have:=h m (by omega)
        rw[<- r]at this;exact absurd this hm
      · by_cases X:b=(bF l)[n]
        · exact X
        · exfalso
          have I:=h3 m (by omega) (by rw[<- r];exact hm) (by rw[<- r];exact λh=>X h.symm);rw[<- r]at I;have Y:b∈bF l:=iZ.2 ⟨R,J⟩;obtain⟨j,H,M⟩:=CC Y;have O:n<j:=by
            rcases C7 j n with h|h|h
            · exact absurd (List.mem_take_iff_getElem.2 ⟨j,by omega,M⟩) y
            · subst h;exact absurd M.symm X
            · exact h
          have u:=Ci.1 (p7 l) n j z H O;rw[M]at u;rcases I with I|⟨I,h6⟩ <;> rcases u with u|⟨u,h7⟩ <;> omega
    · rw[Cv (by omega)]
      show b=-1;rcases Z with ⟨rfl,_⟩|⟨R,J,y,_⟩
      · rfl
      · exfalso
        rw[CX (by omega)]at y;exact y (iZ.2 ⟨R,J⟩)
  rw[<- this];exact e
def ca (l:List aM):List Int:=(bF l).take 3
def gL (l:List aM)(i:Int):aM:=(l[i.toNat]?).getD ((0,0,0,false),0)
def dZ (l:List aM)(T:List Int)(i:Int):aM:=bif decide (i∈T) then ((gL l i).1,(gL l i).2-1) else gL l i
def ez (l:List aM)(T:List Int)(n:Nat):List af:=((cF n).filter λi=>decide (i∈T)).map λi=>(gL l i).1
def gm (l:List aM)(T:List Int)(n:Nat):List aM:=(cF n).map (dZ l T)
def dK (l:List aM)(T:List Int)(n:Nat):List aM:=(gm l T n).filter λx=>decide (x.2>0)
theorem cE {l:List aM}{i:Nat}(h:i<l.length):gL l (i:Int)=l[i]:=by
 unfold gL;rw[B7,CD h];rfl
theorem nf (n:Nat):cF (n+1)=cF n++[(n:Int)]:=by
 unfold cF;rw[List.range_succ,DE];rfl
theorem wc (l:List aM)(T:List Int)(n:Nat):ez l T (n+1)=ez l T n++(bif decide ((n:Int)∈T) then [(gL l (n:Int)).1] else []):=by
 unfold ez;rw[nf,Cs,DE,CV];cases decide ((n:Int)∈T) <;> rfl
theorem wd (l:List aM)(T:List Int)(n:Nat):dK l T (n+1)=dK l T n++(bif decide ((dZ l T (n:Int)).2>0) then [dZ l T (n:Int)] else []):=by
 unfold dK gm;rw[nf,DE,Cs,DM,CV];cases decide ((dZ l T (n:Int)).2>0) <;> rfl
theorem xI (l:List aM)(T:List Int)(n:Nat):(ez l T n).length<=n:=by
 unfold ez;rw[CG];refine CL (CU _ _) ?_;simp[cF]
theorem xJ (l:List aM)(T:List Int)(n:Nat):(dK l T n).length<=n:=by
 unfold dK;refine CL (CU _ _) ?_;simp[gm,cF]
theorem Az (K:Nat)(l:List aM)(m:Int)(T:List Int)(R:l.length<=1048576)(H:c5 l)(X:1048577<K) :
  Q150.l1 K (l,m,()) (dx T l.length,[],[],0)=some ((ez l T l.length,dK l T l.length,()),()):=by
 refine oc (step:=λrec a=>Q150.s1 K (l,m,()) rec a) l.length (λi=>(dx T l.length,ez l T i,dK l T i,(i:Int))) (some ((ez l T l.length,dK l T l.length,()),())) ?_ ?_ (by omega)
 ·intro rec i r;simp only[Q150.s1];have u:i<(dx T l.length).length:=by rw[fw];exact r
  have J:=xI l T i;have M:=xJ l T i;obtain⟨I,O⟩:=(H.1 l[i] (B5 r)).2;rw[bz (by omega:(i:Int)<(B4 l:Int)),ag r,ag u,ar i (by omega),B7,ag u,i8 T r,wc,wd,cE r];simp only[cond_true,B3];cases z:decide ((i:Int)∈T) with
  |true =>
   have y:dZ l T (i:Int)=(l[i].1,l[i].2-1):=by unfold dZ;rw[z,cE r];rfl
   rw[y];simp only[cond_true];rw[szb _ _ _ (by omega) (by simp;omega),aA (n:=l[i].2-1) (by omega) (by omega)];simp only[cond_true];cases decide (l[i].2-1>0) with
   |true =>
    simp only[cond_true];rw[szb _ _ _ (by omega) (by simp;omega)];rfl
   |false =>
    simp only[cond_false,CF]
  |false =>
   have y:dZ l T (i:Int)=l[i]:=by unfold dZ;rw[z,cE r];rfl
   rw[y];simp only[cond_false,CF];cases decide (l[i].2>0) with
   |true =>
    simp only[cond_true];rw[szb _ _ _ (by omega) (by simp;omega)];rfl
   |false =>
    simp only[cond_false,CF]
 ·intro rec;simp only[Q150.s1,aS];rfl
theorem Bs (K:Nat)(l:List aM)(R:l.length<=1048576)(Y:c5 l)(X:1048577<K):Q150.f K (l,3,())=some ((ez l (ca l) l.length,dK l (ca l) l.length,()),()):=by
 have u:∀ T,Q150.l1 K (l,3,()) (dx T l.length,[],[],0)=some ((ez l T l.length,dK l T l.length,()),()):=λT=>Az K l 3 T R Y X
 have go:∀ (d n k:Nat),n+d=3->d<k->ae (λrec a=>Q150.s0 K (l,3,()) (Q150.l1 K (l,3,())) rec a) k (dx ((bF l).take n) l.length,(n:Int))=some ((ez l (ca l) l.length,dK l (ca l) l.length,()),()):=by
  intro d;induction d with
  |zero =>
   intro n k Z hk;obtain⟨k,rfl⟩:∃ H,k=H+1:=⟨k-1,by omega⟩;have:n=3:=by omega
   subst this;exact u _
  |succ d ih =>
   intro n k Z hk;obtain⟨k,rfl⟩:∃ H,k=H+1:=⟨k-1,by omega⟩;have y:=ih (n+1) k (by omega) (by omega);show Q150.s0 K (l,3,()) (Q150.l1 K (l,3,())) (ae (λrec a=>Q150.s0 K (l,3,()) (Q150.l1 K (l,3,())) rec a) k) (dx ((bF l).take n) l.length,(n:Int))=_;generalize ae (λrec a=>Q150.s0 K (l,3,()) (Q150.l1 K (l,3,())) rec a) k=REC at y ⊢;simp only[Q150.s0];rw[decide_eq_true (by omega:(n:Int)<3),Br K l n R X,ar n (by omega)];simp only[cond_true,B3];by_cases r:n<(bF l).length
   ·rw[CD r];have M:=iZ.1 (B5 r);have I:(bF l).take (n+1)=(bF l).take n++[(bF l)[n]]:=Cl r;rw[I]at y;simp only[Dg];generalize (bF l)[n]=v at M y ⊢;obtain⟨b,rfl⟩:=B8 M.1;have O:b<l.length:=by omega
    have z:b<(dx ((bF l).take n) l.length).length:=by rw[fw];exact O
    rw[decide_eq_false (by omega:¬ (b:Int)<0),ag z,B7,ag z,xH O];exact y
   ·rw[Cv (by omega)];show Q150.l1 K (l,3,()) (dx ((bF l).take n) l.length,[],[],0)=_;rw[u,show (bF l).take n=ca l by unfold ca;rw[CX (by omega),CX (by omega)]]
 simp only[Q150.f,Q150.pre];rw[decide_eq_true (by omega:(0:Int)<=(B4 l:Int)),show decide ((B4 l:Int)*(1:Nat)<=am)=true from decide_eq_true (by simp only[am];omega),B7];simp only[decide_true,Cu,cond_true];have h0:Cy l.length false=dx ((bF l).take 0) l.length:=by
  refine DB (by rw[C9,fw]) λi h1 J=>?_
  rw[fw]at J;rw[List.getElem_replicate,i8 _ J];simp
 have:=go 3 0 K (by omega) (by omega);rw[<- h0]at this;exact this
theorem sv {a b:List Int}(u:a.Nodup)(r:b.Nodup)(h:∀ x,x∈a<->x∈b):a.Perm b:=by
 rw[List.perm_iff_count];intro x;rw[u.count,r.count];simp[h]
def dg (l:List aM):List Int:=(cF l.length).filter λi=>decide (i∈ca l)
theorem uJ (l:List aM):c7 ltZ [] (ca l)=dg l:=by
 have r:(ca l).Nodup:=(uI l).sublist (List.take_sublist _ _);have u:((cF l.length).filter λi=>decide (i∈ca l)).Nodup:=((jx l.length).imp (λh=>by omega:∀ {a b:Int},a<b->a≠b)).filter _;refine oE ltZ ?_ (ne ltZ (λa b c r u=>by
  unfold ltZ at r u ⊢;rw[decide_eq_false_iff_not]at r u ⊢;omega) (λa b h=>by
  unfold ltZ at h ⊢;rw[decide_eq_true_eq]at h;rw[decide_eq_false_iff_not];omega) (ca l) [] List.Pairwise.nil) ?_
 ·refine (by simpa using mu ltZ (ca l) []:(c7 ltZ [] (ca l)).Perm (ca l)).trans (sv r u λx=>?_);rw[dg,CA,decide_eq_true_eq,iI];exact⟨λh=>⟨iZ.1 (DX h),h⟩,λh=>h.2⟩
 ·exact ((jx l.length).filter _).imp λh=>by unfold ltZ;exact decide_eq_true h
theorem xK {l:List aM}{i:Int}:i∈dg l<->i∈ca l:=by
 unfold dg;rw[CA,decide_eq_true_eq,iI];exact⟨λh=>h.2,λh=>⟨iZ.1 (DX h),h⟩⟩
theorem xL (l:List aM):(dg l).Pairwise (·<·):=(jx l.length).filter _
theorem eS (l:List aM)(T:List Int)(n:Nat):(gm l T n).length=n:=by simp[gm,cF]
theorem fF (l:List aM)(T:List Int){n i:Nat}(h:i<n):(gm l T n)[i]'(by rw[eS];exact h)=dZ l T (i:Int):=by
 simp[gm,cF]
theorem zo (l:List aM):gm l [] l.length=l:=by
 refine DB (eS _ _ _) λi u r=>?_
 rw[fF l [] r];unfold dZ;rw[cE r];simp
theorem zp {l:List aM}{T:List Int}{b:Nat}(y:b<l.length):(gm l T l.length).set b ((gL l (b:Int)).1,(gL l (b:Int)).2-1)=gm l (T++[(b:Int)]) l.length:=by
 refine DB (by rw[DT,eS,eS]) λi u r=>?_
 rw[eS]at r;rw[Df,fF _ _ r];by_cases h:b=i
 ·subst h;rw[if_pos rfl,fF _ _ r];unfold dZ;rw[decide_eq_true (by simp:(b:Int)∈T++[(b:Int)])];rfl
 ·rw[if_neg h,fF _ _ r];unfold dZ;have:((i:Int)∈T++[(b:Int)])<->(i:Int)∈T:=by
   rw[Cj,Ca];exact⟨λu=>u.resolve_right (by omega),.inl⟩
  rw[show decide ((i:Int)∈T++[(b:Int)])=decide ((i:Int)∈T) by rw[decide_eq_decide];exact this]
theorem we {l:List aM}{T T':List Int}(h:∀ i,i∈T<->i∈T')(n:Nat):gm l T n=gm l T' n:=by
 unfold gm;refine List.map_congr_left λi _=>?_
 unfold dZ;rw[show decide (i∈T)=decide (i∈T') by rw[decide_eq_decide];exact h i]
theorem uK (K:Nat)(x:ab Q88.ps)(l:List aM)(hl:l.length<=1048576)(Y:c5 l)(hK:1048577<K) :
  Q88.l1 K x (l,dg l,[],(B4 (dg l):Int),0)=some ((ez l (ca l) l.length,dK l (ca l) l.length,()),()):=by
 have a0:(dg l).length<=l.length:=by
  refine CL (CU _ _) ?_;simp[cF]
 refine DH ?_ (oc (step:=λrec a=>Q88.s1 K x rec a) (dg l).length (λi=>(gm l ((dg l).take i) l.length,dg l,((dg l).take i).map (λj=>(gL l j).1),(B4 (dg l):Int),(i:Int))) (some ((ez l (ca l) l.length,dK l (ca l) l.length,()),())) ?_ ?_ (by omega:(dg l).length<K))
 ·simp only[List.take_zero,Dp,zo];rfl
 ·intro rec i r;simp only[Q88.s1];have X:=iI.1 ((CA.1 (B5 r)).1);have u:(dg l)[i]∉(dg l).take i:=λh=>by
   obtain⟨j,hj,e⟩:=CC h;rw[CY]at hj;rw[C4]at e;have:=Ci.1 (xL l) j i (by omega) r (by omega);omega
  have R:(dg l).take (i+1)=(dg l).take i++[(dg l)[i]]:=Cl r;rw[R,DE];have H:(((dg l).take i).map (λj=>(gL l j).1)).length<=1048576:=by rw[CG,CY];omega
  rw[bz (by omega:(i:Int)<(B4 (dg l):Int)),ag r,ar i (by omega),B7,ag r];simp only[cond_true,B3];generalize (dg l)[i]=v at X u ⊢;obtain⟨b,rfl⟩:=B8 X.1;have z:b<l.length:=by omega
  have I:b<(gm l ((dg l).take i) l.length).length:=by rw[eS];exact z
  have hd:dZ l ((dg l).take i) (b:Int)=l[b]:=by
   unfold dZ;rw[decide_eq_false u,cE z];rfl
  obtain⟨Z,c1⟩:=(Y.1 l[b] (B5 z)).2;rw[ag I,B7,ag I,fF l _ z,hd];simp only[B3];rw[szb _ _ _ (by omega) (by simp only[CG,B9,CE]at H ⊢;omega),aA (n:=l[b].2-1) (by omega) (by omega),<- zp z,cE z];simp only[cond_true,DM,Dp,cE z]
 ·intro rec;simp only[Q88.s1,aS,cond_false,Cz,Q9.f];have e:∀ J:List aM,J.length<=1048576->gZ t3 J (λO=>(Q87.f K (O.1,())).map λy=>y.1.1)=some ((J.filter (λx=>!(x.2==0)),()),()):=λJ M=>rH (e:=t3) (λx=>x.2==0) M (λx _=>rfl)
  rw[e _ (by rw[eS];exact hl)];simp only[B3];rw[we (l:=l) (T:=dg l) (T':=ca l) (λi=>xK) l.length];have ef:(gm l (ca l) l.length).filter (λx=>!(x.2==0))=dK l (ca l) l.length:=by
   unfold dK;refine DL λx hx=>?_
   have h0:0<=x.2:=by
    obtain⟨i,r,rfl⟩:=CC hx;rw[eS]at r;rw[fF l _ r];obtain⟨Z,c1⟩:=(Y.1 l[i] (B5 r)).2;unfold dZ;rw[cE r];cases decide ((i:Int)∈ca l) with
    |true=>show 0<=l[i].2-1;omega
    |false=>show 0<=l[i].2;omega
   rw[Cd];simp;omega
  rw[ef];rfl
theorem wg (K:Nat)(l:List aM)(hl:l.length<=8)(H:c5 l)(I:1048577<K):Q88.f K (l,3,())=some ((ez l (ca l) l.length,dK l (ca l) l.length,()),()):=by
 simp only[Q88.f,Q88.pre];obtain⟨b1,e1,e2⟩:=pe K l (by omega) I;have X:=e2.2 H;subst X;rw[e1];simp only[B3,CB,cond_false];rw[decide_eq_true (by omega:(0:Int)<=(B4 l:Int)),show decide ((B4 l:Int)*(8:Nat)<=am)=true from decide_eq_true (by simp only[am];omega),B7];simp only[decide_true,Cu,cond_true];have Y:(cF l.length).length=l.length:=by simp[cF]
 have hS:∀ i,i<=l.length->(cF i++Cy (l.length-i) (0:Int)).length=l.length:=λi hi=>by simp[cF];omega
 refine DH ?_ (oc (step:=λrec a=>Q88.s0 K (l,3,()) (Q88.l1 K (l,3,())) rec a) l.length (λi=>(cF i++Cy (l.length-i) (0:Int),(i:Int))) (some ((ez l (ca l) l.length,dK l (ca l) l.length,()),())) ?_ ?_ (by omega:l.length<K))
 ·rfl
 ·intro rec i hi;simp only[Q88.s0];have u:i<(cF i++Cy (l.length-i) (0:Int)).length:=by rw[hS i (by omega)];exact hi
  rw[decide_eq_true (by rw[C9];show (i:Int)<((B6 (B4 l:Int):Nat):Int);omega),ag u,ar i (by omega),B7,ag u];simp only[cond_true,B3];have e:(cF i++Cy (l.length-i) (0:Int)).set i (i:Int)=cF (i+1)++Cy (l.length-(i+1)) (0:Int):=by
   obtain⟨m,hm⟩:∃ m,l.length-i=m+1:=⟨l.length-i-1,by omega⟩;have J:(cF i).length=i:=by simp[cF]
   rw[hm,show l.length-(i+1)=m by omega,nf,DW _ _ (by omega),J,Nat.sub_self,List.replicate_succ,List.set_cons_zero,Cc];rfl
  rw[e]
 ·intro rec;simp only[Q88.s0];rw[decide_eq_false (by rw[C9];show ¬ (B4 l:Int)<((B6 (B4 l:Int):Nat):Int);omega),Nat.sub_self,List.replicate_zero,CF];simp only[cond_false,Q2.f];have r:=zl K (cF l.length) (λZ=>(Q77.f K (Z.1,Z.2.1,l,())).map λy=>y.1.1) (ltL l) (λi=>0<=i/\i<l.length) (λy R=>iI.1 R) (λy z R hz=>by
   obtain⟨a,rfl⟩:=B8 R.1;obtain⟨b,rfl⟩:=B8 hz.1;have O:a<l.length:=by omega
   have M:b<l.length:=by omega
   obtain⟨c0,c1⟩:=(H.1 l[a] (B5 O)).2;obtain⟨c2,c3⟩:=(H.1 l[b] (B5 M)).2;refine⟨l[b].2-l[a].2,?_,?_⟩
   ·simp only[Q77.f];rw[ag O,ag M];simp only[B3];rw[aA (n:=l[b].2-l[a].2) (by omega) (by omega)];rfl
   ·unfold ltL;rw[dY O,dY M,decide_eq_decide];omega) (by rw[Y];omega) I
  rw[r];simp only[B3];rw[dv (by omega)];simp only[B3];rw[show Q73.f K (c7 (ltL l) [] (cF l.length),3,())=some ((ca l,()),()) from qL K (bF l) 3 (by rw[xG];omega)];simp only[B3];rw[zn K (ca l) (CL (Cn _ _) (by omega)) I,uJ];simp only[B3];exact uK K (l,3,()) l (by omega) H I
theorem Bt {a b:Int}(z:0<=a)(u:a<4611686018427387904)(r:0<=b)(y:b<4611686018427387904):0<=qF .i64 a b:=by
 obtain⟨m,rfl⟩:=B8 z;obtain⟨n,rfl⟩:=B8 r;have h:(BitVec.ofInt 64 (m:Int) ^^^ BitVec.ofInt 64 (n:Int)).toNat=m ^^^ n:=by
  rw[BitVec.toNat_xor,BitVec.toNat_ofInt,BitVec.toNat_ofInt];congr 1
  ·omega
  ·omega
 have H:m ^^^ n<2 ^ 62:=Nat.xor_lt_two_pow (by omega) (by omega);show 0<=IntKind.i64.wrap (((BitVec.ofInt 64 (m:Int) ^^^ BitVec.ofInt 64 (n:Int)).toNat:Nat):Int);rw[h,Dh];omega
structure fY (b:List Int):Prop where
 byte:∀ y∈b,0<=y/\y<=255
 len:b.length<=2000
theorem AA (K:Nat)(b:List Int)(q:Nat)(n:Int)(h:fY b)(hq:q<=100000)(hn:1<=n):∃ v:Int,Q118.f K ((b,(q:Int)),n,())=some ((v,()),((b,((q+1:Nat):Int)),()))/\0<=v/\v<n:=by
 have w1:wr .i64 ((q:Int)+1)=((q+1:Nat):Int):=ar q (by omega);have w2:wr .i64 (((q+1:Nat):Int)-1)=(q:Int):=by rw[aA (n:=((q+1:Nat):Int)-1) (by omega) (by omega)];omega
 have hl:=h.len;have J:decide (n=0)=false:=decide_eq_false (by omega);have r:∀ x:Int,0<=x->0<=Cf x n/\Cf x n<n:=λx u=>⟨DU _ u,DJ _ (by omega)⟩
 simp only[Q118.f];rw[decide_eq_false (by omega:¬ n<1)];simp only[cond_false,w1,w2,J];by_cases R:b.length=0
 ·rw[show ((b.length:Int)==0)=true by simpa using R];exact⟨0,rfl,by omega,by omega⟩
 ·rw[show ((b.length:Int)==0)=false by simpa using R];simp only[cond_false];by_cases H:q<b.length
  ·rw[decide_eq_true (by omega:(q:Int)<(b.length:Int)),ag H];simp only[cond_true,B3];obtain⟨I,M⟩:=h.byte b[q] (B5 H);rw[aA (n:=b[q]) (by omega) (by omega)];exact⟨_,rfl,r _ I⟩
  ·rw[decide_eq_false (by omega:¬ (q:Int)<(b.length:Int)),decide_eq_false (by omega:¬ (b.length:Int)=0)];simp only[cond_false];have t1:Cf (q:Int) (b.length:Int)=((q % b.length:Nat):Int):=by rw[DK (by omega)];rfl
   have t2:wr .i64 (wr .i64 ((q:Int)*7)+3)=((q*7+3:Nat):Int):=by rw[aA (n:=(q:Int)*7) (by omega) (by omega),aA (n:=(q:Int)*7+3) (by omega) (by omega)];omega
   have t3:Cf (((q*7+3:Nat)):Int) (b.length:Int)=(((q*7+3) % b.length:Nat):Int):=by rw[DK (by omega)];rfl
   have O:q % b.length<b.length:=Nat.mod_lt _ (by omega);have Y:(q*7+3) % b.length<b.length:=Nat.mod_lt _ (by omega);rw[t1,t2,t3,ag O,ag Y];simp only[B3];obtain⟨I,M⟩:=h.byte b[q % b.length] (B5 O);obtain⟨z0,z1⟩:=h.byte b[(q*7+3) % b.length] (B5 Y);generalize b[q % b.length]=y at I M ⊢;generalize b[(q*7+3) % b.length]=z at z0 z1 ⊢;have Z:0<=DD (q:Int) (b.length:Int)/\DD (q:Int) (b.length:Int)<=q:=⟨Dl (by omega) (by omega),Di _ (by omega)⟩;generalize DD (q:Int) (b.length:Int)=e at Z ⊢;have x1:wr .i64 (wr .i64 (wr .i64 (wr .i64 (wr .i64 y*131)+wr .i64 (wr .i64 z*1117))+wr .i64 ((q:Int)*29))+wr .i64 (wr .i64 e*53))=y*131+z*1117+q*29+e*53:=by
    rw[aA (n:=y) (by omega) (by omega),aA (n:=z) (by omega) (by omega),aA (n:=e) (by omega) (by omega),aA (n:=y*131) (by omega) (by omega),aA (n:=z*1117) (by omega) (by omega),aA (n:=(q:Int)*29) (by omega) (by omega),aA (n:=e*53) (by omega) (by omega),
     aA (n:=y*131+z*1117) (by omega) (by omega),aA (n:=y*131+z*1117+(q:Int)*29) (by omega) (by omega),aA (n:=y*131+z*1117+(q:Int)*29+e*53) (by omega) (by omega)]
   rw[x1];have u:0<=y*131+z*1117+q*29+e*53/\y*131+z*1117+q*29+e*53<=10000000:=by omega
   generalize y*131+z*1117+(q:Int)*29+e*53=X at u ⊢;have d2:0<=DD X 64/\DD X 64<=X:=⟨Dl u.1 (by omega),Di _ u.1⟩;rw[aA (n:=DD X 64) (by omega) (by omega)];exact⟨_,rfl,r _ (Bt u.1 (by omega) d2.1 (by omega))⟩
theorem wh (K:Nat)(t:List af)(f:af)(ht:t.length<=1048576)(O:Asc (λg:af=>g.1) t)(hK:1048577<K):Q120.f K (t,f,())=some (((bY t f).1,(bY t f).2,()),()):=by
 simp only[Q120.f,Q120.pre];obtain⟨o,H,I⟩:=fP K t f.1 ht hK;rw[I];simp only[B3];cases H with
 |at_ i r e =>
  simp only;rw[kK O r e,decide_eq_true (by omega:((i:Nat):Int)>=0),ag r];simp only[cond_true,B3,B7,ag r];rw[show Q106.f K (f,t[i],())=_ from pX K f t[i]];simp only[B3];by_cases H:bM f t[i]
  ·rw[decide_eq_true H,if_pos H];simp only[CB,cond_false];rw[szb _ _ _ (by omega) (by show (B4 ([]:List af))+t.length<=_;simp;omega)];simp only[cond_true,CJ,ag r,B3,B7];rw[iF (k:=λg:af=>g.1) O r e]
  ·rw[decide_eq_false H,if_neg H];rfl
 |no h =>
  simp only;rw[iG h,decide_eq_false (by omega:¬ (-1:Int)>=0)];simp only[cond_false];have J:∀ m:Nat,m<=t.length->(bif decide ((0:Int)<=0)&&decide ((0:Int)<=(m:Int))&&decide ((m:Int)<=(B4 t:Int))&&true then (bif decide ((B4 ([]:List af)+B4 ((t.take (B6 (m:Int))).drop (B6 0)))*32<=am) then (bif decide ((B4 ([]++((t.take (B6 (m:Int))).drop (B6 0)))+B4 ([f]))*32<=am) then (bif decide ((0:Int)<=(m:Int))&&decide ((m:Int)<=(B4 t:Int))&&decide ((B4 t:Int)<=(B4 t:Int))&&true then (bif decide ((B4 (([]++((t.take (B6 (m:Int))).drop (B6 0)))++([f]))+B4 ((t.take (B6 (B4 t:Int))).drop (B6 (m:Int))))*32<=am) then (some (((([]++((t.take (B6 (m:Int))).drop (B6 0)))++([f]))++((t.take (B6 (B4 t:Int))).drop (B6 (m:Int))),true,()),())) else none) else none) else none) else none) else (none:Option ((List af×Bool×Unit)×Unit)))=some ((t.take m++[f]++t.drop m,true,()),()):=by
   intro m X;rw[decide_eq_true (by omega:(0:Int)<=0),decide_eq_true (by omega:(0:Int)<=(m:Int)),decide_eq_true (by omega:(m:Int)<=(B4 t:Int)),decide_eq_true (by omega:(B4 t:Int)<=(B4 t:Int))];simp only[B7,DG,CW,CJ,Cz,Cu,cond_true];have I:(t.take m).length=m:=by rw[CY];omega
   have z:(t.drop m).length=t.length-m:=Cp;rw[szb _ _ _ (by omega) (by simp only[CE];omega),szb _ _ _ (by omega) (by simp only[B9,CE];omega),szb _ _ _ (by omega) (by simp only[CK,B9,CE];omega)];rfl
  have:=bL (step:=λrec a=>Q120.s0 K (t,f,()) rec a) t.length (λi=>(i:Int)) (λj=>∃ h:j<t.length,¬ t[j].1<f.1) (some ((t.take t.length++[f]++t.drop t.length,true,()),())) (λj=>some ((t.take j++[f]++t.drop j,true,()),())) ?_ ?_ t.length K 0 (by omega) (by omega)
  ·have M:∀ m,m<=t.length->(∀ i,(r:i<t.length)->i<m->t[i].1<f.1)->(∀ i,(r:i<t.length)->m<=i->f.1<t[i].1)->t.take m++[f]++t.drop m=bD (λg=>g.1) f t:=λm X Y r=>gI (k:=λg:af=>g.1) X Y r
   rcases this with ⟨I,z⟩|⟨j,_,I,⟨h3,h4⟩,h5,z⟩
   ·rw[M t.length (CH _) (λi r _=>by
     have:=I i (CS _) r;exact C6.1 λh=>this ⟨r,h⟩) (λi r h=>by omega)]at z
    exact z
   ·rw[M j (by omega) (λi r y=>by
     have:=h5 i (CS _) y;exact C6.1 λh=>this ⟨r,h⟩) (λi r y=>by
     have Z:=h t[i] (B5 r);rcases CZ y with R|R
     ·have:=cI.1 O j i h3 r R;omega
     ·subst R;omega)]at z
    exact z
  ·intro rec i r;simp only[Q120.s0];rw[bz (by omega:(i:Int)<(B4 t:Int)),ag r,ar i (by omega)];simp only[cond_true,B3];rw[show idx t ((B6 (i:Int):Nat):Int)=some t[i] by rw[B7];exact ag r];simp only[B3];by_cases u:t[i].1<f.1
   ·exact .inl ⟨λ⟨_,h⟩=>h u,by rw[decide_eq_true u];rfl⟩
   ·exact .inr ⟨⟨r,u⟩,by rw[decide_eq_false u];exact J i (by omega)⟩
  ·intro rec;simp only[Q120.s0,aS,cond_false];exact J t.length (CH _)
def fy (t:List af)(fs:List af):List af:=fs.foldl (λt f=>(bY t f).1) t
theorem rI:∀ {fs t:List af},aw t->(∀ f∈fs,bu f)->aw (fy t fs)
 |[],_,h,_=>h
 |f::fs,t,h,r=>rI (fs:=fs) (kL h (r f (by simp))) (λg u=>r g (by simp[u]))
theorem bR {t:List af}(h:aw t):t.length<=1048576:=CL (jh h.2 (λg r=>(h.1 g r).1)) (by decide)
theorem oF {R:Type}(a fs:List af)(M:aw a)(O:∀ f∈fs,bu f)(u:List af->Option R){step:(List af×Int->Option R)->List af×Int->Option R}
  (h:∀ (rec:List af×Int->Option R) (t:List af) (i:Nat) (J:i<fs.length),aw t->step rec (t,(i:Int))=rec ((bY t fs[i]).1,((i+1:Nat):Int)))
  (y:∀ (rec:List af×Int->Option R) (t:List af),step rec (t,(fs.length:Int))=u t) {k:Nat} (z:fs.length<k):ae step k (a,0)=u (fy a fs):=by
 have:∀ (d i k:Nat) (t:List af),i+d=fs.length->d<k->aw t->ae step k (t,(i:Int))=u (fy t (fs.drop i)):=by
  intro d;induction d with
  |zero =>
   intro i k t J z _;obtain⟨k,rfl⟩:∃ H,k=H+1:=⟨k-1,by omega⟩;have:i=fs.length:=by omega
   subst this;show step (ae step k) _=_;rw[y,DN];rfl
  |succ d X =>
   intro i k t J z I;obtain⟨k,rfl⟩:∃ H,k=H+1:=⟨k-1,by omega⟩;have r:i<fs.length:=by omega
   show step (ae step k) _=_;rw[h _ _ _ r I,CR r];exact X (i+1) k _ (by omega) (by omega) (kL I (O _ (B5 r)))
 have:=this fs.length 0 k a (by omega) z M
 rwa [CW]at this
theorem Bu (K:Nat)(a b:List af)(r:aw a)(u:aw b)(y:1048577<K):Q55.f K (a,b,())=some ((fy a b,()),()):=by
 simp only[Q55.f,Q55.pre,Q0.f];obtain⟨Z,I,R⟩:=fU K a (bR r) y;obtain⟨b2,O,M⟩:=fU K b (bR u) y;have H:=R.2 r;have X:=M.2 u;subst H X;have J:=bR u;rw[I,O];simp only[B3,CB,cond_false];rw[dv (by have:=bR r;omega)];simp only[B3];refine oF a b r u.1 (step:=λrec x=>Q55.s0 K (a,b,()) rec x) (λt=>some ((t,()),())) ?_ ?_ (by omega)
 ·intro rec t i Y z;simp only[Q55.s0];rw[bz (by omega:(i:Int)<(B4 b:Int)),ag Y,ar i (by omega)];simp only[cond_true,B3];rw[vY K t _ (bR z) z.2 y];rfl
 ·intro rec t;simp only[Q55.s0,aS];rfl
theorem xM (f:af):¬ bM f f:=by
 unfold bM;simp
theorem pj {l:List aM}(M:c5 l)(T:List Int):aw (ez l T l.length):=by
 unfold ez;constructor
 ·intro f X;obtain⟨i,I,rfl⟩:=CM.1 X;obtain⟨h0,h1⟩:=iI.1 (CA.1 I).1;obtain⟨b,rfl⟩:=B8 h0;have J:b<l.length:=by omega
  rw[cE J];exact (M.1 l[b] (B5 J)).1
 ·unfold Asc;rw[CT];have hp:((cF l.length).filter λi=>decide (i∈T)).Pairwise λ (a b:Int)=>(0<=a/\a<l.length)/\(0<=b/\b<l.length)/\a<b:=by
   refine Cx _ ?_;have:∀ u:List Int,(∀ x∈u,0<=x/\x<l.length)->u.Pairwise (·<·)->u.Pairwise λ (a b:Int)=>(0<=a/\a<l.length)/\(0<=b/\b<l.length)/\a<b:=by
    intro u z r;induction u with
    |nil=>exact List.Pairwise.nil
    |cons x u ih =>
     rw[CN]at r ⊢;exact⟨λy H=>⟨z x (by simp),z y (by simp[H]),r.1 y H⟩,ih (λy H=>z y (by simp[H])) r.2⟩
   exact this _ (λx z=>iI.1 z) (jx _)
  refine hp.imp λ {a b} h=>?_
  obtain⟨⟨R,a1⟩,⟨Z,b1⟩,Y⟩:=h;obtain⟨i,rfl⟩:=B8 R;obtain⟨j,rfl⟩:=B8 Z;have I:i<l.length:=by omega
  have O:j<l.length:=by omega
  rw[cE I,cE O];exact cI.1 M.2 i j I O (by omega)
theorem tG {l:List aM}(J:c5 l)(T:List Int):c5 (dK l T l.length):=by
 have r:∀ i (h:i<l.length),(dZ l T (i:Int)).1=l[i].1:=λi h=>by
  unfold dZ;rw[cE h];cases decide ((i:Int)∈T) <;> rfl
 have I:∀ i (h:i<l.length),(dZ l T (i:Int)).2<=l[i].2:=λi h=>by
  unfold dZ;rw[cE h];cases decide ((i:Int)∈T) with
  |true=>show l[i].2-1<=l[i].2;omega
  |false=>exact Cr _
 unfold dK;constructor
 ·intro x M;obtain⟨O,H⟩:=CA.1 M;have H:x.2>0:=by simpa using H
  obtain⟨i,u,rfl⟩:=CC O;rw[eS]at u;rw[fF l T u]at H ⊢;have:=(J.1 l[i] (B5 u));refine⟨by rw[r i u];exact this.1,?_,?_⟩
  ·omega
  ·have R:=I i u;have X:=this.2.2;omega
 ·unfold Asc;refine Cx _ ?_;rw[Ci];intro i j u y z;rw[eS]at u y;show (gm l T l.length)[i].1.1<(gm l T l.length)[j].1.1;rw[fF l T u,fF l T y,r i u,r j y];exact cI.1 J.2 i j u y z
def iq (n:aa)(to:Int):List af :=
 bif (aB (aa.table n) to).2.2.1==2 then (bY (ez (aa.cast n) (ca (aa.cast n)) (aa.cast n).length) (aB (aa.table n) to)).1 else ez (aa.cast n) (ca (aa.cast n)) (aa.cast n).length
def gM (n:aa):aa:=gl n (aa.table n) (dK (aa.cast n) (ca (aa.cast n)) (aa.cast n).length) (aa.doubts n)
theorem kz {n:aa}(h:cf n)(to:Int):aw (iq n to):=by
 have u:=pj h.cast (ca (aa.cast n));unfold iq;cases r:(aB (aa.table n) to).2.2.1==2 with
 |false=>exact u
 |true =>
  refine kL u (cC h.table ?_).1;by_cases y:∃ f∈aa.table n,f.1=to
  ·exact y
  ·rw[jV (λg z e=>y ⟨g,z,e⟩)]at r;simp at r
theorem Bv {n:aa}(h:cf n):cf (gM n):=cf.mk' h.table (tG h.cast _) h.asc h.inp
theorem clen {n:aa}(h:cf n):(aa.cast n).length<=8:=jh h.cast.2 (λx r=>(h.cast.1 x r).1.1)
theorem qQ (K:Nat)(n:aa)(to:Int)(h:cf n)(y:1048577<K):Q203.f K (n,to,())=some ((iq n to,gM n,()),()):=by
 have M:=clen h;simp only[Q203.f,zcp8];rw[show Q150.f K (n.2.2.2.2.2.2.2.2.2.1,3,())=_ from Bs K (aa.cast n) (by omega) h.cast y];simp only[B3];obtain⟨o,J,I⟩:=fP K (aa.table n) to h.lt y;rw[show Q103.f K (n.2.2.2.2.2.2.2.2.1,to,())=_ from I];simp only[B3,iq];have z:=pj h.cast (ca (aa.cast n));cases J with
 |no u =>
  rw[jV u];rfl
 |at_ j H e =>
  have r:aB (aa.table n) to=(aa.table n)[j]:=by rw[<- e];exact jU h.table.2 (B5 H)
  rw[r];simp only;rw[decide_eq_true (by omega:((j:Nat):Int)>=0),show idx n.2.2.2.2.2.2.2.2.1 ((j:Nat):Int)=some (aa.table n)[j] from ag H];simp only[cond_true,B3];cases (aa.table n)[j].2.2.1==2 with
  |false=>rfl
  |true =>
   simp only[cond_true];rw[wh K _ _ (bR z) z.2 y];rfl
theorem p9 (K:Nat)(n:aa)(to:Int)(h:cf n)(r:1048577<K):Q89.f K (n,to,())=some ((iq n to,()),(gM n,())):=by
 simp only[Q89.f,zcp8];rw[show Q88.f K (n.2.2.2.2.2.2.2.2.2.1,3,())=_ from wg K (aa.cast n) (clen h) h.cast r];simp only[B3];obtain⟨b,y⟩:=gJ K (aa.table n) to h.table h.lt r;rw[show Q23.f K (n.2.2.2.2.2.2.2.2.1,to,())=_ from y];simp only[B3,iq];have u:=pj h.cast (ca (aa.cast n));cases (aB (aa.table n) to).2.2.1==2 with
 |false=>rfl
 |true =>
  simp only[cond_true];rw[vY K _ _ (bR u) u.2 r];rfl
def bk (n:aa)(k:Nat):Int:=Cf (n.2.2.2.2.2.2.2.1+(k:Int)) 8
def hM (n:aa)(k:Nat):Prop:=bk n k≠n.1/\cW (aB (aa.table n) (bk n k))=true
def qR (n:aa)(to:Int):aa :=
 let m:=gM n
 (m.1,m.2.1,m.2.2.1,m.2.2.2.1,m.2.2.2.2.1,m.2.2.2.2.2.1,m.2.2.2.2.2.2.1+1,to+1,m.2.2.2.2.2.2.2.2.1,m.2.2.2.2.2.2.2.2.2.1,(to,m.2.2.2.2.2.1,m.2.2.2.2.2.2.1+1,false),m.2.2.2.2.2.2.2.2.2.2.2)
def sK (n:aa)(to:Int):an:=(1,1,n.1,to,n.2.2.2.2.2.2.1+1,n.1,aa.coord n,iq n to)
theorem vm (K:Nat)(n:aa)(h:cf n)(X:0<=n.2.2.2.2.2.2.2.1)(Z:n.2.2.2.2.2.2.2.1<=8)(hK:1048577<K) :
  ∃ to:Int,Q204.f K (n,())=some ((to,()),())/\((to=-1/\∀ k,k<8->¬ hM n k)\/∃ k,k<8/\hM n k/\(∀ j,j<k->¬ hM n j)/\to=bk n k):=by
 have u:∀ k:Nat,k<8->wr .i64 (n.2.2.2.2.2.2.2.1+(k:Int))=n.2.2.2.2.2.2.2.1+(k:Int):=λk M=>aA (by omega) (by omega)
 have:=bL (step:=λrec a=>Q204.s0 K (n,()) rec a) 8 (λi=>(i:Int)) (hM n) (some ((-1,()),())) (λj=>some ((bk n j,()),())) ?_ ?_ 8 K 0 (by omega) (by omega)
 ·rcases this with ⟨y,z⟩|⟨j,_,y,Y,h4,z⟩
  ·exact⟨-1,z,.inl ⟨rfl,λk M=>y k (CS _) M⟩⟩
  ·exact⟨_,z,.inr ⟨j,y,Y,λm R=>h4 m (CS _) R,rfl⟩⟩
 ·intro rec i O;simp only[Q204.s0];rw[decide_eq_true (by omega:(i:Int)<=7),u i O,ar i (by omega)];simp only[cond_true];show (¬ hM n i/\(bif bk n i != n.1 then ((Q200.f K (aa.table n,bk n i,())).bind λH=>bif H.1.1 then (some ((bk n i,()),())) else (rec ((i+1:Nat):Int))) else (rec ((i+1:Nat):Int)))=rec ((i+1:Nat):Int))\/(hM n i/\(bif bk n i != n.1 then ((Q200.f K (aa.table n,bk n i,())).bind λH=>bif H.1.1 then (some ((bk n i,()),())) else (rec ((i+1:Nat):Int))) else (rec ((i+1:Nat):Int)))=some ((bk n i,()),()));rw[tx K (aa.table n) (bk n i) h.table h.lt hK];by_cases r:bk n i=n.1
  ·exact .inl ⟨λJ=>J.1 r,by rw[show (bk n i != n.1)=false by simpa using r];rfl⟩
  ·rw[show (bk n i != n.1)=true by simpa using r];cases I:cW (aB (aa.table n) (bk n i)) with
   |true=>exact .inr ⟨⟨r,I⟩,rfl⟩
   |false=>exact .inl ⟨λJ=>(by rw[J.2]at I;cases I),rfl⟩
 ·intro rec;simp only[Q204.s0];rfl
theorem zq (K:Nat)(n:aa)(h:cf n)(hp:(aa.probe n).1=-1)(a7:0<=n.2.2.2.2.2.2.1)(a6:n.2.2.2.2.2.2.1<=1000000)(a1:0<=n.2.2.2.2.2.2.2.1)(a3:n.2.2.2.2.2.2.2.1<=8)(hK:1048577<K) :
  ∃ (y:aa) (Z:List an),Q205.f K (n,())=some ((y,Z,()),())/\Q237.f K (n,())=some ((Z,()),(y,()))/\((y=n/\Z=[])\/∃ to,y=qR n to/\Z=[sK n to]):=by
 have z:∀ k:Nat,k<8->wr .i64 (n.2.2.2.2.2.2.2.1+(k:Int))=n.2.2.2.2.2.2.2.1+(k:Int):=λk X=>aA (by omega) (by omega)
 have H:∀ k:Nat,k<8->0<=bk n k/\bk n k<8:=λk X=>⟨DU _ (by omega),DJ _ (by omega)⟩
 obtain⟨to,es,a4⟩:=vm K n h a1 a3 hK;simp only[Q205.f,zcp4,Q237.f,Q237.pre];rw[es,show (n.2.2.2.2.2.2.2.2.2.2.1.1 != -1)=false by show ((aa.probe n).1 != -1)=false;rw[hp];rfl];simp only[B3,cond_false];by_cases u:n.2.2.2.2.2.2.1>=999999
 ·rw[decide_eq_true u];refine⟨n,[],?_,rfl,.inl ⟨rfl,rfl⟩⟩;cases decide (to<0) <;> rfl
 ·rw[decide_eq_false u];simp only[cond_false];have J:wr .i64 (n.2.2.2.2.2.2.1+1)=n.2.2.2.2.2.2.1+1:=aA (by omega) (by omega);have M:=bL (step:=λrec a=>Q237.s0 K (n,()) rec a) 8 (λi=>(i:Int)) (hM n) (some (([],()),(n,()))) (λj=>some (([sK n (bk n j)],()),(qR n (bk n j),()))) ?_ ?_ 8 K 0 (by omega) (by omega)
  ·rcases a4 with ⟨rfl,a5⟩|⟨k,X,I,a2,rfl⟩
   ·rcases M with ⟨_,h2⟩|⟨j,_,R,h3,_,_⟩
    ·exact⟨n,[],rfl,h2,.inl ⟨rfl,rfl⟩⟩
    ·exact absurd h3 (a5 j R)
   ·have a8:=H k X;rcases M with ⟨R,_⟩|⟨j,_,R,h3,h4,h2⟩
    ·exact absurd I (R k (CS _) X)
    ·have:j=k:=by
      rcases C7 j k with O|O|O
      ·exact absurd h3 (a2 j O)
      ·exact O
      ·exact absurd I (h4 k (CS _) O)
     subst this;refine⟨qR n (bk n j),[sK n (bk n j)],?_,h2,.inr ⟨_,rfl,rfl⟩⟩;rw[decide_eq_false (by omega:¬ bk n j<0)];simp only[cond_false];rw[qQ K n _ h hK];simp only[B3];rw[show wr .i64 ((gM n).2.2.2.2.2.2.1+1)=n.2.2.2.2.2.2.1+1 from J,aA (n:=bk n j+1) (by omega) (by omega)];simp only[Q147.f];rw[szb _ _ _ (by omega) (by have:=bR (kz h (bk n j));simp;omega)];rfl
  ·intro rec i M;have Y:=H i M;simp only[Q237.s0,zcp4];rw[decide_eq_true (by omega:(i:Int)<8),z i M,ar i (by omega)];simp only[cond_true];have a0:=tz K n (bk n i) h.table h.lt hK;rw[show Cf (n.2.2.2.2.2.2.2.1+(i:Int)) 8=bk n i from rfl];by_cases r:bk n i=n.1
   ·exact .inl ⟨λY=>Y.1 r,by rw[show (bk n i==n.1)=true by simpa using r];rfl⟩
   ·rw[show (bk n i==n.1)=false by simpa using r];simp only[cond_false];rw[a0];simp only[B3];cases hl:cW (aB (aa.table n) (bk n i)) with
    |false=>exact .inl ⟨λY=>(by rw[Y.2]at hl;cases hl),rfl⟩
    |true =>
     refine .inr ⟨⟨r,hl⟩,?_⟩;simp only[CB,cond_false];rw[p9 K n _ h hK];simp only[B3,Q70.f];rw[show wr .i64 ((gM n).2.2.2.2.2.2.1+1)=n.2.2.2.2.2.2.1+1 from J,aA (n:=bk n i+1) (by omega) (by omega)];rfl
  ·intro rec;simp only[Q237.s0,zcp4];rfl
abbrev lW:=Int×ByteArray×Bool
abbrev cd:=List aa×List lW×List Int×List af
abbrev cd.radio (w:cd):List lW:=w.2.1
abbrev cd.sides (w:cd):List Int:=w.2.2.1
abbrev cd.born (w:cd):List af:=w.2.2.2
theorem gN {n:Int}(h:InP n 0 7):aj n=n / 4:=by
 obtain⟨r,u⟩:=h;unfold aj;rw[Ch r,aA (by omega) (by omega)]
theorem AB {α:Type}{k:α->Int}{xs:List α}(h:Asc k xs):∀ i (r:i<xs.length),k (xs[0]'(by omega))+i<=k xs[i]:=by
 rw[hI]at h;intro i;induction i with
 |zero=>intro r;simp
 |succ i y =>
  intro r;have z:=y (by omega);have u:=h (i+1) r (by omega);simp only[Nat.add_sub_cancel]at u;omega
theorem uL {t:List af}{s:Int}(u:aw t)(y:bV t s):t.length<=4:=by
 cases h:t.length with
 |zero=>omega
 |succ m =>
  have r:m<t.length:=by omega
  have z:0<t.length:=by omega
  have O:=AB u.2 m r;have H:=y _ (B5 r);have J:=y _ (B5 z);have M:=(u.1 _ (B5 r)).1;have I:=(u.1 _ (B5 z)).1;rw[gN M]at H;rw[gN I]at J;omega
theorem ng {z:Int}{l:List ce}(u:InP z 0 7)(h:dk z l):l=[]\/∃ x,l=[x]:=by
 match l,h with
 |[],_=>exact .inl rfl
 |[x],_=>exact .inr ⟨x,rfl⟩
 |x::y::r,h =>
  exfalso;have H:=h.1 x (by simp);have I:=h.1 y (by simp);have h3:x.1<y.1:=by
   have:=h.2;unfold Asc at this;rw[CN]at this;exact this.1 y (by simp)
  have e:=gN u;obtain⟨⟨R,X⟩,M,_⟩:=H;obtain⟨⟨Y,b2⟩,J,_⟩:=I;obtain⟨Z,O⟩:=u;rw[e]at M J;omega
theorem lX {a:Int}{m:Nat}(u:m<4611686018427387904):0<=aQ .i64 a (m:Int)/\aQ .i64 a (m:Int)<=m:=by
 have h:(BitVec.ofInt 64 a &&& BitVec.ofInt 64 (m:Int)).toNat<=m:=by
  rw[BitVec.toNat_and];refine CL Nat.and_le_right ?_;rw[BitVec.toNat_ofInt];omega
 show 0<=IntKind.i64.wrap (((BitVec.ofInt 64 a &&& BitVec.ofInt 64 (m:Int)).toNat:Nat):Int)/\IntKind.i64.wrap (((BitVec.ofInt 64 a &&& BitVec.ofInt 64 (m:Int)).toNat:Nat):Int)<=m;generalize (BitVec.ofInt 64 a &&& BitVec.ofInt 64 (m:Int)).toNat=r at h ⊢;rw[Dh];omega
def hX (g:List Int)(d:Int):Int:=g.getD (B6 (Cf (aQ .i64 d 255) (g.length:Int))) 0
theorem eT {g:List Int}{d:Int}(h:g≠[]):idx g (Cf (aQ .i64 d 255) (g.length:Int))=some (hX g d)/\idx g ((B6 (Cf (aQ .i64 d 255) (g.length:Int)):Nat):Int)=some (hX g d)/\hX g d∈g:=by
 have I:0<g.length:=Co.2 h;have H:=(lX (a:=d) (m:=255) (by omega)).1;have y:0<=Cf (aQ .i64 d 255) (g.length:Int):=DU _ H;have z:Cf (aQ .i64 d 255) (g.length:Int)<g.length:=DJ _ (by omega);unfold hX;obtain⟨v,u⟩:=B8 y;rw[u]at z ⊢;have r:v<g.length:=by omega
 rw[B7,ag r,List.getD_eq_getElem?_getD,CD r];exact⟨rfl,rfl,B5 r⟩
def ji (n:aa)(r d:Int):Int :=
 bif decide (dW (dp (aa.others n) r)≠[])&&aQ .i64 d 4==0 then hX (dW (dp (aa.others n) r)) (CQ d (2 ^ 3)) else r*4+aQ .i64 (CQ d (2 ^ 3)) 3
structure iv (n:aa):Prop where
 short:(aa.others n).length<=1
 table:∀ x∈aa.others n,aw x.2/\x.2.length<=1048576
theorem xN {r d:Int}(H:0<=r)(z:r<=1):wr .i64 (wr .i64 (r*4)+aQ .i64 (CQ d (2 ^ 3)) 3)=r*4+aQ .i64 (CQ d (2 ^ 3)) 3:=by
 obtain⟨u,y⟩:=lX (a:=CQ d (2 ^ 3)) (m:=3) (by omega);have u:0<=aQ .i64 (CQ d (2 ^ 3)) 3:=u;have y:aQ .i64 (CQ d (2 ^ 3)) 3<=3:=y;rw[aA (n:=r*4) (by omega) (by omega),aA (by omega) (by omega)]
theorem far_s (K:Nat)(n:aa)(r d:Int)(h:iv n)(O:0<=r)(J:r<=1)(X:1048577<K):Q209.f K (n,r,d,())=some ((ji n r d,()),()):=by
 obtain⟨k,rfl⟩:∃ k,K=k+2:=⟨K-2,by omega⟩;show Q209.s0 (k+2) (n,r,d,()) (ae (λrec a=>Q209.s0 (k+2) (n,r,d,()) rec a) (k+1)) 0=_;have z:∀ (rec:Int->Option ((Int×Unit)×Unit)) (a:Int),¬ a<(aa.others n).length->Q209.s0 (k+2) (n,r,d,()) rec a=some ((r*4+aQ .i64 (CQ d (2 ^ 3)) 3,()),()):=by
  intro rec a M;simp only[Q209.s0];rw[show decide (a<(B4 n.2.2.2.2.2.2.2.2.2.2.2.2.2.2:Int))=false from decide_eq_false M,xN O J];rfl
 match y:aa.others n with
 |[] =>
  rw[z _ _ (by rw[y];simp),ji,y];rfl
 |[x] =>
  have R:=h.table x (by rw[y];simp);have u:ae (λrec a=>Q209.s0 (k+2) (n,r,d,()) rec a) (k+1) 1=some ((r*4+aQ .i64 (CQ d (2 ^ 3)) 3,()),()):=z _ _ (by rw[y];simp);generalize ae (λrec a=>Q209.s0 (k+2) (n,r,d,()) rec a) (k+1)=rec at u ⊢;simp only[Q209.s0];rw[show decide ((0:Int)<(B4 n.2.2.2.2.2.2.2.2.2.2.2.2.2.2:Int))=true from decide_eq_true (by show (0:Int)<((aa.others n).length:Int);rw[y];simp),show idx n.2.2.2.2.2.2.2.2.2.2.2.2.2.2 (0:Int)=some x by show idx (aa.others n) (0:Int)=some x;rw[y];rfl,show wr .i64 ((0:Int)+1)=1 from rfl];simp only[cond_true,B3,u];rw[ji,y];cases I:x.1==r with
  |false =>
   simp only[cond_false,dp,DR,I,List.find?_nil];rfl
  |true =>
   simp only[cond_true,dp,DR,I,Dj,Dg];rw[vd (k+2) x.2 R.2 X];simp only[B3];by_cases H:dW x.2=[]
   ·rw[H];rfl
   ·have Y:0<(dW x.2).length:=Co.2 H;rw[decide_eq_true H,decide_eq_true (by omega:((dW x.2).length:Int)>0)];simp only[cond_true,Cb];cases aQ .i64 d 4==0 with
    |false=>rfl
    |true =>
     simp only[cond_true];rw[decide_eq_false (by omega:¬ ((dW x.2).length:Int)=0),(eT H).1,(eT H).2.1];rfl
 |_::_::_=>exact absurd h.short (by rw[y];simp)
def i9 (n:aa):Bool:=decide (n.1∈dW (aa.table n))
theorem zr (K:Nat)(n:aa)(M:(aa.table n).length<=1048576)(O:1048577<K):Q208.f K (n,())=rb (i9 n):=by
 simp only[Q208.f,Q208.pre];rw[show Q207.f K (n.2.2.2.2.2.2.2.2.1,2,())=_ from vd K (aa.table n) M O];simp only[B3];have I:=rE (aa.table n);unfold i9;generalize dW (aa.table n)=g at I ⊢;have:=bL (step:=λrec a=>Q208.s0 K (n,()) rec a) g.length (λi=>(g,(i:Int))) (λj=>∃ h:j<g.length,g[j]=n.1) (rb false) (λ_=>rb true) ?_ ?_ g.length K 0 (by omega) (by omega)
 ·rcases this with ⟨y,u⟩|⟨j,_,y,⟨J,R⟩,_,u⟩
  ·rw[decide_eq_false (λH=>by
    obtain⟨i,r,e⟩:=CC H;exact y i (CS _) r ⟨r,e⟩)]
   exact u
  ·rw[decide_eq_true (R ▸ B5 J:n.1∈g)];exact u
 ·intro rec i r;simp only[Q208.s0];rw[bz (by omega:(i:Int)<(B4 g:Int)),ag r,ar i (by omega),B7,ag r];simp only[cond_true,B3];by_cases h:g[i]=n.1
  ·exact .inr ⟨⟨r,h⟩,by rw[show (g[i]==n.1)=true by simpa using h];rfl⟩
  ·exact .inl ⟨λ⟨_,z⟩=>h z,by rw[show (g[i]==n.1)=false by simpa using h];rfl⟩
 ·intro rec;simp only[Q208.s0,aS];rfl
theorem zt (K:Nat)(g:List Int)(v:Int)(O:g.length<=1048576)(R:1048577<K):Q239.f K (g,v,())=rb (decide (v∈g)):=by
 have:=bL (step:=λrec a=>Q238.s0 K (g,v,()) rec a) g.length (λi=>(i:Int)) (λj=>∃ h:j<g.length,v=g[j]) (some ((-1,()),())) (λj=>some ((((j:Nat):Int),()),())) ?_ ?_ g.length K 0 (by omega) (by omega)
 ·simp only[Q239.f];rcases this with ⟨y,u⟩|⟨j,_,y,⟨J,M⟩,_,u⟩
  ·have e:Q238.f K (g,v,())=some ((-1,()),()):=u;rw[e,decide_eq_false (λI=>by
    obtain⟨i,r,z⟩:=CC I;exact y i (CS _) r ⟨r,z.symm⟩)]
   rfl
  ·have e:Q238.f K (g,v,())=some ((((j:Nat):Int),()),()):=u;rw[e,decide_eq_true (M ▸ B5 J:v∈g)];simp only[B3];rw[decide_eq_true (by omega:((j:Nat):Int)>=0)]
 ·intro rec i r;simp only[Q238.s0];rw[bz (by omega:(i:Int)<(B4 g:Int)),ag r,ar i (by omega)];simp only[cond_true,B3];by_cases h:v=g[i]
  ·exact .inr ⟨⟨r,h⟩,by rw[show (v==g[i])=true by simpa using h];rfl⟩
  ·exact .inl ⟨λ⟨_,H⟩=>h H,by rw[show (v==g[i])=false by simpa using h];rfl⟩
 ·intro rec;simp only[Q238.s0,aS];rfl
def wanW (n:aa)(d r:Int):an:=(2,(oe 6 n (ji n r d)).2)
def iJ (n:aa)(d:Int):List an:=bif i9 n then (([0,1]:List Int).filter (λs=>s != aj n.1)).map (wanW n d) else []
theorem wan_s (K:Nat)(n:aa)(d:Int)(h:iv n)(u:(aa.table n).length<=1048576)(y:1048577<K):Q210.f K (n,d,())=some ((iJ n d,()),()):=by
 simp only[Q210.f,Q210.pre];rw[zr K n u y];simp only[B3,iJ];cases i9 n with
 |false=>rfl
 |true =>
  simp only[CB,cond_false,cond_true];refine lT (step:=λrec a=>Q210.s0 K (n,d,()) rec a) ([0,1]:List Int) (λs=>s != aj n.1) (wanW n d) (λr i=>(r,(i:Int))) (λJ=>some ((J,()),())) ?_ ?_ (by simp;omega)
  ·intro rec r i M z;have H:i<2:=M;have I:([0,1]:List Int)[i]=(i:Int):=by
    have:i=0\/i=1:=by omega
    rcases this with rfl|rfl <;> rfl
   simp only[Q210.s0,I];rw[decide_eq_true (by omega:(i:Int)<=1),ar i (by omega),eQ K n.1];simp only[cond_true,B3];cases (i:Int) != aj n.1 with
   |false=>rfl
   |true =>
    simp only[cond_true];rw[far_s K n (i:Int) d h (by omega) (by omega) y];simp only[B3];refine (congrArg (λo=>CI o _) (oh K n 6 (ji n (i:Int) d) u)).trans ?_;simp only[B3];rw[szw _ _ _ (by omega) (by simp;omega)];rfl
  ·intro rec r z;simp only[Q210.s0];rfl
theorem zu (K:Nat)(n:aa)(d:Int)(M:NB n)(h:iv n)(hT:aw (aa.table n))(I:1048577<K):Q242.f K (n,d,())=some ((iJ n d,()),()):=by
 have R:=M.table;simp only[Q242.f,Q242.pre];rw[show Q241.f K (n.2.2.2.2.2.2.2.2.1,2,())=_ from ve K (aa.table n) R I hT];simp only[B3];rw[zt K (dW (aa.table n)) n.1 (CL (rE _) (by decide)) I];simp only[B3,iJ];show (bif !(i9 n) then _ else _)=_;cases i9 n with
 |false=>rfl
 |true =>
  simp only[CB,cond_false,cond_true];rw[m7 K 7];simp only[B3,show wr .i64 (aj 7+1)=2 from rfl];refine lT (step:=λrec a=>Q242.s0 K (n,d,()) rec a) ([0,1]:List Int) (λs=>s != aj n.1) (wanW n d) (λr i=>(r,(2:Int),(i:Int))) (λws=>some ((ws,()),())) ?_ ?_ (by simp;omega)
  ·intro rec r i hi X;have Y:i<2:=hi;have hv:([0,1]:List Int)[i]=(i:Int):=by
    have:i=0\/i=1:=by omega
    rcases this with rfl|rfl <;> rfl
   simp only[Q242.s0,hv];rw[decide_eq_true (by omega:(i:Int)<2),ar i (by omega),n9 K n];simp only[cond_true,B3];rw[show ((i:Int) != aj n.1)=!((i:Int)==aj n.1) from rfl];cases (i:Int)==aj n.1 with
   |true=>rfl
   |false =>
    simp only[cond_false,CO,cond_true];rw[vf K n (i:Int) M I];simp only[B3];have z:aw (dp (aa.others n) (i:Int))/\(dp (aa.others n) (i:Int)).length<=1048576:=by
     rcases m9 (l:=aa.others n) (s:=(i:Int)) with e|⟨x,hx,_,e⟩
     ·rw[e];exact⟨⟨by simp,List.Pairwise.nil⟩,by simp⟩
     ·rw[e];exact h.table x hx
    rw[ve K _ z.2 I z.1];simp only[B3];rw[xN (by omega) (by omega)];have Z:=λto=>qN K n 6 to R
    have u:∀ to,to=ji n (i:Int) d->((Q91.f K (n,6,to,())).bind λO=>bif decide ((B4 r+B4 ([(2,O.1.1.2)]))*104<=am) then (rec (r++([(2,O.1.1.2)]),(2:Int),((i+1:Nat):Int))) else none)=rec (r++[wanW n d (i:Int)],(2:Int),((i+1:Nat):Int)):=by
     intro to J;rw[Z to,J];simp only[B3];rw[szw _ _ _ (by omega) (by simp;omega)];rfl
    by_cases y:dW (dp (aa.others n) (i:Int))=[]
    ·rw[y];refine u _ ?_;rw[ji,y];rfl
    ·have hl:0<(dW (dp (aa.others n) (i:Int))).length:=Co.2 y;rw[decide_eq_true (by omega:((dW (dp (aa.others n) (i:Int))).length:Int)>0)];simp only[cond_true];cases H:aQ .i64 d 4==0 with
     |false =>
      refine u _ ?_;rw[ji,H,DI];rfl
     |true =>
      simp only[cond_true];rw[decide_eq_false (by omega:¬ ((dW (dp (aa.others n) (i:Int))).length:Int)=0),(eT y).1,(eT y).2.1];simp only[cond_false,B3];refine u _ ?_;rw[ji,H,decide_eq_true y];rfl
  ·intro rec r X;simp only[Q242.s0];rfl
def nh (n:aa)(f:af):Bool:=f.2.2.1 != 4&&f.1 != n.1
def cl (n:aa):List Int:=((aa.table n).filter (nh n)).map (·.1)
def ni (n:aa)(to:Int):List an:=match aa.others n with
 |[]=>[]
 |x::_=>[(1,6,n.1,to,0,n.1,aa.coord n,x.2)]
def ff (n:aa)(r:Int):List an :=
 bif aQ .i64 r 3==1 then iJ n (CQ r (2 ^ 2)) else
 bif aQ .i64 r 3==3||decide (cl n=[]) then [] else
 bif aQ .i64 r 3==0 then [oe 4 n (hX (cl n) (CQ r (2 ^ 2)))] else ni n (hX (cl n) (CQ r (2 ^ 2)))
theorem and3 (a:Int):aQ .i64 a 3=0\/aQ .i64 a 3=1\/aQ .i64 a 3=2\/aQ .i64 a 3=3:=by
 obtain⟨u,r⟩:=lX (a:=a) (m:=3) (by omega);have u:0<=aQ .i64 a 3:=u;have r:aQ .i64 a 3<=3:=r;omega
theorem xO {n:aa}(u:aw (aa.table n)){v:Int}(r:v∈cl n):0<=v:=by
 obtain⟨f,y,rfl⟩:=CM.1 r;exact (u.1 f (CA.1 y).1).1.1
theorem Bw (K:Nat)(n:aa)(d:Int)(J:(aa.table n).length<=1048576)(M:1048577<K):Q206.f K (n,d,())=some ((bif decide (cl n=[]) then -1 else hX (cl n) d,()),()):=by
 refine (pU (step:=λrec a=>Q206.s0 K (n,d,()) rec a) (aa.table n) (nh n) (λf=>f.1) (λy=>some ((bif decide (y=[]) then -1 else hX y d,()),())) ?_ ?_ (by omega)).trans rfl
 ·intro rec r i z I;simp only[Q206.s0];rw[show decide ((i:Int)<(B4 n.2.2.2.2.2.2.2.2.1:Int))=true from bz (by omega:(i:Int)<(B4 (aa.table n):Int)),show idx n.2.2.2.2.2.2.2.2.1 (i:Int)=some (aa.table n)[i] from ag z,ar i (by omega)];simp only[cond_true,B3,nh];rw[szb _ _ _ (by omega) (by simp;omega)];cases (aa.table n)[i].1 != n.1 <;> cases (aa.table n)[i].2.2.1 != 4 <;> rfl
 ·intro rec r _;simp only[Q206.s0];rw[show decide ((B4 (aa.table n):Int)<(B4 n.2.2.2.2.2.2.2.2.1:Int))=false from aS _];simp only[cond_false];by_cases u:r=[]
  ·subst u;rfl
  ·have H:0<r.length:=Co.2 u;rw[show ((r.length:Int)==0)=false by simp;exact u,decide_eq_false (by omega:¬ (r.length:Int)=0),decide_eq_false u,(eT u).1,(eT u).2.1];rfl
theorem xP (K:Nat)(n:aa)(r:Int)(h:iv n)(M:aw (aa.table n))(H:(aa.table n).length<=1048576)(I:1048577<K):Q211.f K (n,r,())=some ((ff n r,()),()):=by
 simp only[Q211.f];rw[Bw K n _ H I];simp only[B3];rw[wan_s K n _ h H I];simp only[B3,ff];by_cases u:cl n=[]
 ·rw[decide_eq_true u];simp only[cond_true,Do,show decide ((-1:Int)>=0)=false from rfl,cond_false];rcases and3 r with e|e|e|e <;> rw[e] <;> rfl
 ·have O:=xO M (eT (d:=CQ r (2 ^ 2)) u).2.2;rw[decide_eq_false u];simp only[cond_false,Bool.or_false];rw[decide_eq_true (by omega:hX (cl n) (CQ r (2 ^ 2))>=0)];simp only[cond_true];rw[show Q147.f K (n,4,hX (cl n) (CQ r (2 ^ 2)),0,n.1,n.2.2.2.2.2.2.2.2.1,())=_ from oh K n 4 _ H];simp only[B3];rcases and3 r with e|e|e|e
  ·rw[e];rfl
  ·rw[e];rfl
  ·rw[e];simp only[show ((2:Int)==0)=false from rfl,show ((2:Int)==1)=false from rfl,show ((2:Int)==2)=true from rfl,show ((2:Int)==3)=false from rfl,cond_false,cond_true];unfold ni
   match y:aa.others n with
   |[] =>
    rw[show decide ((B4 n.2.2.2.2.2.2.2.2.2.2.2.2.2.2:Int)>0)=false by show decide (((aa.others n).length:Int)>0)=false;rw[y];rfl];rfl
   |[x] =>
    have J:=h.table x (by rw[y];simp);have z:(aa.others n).length=1:=by rw[y];rfl
    rw[show decide ((B4 n.2.2.2.2.2.2.2.2.2.2.2.2.2.2:Int)>0)=true by show decide (((aa.others n).length:Int)>0)=true;rw[z];rfl,show decide ((B4 n.2.2.2.2.2.2.2.2.2.2.2.2.2.2:Int)=0)=false by show decide (((aa.others n).length:Int)=0)=false;rw[z];rfl];simp only[cond_true,cond_false];rw[show idx n.2.2.2.2.2.2.2.2.2.2.2.2.2.2 (Cf (aQ .i64 (CQ r (2 ^ 10)) 255) (B4 n.2.2.2.2.2.2.2.2.2.2.2.2.2.2:Int))=some x by
     show idx (aa.others n) (Cf (aQ .i64 (CQ r (2 ^ 10)) 255) ((aa.others n).length:Int))=some x;rw[z,y,show ((1:Nat):Int)=1 from rfl,Int.tmod_one];rfl]
    simp only[B3,Q147.f];rw[szb _ _ _ (by omega) (by have:=J.2;simp;omega)];rfl
   |_::_::_=>exact absurd h.short (by rw[y];simp)
  ·rw[e];rfl
theorem AC (K:Nat)(n:aa)(r:Int)(I:NB n)(h:iv n)(R:aw (aa.table n))(M:1048577<K):Q244.f K (n,r,())=some ((ff n r,()),()):=by
 have J:=I.table;simp only[Q244.f,zcp4];rw[zu K n _ I h R M];simp only[B3,ff];cases aQ .i64 r 3==1 with
 |true=>rfl
 |false =>
  simp only[cond_false];rw[show Q234.f K (n.2.2.2.2.2.2.2.2.1,(λO=>(Q243.f K (O.1,n,())).map λy=>y.1.1),())=_ from qM K (aa.table n) _ (nh n) J M (λf _=>by
   simp only[Q243.f,nh];cases f.2.2.1 != 4 <;> cases f.1 != n.1 <;> rfl)]
  simp only[B3];show (bif aQ .i64 r 3==3 then some (([],()),()) else (bif ((cl n).length:Int)==0 then _ else _))=_;cases aQ .i64 r 3==3 with
  |true=>rfl
  |false =>
   simp only[cond_false,DC];by_cases u:cl n=[]
   ·rw[decide_eq_true u,show (((cl n).length:Int)==0)=true by rw[u];rfl];rfl
   ·have Z:0<(cl n).length:=Co.2 u;rw[decide_eq_false u,show (((cl n).length:Int)==0)=false by simp;exact u];simp only[cond_false];show (bif decide (((cl n).length:Int)=0) then none else ((idx (cl n) (Cf (aQ .i64 (CQ r (2 ^ 2)) 255) ((cl n).length:Int))).bind λ_=>(idx (cl n) ((B6 (Cf (aQ .i64 (CQ r (2 ^ 2)) 255) ((cl n).length:Int)):Nat):Int)).bind λY=>_))=_;rw[decide_eq_false (by omega:¬ ((cl n).length:Int)=0),(eT u).1,(eT u).2.1];simp only[cond_false,B3];cases aQ .i64 r 3==0 with
    |true =>
     simp only[cond_true];rw[qN K n 4 _ J];rfl
    |false =>
     simp only[cond_false,Q70.f,B3,Q0.f];unfold ni
     match H:aa.others n with
     |[] =>
      rw[show ((B4 n.2.2.2.2.2.2.2.2.2.2.2.2.2.2:Int)==0)=true by show (((aa.others n).length:Int)==0)=true;rw[H];rfl];rfl
     |[x] =>
      have X:=h.table x (by rw[H];simp);have z:(aa.others n).length=1:=by rw[H];rfl
      rw[show ((B4 n.2.2.2.2.2.2.2.2.2.2.2.2.2.2:Int)==0)=false by show (((aa.others n).length:Int)==0)=false;rw[z];rfl,show decide ((B4 n.2.2.2.2.2.2.2.2.2.2.2.2.2.2:Int)=0)=false by show decide (((aa.others n).length:Int)=0)=false;rw[z];rfl];simp only[cond_false];rw[show idx n.2.2.2.2.2.2.2.2.2.2.2.2.2.2 (Cf (aQ .i64 (CQ (CQ r (2 ^ 2)) (2 ^ 10)) 255) (B4 n.2.2.2.2.2.2.2.2.2.2.2.2.2.2:Int))=some x by
       show idx (aa.others n) (Cf (aQ .i64 (CQ (CQ r (2 ^ 2)) (2 ^ 10)) 255) ((aa.others n).length:Int))=some x;rw[z,H,show ((1:Nat):Int)=1 from rfl,Int.tmod_one];rfl]
      simp only[B3];rw[dv (by have:=X.2;omega)];rfl
     |_::_::_=>exact absurd h.short (by rw[H];simp)
def rk (f:af):Int:=f.2.1*16+f.2.2.1*2+(if f.2.2.2=true then 1 else 0)
theorem qS {f g:af}(r:bu f)(u:bu g):bM f g<->rk g<rk f:=by
 obtain⟨_,_,y,z⟩:=r;obtain⟨_,_,H,I⟩:=u;unfold bM rk;by_cases a:f.2.1=g.2.1
 ·rw[if_neg (by simpa using a)];by_cases c:f.2.2.1=g.2.2.1
  ·rw[if_neg (by simpa using c),a,c];cases f.2.2.2 <;> cases g.2.2.2 <;> simp <;> omega
  ·rw[if_pos c];cases f.2.2.2 <;> cases g.2.2.2 <;> simp <;> omega
 ·rw[if_pos a];cases f.2.2.2 <;> cases g.2.2.2 <;> simp <;> omega
theorem oG {t:List af}(z:Asc (λg:af=>g.1) t)(f:af):bY t f=(t,false)\/(bY t f=(bD (λg=>g.1) f t,true)/\∀ g∈t,g.1=f.1->bM f g):=by
 by_cases h:∃ g∈t,g.1=f.1
 ·obtain⟨g,r,e⟩:=h;obtain⟨i,J,rfl⟩:=CC r;rw[kK z J e];by_cases y:bM f t[i]
  ·rw[if_pos y];refine .inr ⟨rfl,λM u I=>?_⟩;rw[fD z u r (by rw[e,I])];exact y
  ·rw[if_neg y];exact .inl rfl
 ·have H:∀ g∈t,g.1≠f.1:=λg r e=>h ⟨g,r,e⟩
  exact .inr ⟨iG H,λg r e=>absurd e (H g r)⟩
theorem oH {n:aa}(X:aw (aa.table n)):iU n<->(∀ d∈aa.doubts n,lS n d)/\Asc (λd:bt=>d.1) (aa.doubts n)/\∀ f∈aa.table n,f.2.2.1=2->∃ d∈aa.doubts n,d.1=f.1:=by
 have J:((aU (aa.table n)).map (λf:af=>f.1)).Pairwise (·<·):=by
  rw[CT];exact Cx _ X.2
 constructor
 ·rintro⟨h1,h2,h3⟩;refine⟨h1,h2,λf H u=>?_⟩;have r:((aa.doubts n).map (λd:bt=>d.1)).Pairwise (·<·):=by rw[CT];exact h2
  have:=(js _ _ r J (λx y=>by
   obtain⟨d,r,rfl⟩:=CM.1 y;obtain⟨⟨g,I,e,M,_⟩,_⟩:=h1 d r;exact CM.2 ⟨g,CA.2 ⟨I,by simpa using M⟩,e⟩)).2 (by rw[CG,CG,h3])
  have O:f.1∈(aU (aa.table n)).map (λf:af=>f.1):=CM.2 ⟨f,CA.2 ⟨H,by simpa using u⟩,rfl⟩;rw[<- this]at O;obtain⟨d,r,e⟩:=CM.1 O;exact⟨d,r,e⟩
 ·rintro⟨h1,h2,h3⟩;refine⟨h1,h2,?_⟩;have r:((aa.doubts n).map (λd:bt=>d.1)).Pairwise (·<·):=by rw[CT];exact h2
  have R:=(js _ _ r J (λx y=>by
   obtain⟨d,r,rfl⟩:=CM.1 y;obtain⟨⟨g,I,e,M,_⟩,_⟩:=h1 d r;exact CM.2 ⟨g,CA.2 ⟨I,by simpa using M⟩,e⟩)).1
  have Y:=(js _ _ J r (λx y=>by
   obtain⟨f,H,rfl⟩:=CM.1 y;obtain⟨z,u⟩:=CA.1 H;obtain⟨d,r,e⟩:=h3 f z (by simpa using u);exact CM.2 ⟨d,r,e⟩)).1
  rw[CG,CG]at R Y;omega
def aZ (n:aa):Int:=n.2.2.2.2.2.1
def fA (n:aa)(b:Int):Prop:=InP b 0 7/\aj b=aj n.1
theorem jJ {n:aa}(r:Asc (λg:af=>g.1) (aa.table n))(f:af)(b:Int):sayOf n f b=n \/
  (sayOf n f b=gl n (bD (λg=>g.1) f (aa.table n)) (dB (aa.cast n) f) (bif jg n f then aa.doubts n else cD (aZ n) (aa.doubts n) f b)/\∀ g∈aa.table n,g.1=f.1->bM f g):=by
 rcases oG r f with h|⟨h,u⟩
 ·left;unfold sayOf;rw[h];rfl
 ·right;refine⟨?_,u⟩;unfold sayOf;rw[h];rfl
theorem wj {n:aa}{f:af}{b:Int}(X:aw (aa.table n))(hD:iU n)(hf:bu f)(hb:fA n b)(hn:0<=aZ n)(c:List aM) :
  iU (gl n (bD (λg=>g.1) f (aa.table n)) c (bif jg n f then aa.doubts n else cD (aZ n) (aa.doubts n) f b)):=by
 obtain⟨h1,Z,h3⟩:=(oH X).1 hD;have a0:aw (bD (λg:af=>g.1) f (aa.table n)):=⟨λg y=>by
  rcases aW.1 y with rfl|⟨y,_⟩
  ·exact hf
  ·exact X.1 g y,fE X.2⟩
 refine (oH (n:=gl n _ c _) a0).2 ?_;have J:∀ d∈aa.doubts n,d.1≠f.1->∀ ds,lS (gl n (bD (λg:af=>g.1) f (aa.table n)) c ds) d:=λd z u ds=>by
  obtain⟨⟨g,y,O,Y,R⟩,r⟩:=h1 d z;exact⟨⟨g,aW.2 (.inr ⟨y,by rw[O];exact u⟩),O,Y,R⟩,r⟩
 have I:∀ g∈bD (λg:af=>g.1) f (aa.table n),g.1≠f.1->g.2.2.1=2->∃ d∈aa.doubts n,d.1=g.1:=λg y u h=>by
  rcases aW.1 y with rfl|⟨y,_⟩
  ·exact absurd rfl u
  ·exact h3 g y h
 cases hs:jg n f with
 |true =>
  obtain⟨g0,M,s1,s2,s3⟩:=of_decide_eq_true hs;refine⟨λd z=>?_,Z,λg y h=>?_⟩
  ·by_cases u:d.1=f.1
   ·obtain⟨⟨g,y,O,Y,R⟩,r⟩:=h1 d z;rw[fD X.2 y M (by rw[O,s1,u])]at Y R;exact⟨⟨f,aW.2 (.inl rfl),u.symm,by rw[<- s3];exact Y,by rw[<- s2];exact R⟩,r⟩
   ·exact J d z u _
  ·by_cases u:g.1=f.1
   ·have a1:g=f:=by
     rcases aW.1 y with h|⟨_,h⟩
     ·exact h
     ·exact absurd u h
    rw[a1]at h ⊢;obtain⟨d,z,e⟩:=h3 g0 M (by rw[s3];exact h);exact⟨d,z,by rw[e,s1]⟩
   ·exact I g y u h
 |false =>
  by_cases H:f.2.2.1=2
  ·have e:cD (aZ n) (aa.doubts n) f b=bD (λd=>d.1) (mkD (aZ n) f b) (aa.doubts n):=by unfold cD;rw[if_pos H]
   simp only[cond_false];rw[e];refine⟨λd z=>?_,fE Z,λg y h=>?_⟩
   ·rcases aW.1 z with rfl|⟨z,u⟩
    ·exact⟨⟨f,aW.2 (.inl rfl),rfl,H,rfl⟩,⟨hn,Cr _⟩,List.cons_ne_nil _ _,λx hx=>by rw[Ca.1 hx];exact hb,DO _ _⟩
    ·exact J d z u _
   ·by_cases u:g.1=f.1
    ·exact⟨mkD (aZ n) f b,aW.2 (.inl rfl),u.symm⟩
    ·obtain⟨d,z,e⟩:=I g y u h;exact⟨d,aW.2 (.inr ⟨z,λe'=>u (e.symm.trans e')⟩),e⟩
  ·have e:cD (aZ n) (aa.doubts n) f b=(aa.doubts n).filter (λd=>!(d.1==f.1)):=by unfold cD;rw[if_neg H]
   simp only[cond_false];rw[e];refine⟨λd z=>?_,mq Z _,λg y h=>?_⟩
   ·obtain⟨z,u⟩:=CA.1 z;exact J d z (by simpa using u) _
   ·have u:g.1≠f.1:=λu=>by
     rcases aW.1 y with h'|⟨_,h'⟩
     ·rw[h']at h;exact H h
     ·exact h' u
    obtain⟨d,z,e⟩:=I g y u h;exact⟨d,CA.2 ⟨z,by rw[e];simpa using u⟩,e⟩
theorem wk {n:aa}{f:af}(Y:aw (aa.table n))(R:c5 (aa.cast n))(O:im (aa.table n) (aa.cast n))(M:bu f)(X:∀ g∈aa.table n,g.1=f.1->bM f g) :
  im (bD (λg=>g.1) f (aa.table n)) (dB (aa.cast n) f):=by
 have H:∀ x∈aa.cast n,∃ g∈bD (λg:af=>g.1) f (aa.table n),g.1=x.1.1/\¬ bM x.1 g:=λx r=>by
  obtain⟨g,J,e,I⟩:=O x r;by_cases u:g.1=f.1
  ·refine⟨f,aW.2 (.inl rfl),by rw[<- e,u],λh=>I ?_⟩;have z:=(R.1 x r).1;have y:=Y.1 g J;have:=X g J u;rw[qS M y]at this;rw[qS z M]at h;rw[qS z y];omega
  ·exact⟨g,aW.2 (.inr ⟨J,u⟩),e,I⟩
 intro x r;unfold dB at r;split at r
 ·exact H x r
 ·rcases aW.1 r with rfl|⟨r,_⟩
  ·exact⟨f,aW.2 (.inl rfl),rfl,xM f⟩
  ·exact H x r
structure UpX (n:aa):Prop where
 me:InP n.1 0 7
 now0:0<=aZ n
 table:aw (aa.table n)
 site:bV (aa.table n) (aj n.1)
 cast:c5 (aa.cast n)
 vs:im (aa.table n) (aa.cast n)
 probe:da n
 doubts:iU n
 coord:cN (aa.coord n)
 places:eK n.1 (aa.places n)
 others:dk n.1 (aa.others n)
theorem UpX.of {n:aa}(h:UpP n)(R:InP n.1 0 7)(M:0<=aZ n):UpX n:=by
 obtain⟨z,H,_,⟨X,I⟩,J,O,y,u,r⟩:=h;exact⟨R,M,z,H,X,I,J,O,y,u,r⟩
theorem UpX.up {n:aa}(h:UpX n)(r:cV n):UpP n:=⟨h.table,h.site,r,⟨h.cast,h.vs⟩,h.probe,h.doubts,h.coord,h.places,h.others⟩
theorem UpX.say {n:aa}(h:UpX n):cf n:=by
 refine cf.mk' h.table h.cast h.doubts.2.1 λd u=>?_
 obtain⟨f,r,e,_⟩:=(h.doubts.1 d u).1;rw[<- e];exact (h.table.1 f r).1
theorem fA.me {n:aa}(h:InP n.1 0 7):fA n n.1:=⟨h,rfl⟩
theorem rJ {n m:aa}(h:da n)(z:m.1=n.1)(hp:aa.probe m=aa.probe n)(ht:∀ g∈aa.table n,∃ y∈aa.table m,y.1=g.1)(O:aZ n<=aZ m)(hs:n.2.2.2.2.2.2.1<=m.2.2.2.2.2.2.1):da m:=by
 unfold da at h ⊢;rw[hp,z];split at h
 ·rename_i u;rw[if_pos u];exact h
 ·rename_i u;rw[if_neg u];obtain⟨J,⟨g,R,Z⟩,⟨H,M⟩,⟨Y,I⟩⟩:=h;obtain⟨y,r,X⟩:=ht g R;exact⟨J,⟨y,r,X.trans Z⟩,⟨H,DF M O⟩,⟨Y,DF I hs⟩⟩
theorem UpX.said {n:aa}{f:af}{b:Int}(h:UpX n)(u:bu f)(z:aj f.1=aj n.1)(H:fA n b):UpX (sayOf n f b):=by
 rcases jJ h.table.2 f b with e|⟨e,I⟩
 ·rw[e];exact h
 ·have y:=λg r=>iY (n:=n) (f:=f) (b:=b) (g:=g) r
  rw[e]at y ⊢;refine⟨h.me,h.now0,⟨λg r=>?_,fE h.table.2⟩,λg r=>?_,pZ h.cast u,wk h.table h.cast h.vs u I,rJ h.probe rfl rfl y (Cr _) (Cr _),wj h.table h.doubts u H h.now0 _,h.coord,h.places,h.others⟩
  ·rcases aW.1 r with rfl|⟨r,_⟩
   ·exact u
   ·exact h.table.1 g r
  ·rcases aW.1 r with rfl|⟨r,_⟩
   ·exact z
   ·exact h.site g r
theorem rK {n:aa}(u:Asc (λg:af=>g.1) (aa.table n)){f g:af}{b:Int}(r:g.1≠f.1):g∈aa.table (sayOf n f b)<->g∈aa.table n:=by
 rcases jJ u f b with e|⟨e,_⟩
 ·rw[e]
 ·rw[e];exact aW.trans ⟨λh=>h.elim (λh=>absurd (by rw[h]) r) (·.1),λh=>.inr ⟨h,r⟩⟩
theorem nj {n:aa}(u:Asc (λg:af=>g.1) (aa.table n)){f:af}{b:Int}(h:∀ g∈aa.table n,g.1=f.1->bM f g):f∈aa.table (sayOf n f b):=by
 have H:bY (aa.table n) f=(bD (λg=>g.1) f (aa.table n),true):=by
  rcases oG u f with e|⟨e,_⟩
  ·by_cases y:∃ g∈aa.table n,g.1=f.1
   ·obtain⟨g,r,z⟩:=y;obtain⟨i,I,rfl⟩:=CC r;rw[kK u I z,if_pos (h _ r z)]
   ·exact iG λg r e=>y ⟨g,r,e⟩
  ·exact e
 unfold Go.Proofs.YtadlacffdemoiaaGreatEv.sayOf;rw[H];exact aW.2 (.inl rfl)
def OnN (n m:aa):Prop:=∃ t c r,m=gl n t c r
theorem OnN.refl (n:aa):OnN n n:=⟨_,_,_,rfl⟩
theorem OnN.say {n m:aa}(h:OnN n m)(f:af)(b:Int):OnN n (Go.Proofs.YtadlacffdemoiaaGreatEv.sayOf m f b):=by
 obtain⟨t,c,u,rfl⟩:=h;obtain⟨z,y,r,e,_⟩:=iX (gl n t c u) f b;exact⟨z,y,r,e⟩
def mw (n:aa):af:=(n.1,n.2.2.2.2.1,(if n.2.2.1=true then 4 else 1),n.2.2.2.1)
theorem my {n m:aa}(I:Asc (λg:af=>g.1) (aa.table m))(y:OnN n m){f:af}{b:Int}(r:f.1≠n.1)(h:cV m):cV (sayOf m f b):=by
 obtain⟨t,c,M,e⟩:=y.say f b;obtain⟨O,R,H,J⟩:=y;have z:mw n∈aa.table m:=by rw[J]at h ⊢;exact h
 have u:=(rK I (f:=f) (b:=b) (g:=mw n) (λh=>r h.symm)).2 z;rw[e]at u ⊢;exact u
theorem pm {n:aa}(h:UpX n)(y:cV n){d:bt}(H:d∈aa.doubts n):d.1≠n.1:=by
 obtain⟨⟨g,I,e,r,_⟩,_⟩:=h.doubts.1 d H;intro u;have z:mw n∈aa.table n:=y;have:=fD h.table.2 I z (by rw[e,u];rfl);rw[this]at r;revert r;show (if n.2.2.1=true then (4:Int) else 1)=2->False;split <;> omega
theorem k8 {n:aa}(h:UpX n)(hs:cV n):UpX (dO n)/\cV (dO n)/\OnN n (dO n):=by
 have:=jv (st:=cX) (Inv:=λm=>(UpX m/\cV m/\OnN n m)/\∀ g∈aa.table n,∃ R∈aa.table m,R.1=g.1) (ds:=aa.doubts n) (n:=n) ⟨⟨h,hs,OnN.refl n⟩,λg y=>⟨g,y,rfl⟩⟩ ?_
 ·exact this.1
 ·rintro m d Z ⟨⟨r,u,I⟩,M⟩;have Y:=pm h hs Z;unfold cX;cases ii m.2.2.2.2.2.1 d.2.2.1 d.2.2.2.length with
  |false=>exact⟨⟨r,u,I⟩,M⟩
  |true =>
   obtain⟨⟨g,y,e,_⟩,_⟩:=h.doubts.1 d Z;obtain⟨R,z,e'⟩:=M g y;obtain⟨h1,h2,h3⟩:=cC r.table ⟨R,z,e'.trans e⟩;have J:aj (fu (aB (aa.table m) d.1)).1=aj m.1:=by
    show aj (aB (aa.table m) d.1).1=aj m.1;exact r.site _ h3
   have O:(fu (aB (aa.table m) d.1)).1≠n.1:=by rw[show (fu (aB (aa.table m) d.1)).1=_ from h2];exact Y
   refine⟨⟨r.said (lV h1) J (fA.me r.me),my r.table.2 I O u,I.say _ _⟩,λg y=>?_⟩;obtain⟨g1,X,e1⟩:=M g y;obtain⟨g2,H,e2⟩:=iY (f:=fu (aB (aa.table m) d.1)) (b:=m.1) X;exact⟨g2,H,e2.trans e1⟩
theorem UpX.setProbe {n:aa}(h:UpX n){p:af}(r:da (setP n p)):UpX (setP n p):=⟨h.me,h.now0,h.table,h.site,h.cast,h.vs,r,h.doubts,h.coord,h.places,h.others⟩
theorem xQ (n:aa):da (setP n noP):=by
 unfold da;exact (if_pos rfl).mpr rfl
theorem xR {n:aa}(h:UpX n)(z:cV n):UpX (bd n).1/\cV (bd n).1/\∃ p,OnN (setP n p) (bd n).1:=by
 have r:UpX n/\cV n/\∃ p,OnN (setP n p) n:=⟨h,z,aa.probe n,OnN.refl n⟩;have y:UpX (setP n noP):=h.setProbe (xQ n);unfold bd;cases X:(aa.probe n).1==-1 with
 |true=>exact r
 |false =>
  have H:(aa.probe n).1≠-1:=by simpa using X
  have u:=h.probe;unfold da at u;rw[if_neg H]at u;simp only[cond_false];cases O:cW (aB (aa.table n) (aa.probe n).1) with
  |false=>exact⟨y,z,_,OnN.refl _⟩
  |true =>
   obtain⟨J,M,R⟩:=cC h.table (eE O);simp only[CB,cond_false];cases decide (n.2.2.2.2.2.1-(aa.probe n).2.1>=4) with
   |true =>
    simp only[cond_true];cases (aB (aa.table n) (aa.probe n).1).2.2.1==1 with
    |true =>
     have I:aj (mr (aB (aa.table n) (aa.probe n).1)).1=aj (setP n noP).1:=by
      show aj (aB (aa.table n) (aa.probe n).1).1=aj n.1;exact h.site _ R
     refine⟨y.said (qO J) I (fA.me (n:=setP n noP) h.me),my (n:=setP n noP) (m:=setP n noP) h.table.2 (OnN.refl (setP n noP)) ?_ z,noP,(OnN.refl (setP n noP)).say _ _⟩;rw[show (mr (aB (aa.table n) (aa.probe n).1)).1=_ from M];exact u.1
    |false=>exact⟨y,z,_,OnN.refl _⟩
   |false =>
    simp only[cond_false];cases decide (n.2.2.2.2.2.1-(aa.probe n).2.1>=2) with
    |false=>exact r
    |true =>
     simp only[cond_true];cases (aa.probe n).2.2.2 with
     |true=>exact r
     |false =>
      refine⟨h.setProbe ?_,z,_,OnN.refl _⟩;show da (jX n);unfold da;rw[if_neg (show ¬ (aa.probe (jX n)).1=-1 from H)];exact u
def ir (n:aa):Option Int:=((List.range 8).map (bk n)).find? λx=>x != n.1&&cW (aB (aa.table n) x)
def jy (n:aa):Int:=n.2.2.2.2.2.2.1
def d4 (n:aa):aa×List an:=bif decide (jy n>=999999) then (n,[]) else match ir n with
 |some to=>(qR n to,[sK n to])
 |none=>(n,[])
theorem rL {n:aa}{to:Int}(h:ir n=some to):to≠n.1/\cW (aB (aa.table n) to)=true:=by
 have:=DS h;simpa using this
theorem xS {l:List aM}{T:List Int}{x:aM}(h:x∈dK l T l.length):∃ y∈l,x.1=y.1:=by
 unfold dK at h;obtain⟨u,_⟩:=CA.1 h;obtain⟨i,r,rfl⟩:=CC u;rw[eS]at r;rw[fF l T r];refine⟨l[i],B5 r,?_⟩;unfold dZ;rw[cE r];cases decide ((i:Int)∈T) <;> rfl
theorem UpX.way {n:aa}(h:UpX n):UpX (gM n):=⟨h.me,h.now0,h.table,h.site,tG h.cast _,λx r=>by
 obtain⟨y,I,e⟩:=xS r;obtain⟨g,z,u,H⟩:=h.vs y I;exact⟨g,z,by rw[e,u],by rw[e];exact H⟩,h.probe,h.doubts,h.coord,h.places,h.others⟩
structure tH (n:aa):Prop where
 seq:InP (jy n) 0 999999
 turn:InP n.2.2.2.2.2.2.2.1 0 8
theorem Bx {n:aa}(h:UpX n)(u:cV n)(y:tH n):UpX (d4 n).1/\cV (d4 n).1/\tH (d4 n).1/\(d4 n).1.1=n.1/\aZ (d4 n).1=aZ n/\(d4 n).1.2.2.2.2.1=n.2.2.2.2.1:=by
 unfold d4;by_cases J:jy n>=999999
 ·rw[decide_eq_true J];exact⟨h,u,y,rfl,rfl,rfl⟩
 ·rw[decide_eq_false J];simp only[cond_false];cases M:ir n with
  |none=>exact⟨h,u,y,rfl,rfl,rfl⟩
  |some to =>
   obtain⟨z,R⟩:=rL M;obtain⟨X,I,O⟩:=cC h.table (eE R);obtain⟨⟨Y,Z⟩,_⟩:=y;have r:InP to 0 7:=I ▸ X.1;have H:=h.way;refine⟨⟨h.me,h.now0,h.table,h.site,H.cast,H.vs,?_,h.doubts,h.coord,h.places,h.others⟩,u,⟨⟨show 0<=jy n+1 by omega,show jy n+1<=999999 by omega⟩,show 0<=to+1 by have:=r.1;omega,show to+1<=8 by have:=r.2;omega⟩,rfl,rfl,rfl⟩;show da (qR n to);unfold da;rw[if_neg (show ¬ (aa.probe (qR n to)).1=-1 by have:=r.1;show ¬ to=-1;omega)];exact⟨z,⟨_,O,I⟩,⟨h.now0,Cr _⟩,show 1<=jy n+1 by omega,Cr _⟩
def db (n:aa):aa:=(n.1,n.2.1,n.2.2.1,n.2.2.2.1,n.2.2.2.2.1,n.2.2.2.2.2.1+1,n.2.2.2.2.2.2)
def d8 (m:aa):aa×List an:=bif (aa.probe m).1==-1 then d4 m else (m,[])
def fG (n:aa):aa×List an:=bd (dO (db n))
def hY (n:aa):aa:=(d8 (fG n).1).1
def oi (n:aa)(r:Int):List an:=(fG n).2++(d8 (fG n).1).2++ff (hY n) r
theorem UpX.later {n:aa}(h:UpX n):UpX (db n):=by
 have J:aZ (db n)=aZ n+1:=rfl;have M:=h.now0;refine⟨h.me,by omega,h.table,h.site,h.cast,h.vs,rJ h.probe rfl rfl (λg H=>⟨g,H,rfl⟩) (by omega) (Cr _),⟨λd z=>?_,h.doubts.2⟩,h.coord,h.places,h.others⟩;obtain⟨r,⟨u,y⟩,I⟩:=h.doubts.1 d z;exact⟨r,⟨u,DF y (show aZ n<=aZ (db n) by omega)⟩,I⟩
structure UpN (n:aa):Prop where
 x:UpX n
 self:cV n
 now1:aZ n<=999999
 seq:tH n
 inc:InP n.2.2.2.2.1 0 999
 up:n.2.1=true
theorem UpN.of {n:aa}(h:gu n)(y:n.2.1=true):UpN n:=by
 obtain⟨z,u,H,I,J,r⟩:=h;rw[if_pos y]at r;exact⟨UpX.of r z u.1,r.2.2.1,u.2,⟨H,I⟩,J,y⟩
theorem UpN.ok {n:aa}(h:UpN n):gu n:=⟨h.x.me,⟨h.x.now0,h.now1⟩,h.seq.seq,h.seq.turn,h.inc,by rw[if_pos h.up];exact h.x.up h.self⟩
theorem qa {n:aa}(h:UpN n)(Z:aZ n<999999):UpN (fG n).1/\(fG n).1.1=n.1/\(fG n).1.2.2.1=n.2.2.1:=by
 have J:cV (db n):=h.self;obtain⟨H,I,u⟩:=k8 h.x.later J;obtain⟨R,O,p,y⟩:=xR H I;obtain⟨t,c,X,z⟩:=u;obtain⟨Y,c',r,M⟩:=y;have e:(fG n).1=_:=M;rw[z]at e;refine⟨⟨R,O,?_,⟨?_,?_⟩,?_,?_⟩,?_,?_⟩
 ·show aZ (fG n).1<=999999;rw[e];show aZ n+1<=999999;omega
 ·show InP (jy (fG n).1) 0 999999;rw[e];exact h.seq.seq
 ·show InP (fG n).1.2.2.2.2.2.2.2.1 0 8;rw[e];exact h.seq.turn
 ·show InP (fG n).1.2.2.2.2.1 0 999;rw[e];exact h.inc
 ·show (fG n).1.2.1=true;rw[e];exact h.up
 ·rw[e];rfl
 ·rw[e];rfl
theorem tI {m:aa}:(d4 m).1.2.1=m.2.1/\(d4 m).1.2.2.1=m.2.2.1:=by
 unfold d4;cases decide (jy m>=999999) with
 |true=>exact⟨rfl,rfl⟩
 |false =>
  cases ir m with
  |none=>exact⟨rfl,rfl⟩
  |some to=>exact⟨rfl,rfl⟩
theorem wm {m:aa}(h:UpN m):UpN (d8 m).1/\(d8 m).1.1=m.1/\(d8 m).1.2.2.1=m.2.2.1:=by
 unfold d8;cases (aa.probe m).1==-1 with
 |false=>exact⟨h,rfl,rfl⟩
 |true =>
  obtain⟨u,y,r,H,I,z⟩:=Bx h.x h.self h.seq;refine⟨⟨u,y,?_,r,?_,?_⟩,H,tI.2⟩
  ·show aZ (d4 m).1<=999999;rw[I];exact h.now1
  ·show InP (d4 m).1.2.2.2.2.1 0 999;rw[z];exact h.inc
  ·show (d4 m).1.2.1=true;rw[tI.1];exact h.up
theorem oj {n:aa}(h:UpN n)(I:aZ n<999999):UpN (hY n)/\(hY n).1=n.1/\(hY n).2.2.1=n.2.2.1:=by
 obtain⟨u,r,y⟩:=qa h I;obtain⟨z,H,J⟩:=wm u;exact⟨z,H.trans r,J.trans y⟩
theorem zv {f g:af}(h:g.2.1<f.2.1):bM f g:=by
 unfold bM;rw[if_pos (by omega)];exact h
theorem AD {f g:af}(h:bM f g):g.2.1<=f.2.1:=by
 unfold bM at h;split at h <;> omega
theorem UpX.inc {n:aa}(h:UpX n)(i:Int):UpX (gK n i):=⟨h.me,h.now0,h.table,h.site,h.cast,h.vs,h.probe,h.doubts,h.coord,h.places,h.others⟩
theorem rM {n:aa}(h:UpX n)(r:cV n){g:af}(u:g∈aa.table n)(e:g.1=n.1):g=mw n:=fD h.table.2 u r (by rw[e];rfl)
theorem xT {n:aa}(h:UpX n)(r:cV n):aB (aa.table n) n.1=mw n:=jU h.table.2 (f:=mw n) r
theorem zw {n:aa}(h:UpN n)(H:n.2.2.1=false):UpN (na n)/\(na n).1=n.1:=by
 have z:bu (n.1,n.2.2.2.2.1,4,n.2.2.2.1):=⟨h.x.me,h.inc,show (1:Int)<=4 by omega,show (4:Int)<=4 by omega⟩;have r:=h.x.said z rfl (fA.me h.x.me);have y:(n.1,n.2.2.2.2.1,(4:Int),n.2.2.2.1)∈aa.table (sayOf n (n.1,n.2.2.2.2.1,4,n.2.2.2.1) n.1):=nj h.x.table.2 λg u e=>by
  rw[rM h.x h.self u e];unfold bM mw;rw[H];simp
 obtain⟨t,c,I,e⟩:=(OnN.refl n).say (n.1,n.2.2.2.2.1,4,n.2.2.2.1) n.1;unfold na;rw[e]at r y ⊢;exact⟨⟨⟨r.me,r.now0,r.table,r.site,r.cast,r.vs,r.probe,r.doubts,r.coord,r.places,r.others⟩,y,h.now1,⟨h.seq.seq,h.seq.turn⟩,h.inc,h.up⟩,rfl⟩
theorem xU {n:aa}{f:af}(h:UpN n)(y:n.2.2.1=false)(M:bu f):UpN (eR n f)/\(eR n f).1=n.1/\(eR n f).2.2.1=false:=by
 unfold eR;cases I:decide (bM f (aB (aa.table n) n.1))&&decide (f.2.1<999) with
 |false=>exact⟨h,rfl,y⟩
 |true =>
  rw[DA,decide_eq_true_eq,decide_eq_true_eq,xT h.x h.self]at I;obtain⟨O,R⟩:=I;have X:n.2.2.2.2.1<=f.2.1:=AD O;have r:=qP (n:=n) h.x.me M R;have z:UpX (sayOf (gK n (f.2.1+1)) (n.1,f.2.1+1,1,n.2.2.2.1) n.1):=(h.x.inc (f.2.1+1)).said r rfl (fA.me (n:=gK n (f.2.1+1)) h.x.me);have H:(n.1,f.2.1+1,(1:Int),n.2.2.2.1)∈aa.table (sayOf (gK n (f.2.1+1)) (n.1,f.2.1+1,1,n.2.2.2.1) n.1):=nj (n:=gK n (f.2.1+1)) h.x.table.2 λg u e=>by
   rw[rM h.x h.self u e];exact zv (show n.2.2.2.2.1<f.2.1+1 by omega)
  obtain⟨t,c,J,e⟩:=(OnN.refl (gK n (f.2.1+1))).say (n.1,f.2.1+1,1,n.2.2.2.1) n.1;simp only[cond_true];rw[show sayOf (gK n (f.2.1+1)) (n.1,f.2.1+1,1,n.2.2.2.1) n.1=gl (gK n (f.2.1+1)) t c J from e]at z H ⊢;refine⟨⟨z,?_,h.now1,⟨h.seq.seq,h.seq.turn⟩,r.2.1,h.up⟩,rfl,y⟩;show (n.1,f.2.1+1,(if n.2.2.1=true then (4:Int) else 1),n.2.2.2.1)∈_;rw[y];exact H
theorem nk (f:af)(b:Int)(d:bt):(dX f b d).1=d.1/\(dX f b d).2.1=d.2.1/\(dX f b d).2.2.1=d.2.2.1:=by
 unfold dX;cases d.1==f.1&&d.2.1==f.2.1&&f.2.2.1==2 <;> exact⟨rfl,rfl,rfl⟩
theorem UpX.conf {n:aa}(h:UpX n)(f:af){b:Int}(H:fA n b):UpX (jY n f b):=by
 refine⟨h.me,h.now0,h.table,h.site,h.cast,h.vs,h.probe,⟨λd Z=>?_,?_,?_⟩,h.coord,h.places,h.others⟩
 ·obtain⟨r,u,rfl⟩:=CM.1 Z;obtain⟨k1,M,X⟩:=nk f b r;obtain⟨⟨g,R,I,e2,O⟩,J,Y,z⟩:=h.doubts.1 r u;refine⟨⟨g,R,by rw[k1];exact I,e2,by rw[M];exact O⟩,by rw[X];exact J,?_⟩;unfold dX;cases r.1==f.1&&r.2.1==f.2.1&&f.2.2.1==2 with
  |false=>exact⟨Y,z⟩
  |true =>
   refine⟨List.ne_nil_of_mem (aW.2 (.inl rfl)),λx y=>?_,fE z.2⟩;rcases aW.1 y with rfl|⟨y,_⟩
   ·exact H
   ·exact z.1 x y
 ·show Asc _ ((aa.doubts n).map (dX f b));unfold Asc;rw[CT];exact h.doubts.2.1.imp λ {a c} h=>by show (dX f b a).1<(dX f b c).1;rw[(nk f b a).1,(nk f b c).1];exact h
 ·show _=((aa.doubts n).map (dX f b)).length;rw[CG];exact h.doubts.2.2
theorem tJ {n:aa}{f:af}{b:Int}(h:UpN n)(I:n.2.2.1=false)(H:bu f)(J:aj f.1=aj n.1)(z:fA n b):UpN (c6 b n f)/\(c6 b n f).1=n.1/\(c6 b n f).2.2.1=false:=by
 unfold c6;by_cases r:f.1=n.1
 ·rw[show (f.1==n.1)=true by simpa using r];exact xU h I H
 ·rw[show (f.1==n.1)=false by simpa using r];have y:=h.x.said H J z;have u:=my h.x.table.2 (OnN.refl n) (b:=b) r h.self;obtain⟨t,c,M,e⟩:=(OnN.refl n).say f b;simp only[cond_false];rw[show sayOf n f b=gl n t c M from e]at y u ⊢;exact⟨⟨y.conf f z,u,h.now1,⟨h.seq.seq,h.seq.turn⟩,h.inc,h.up⟩,rfl,I⟩
theorem kN {n:aa}{t:List af}{b:Int}(h:UpN n)(J:n.2.2.1=false)(M:aw t)(z:bV t (aj n.1))(u:fA n b):UpN (dC n t b)/\(dC n t b).1=n.1/\(dC n t b).2.2.1=false:=by
 refine jv (st:=c6 b) (Inv:=λm=>UpN m/\m.1=n.1/\m.2.2.1=false) (ds:=t) (n:=n) ⟨h,rfl,J⟩ λm f y ⟨H,r,I⟩=>?_
 have:=tJ (b:=b) H I (M.1 f y) (by rw[r];exact z f y) ⟨u.1,by rw[r];exact u.2⟩;exact⟨this.1,this.2.1.trans r,this.2.2⟩
theorem UpN.learns {n:aa}(h:UpN n):dD n:=⟨h.x.say,h.x.me,⟨_,h.self,rfl⟩,λd y=>by
 obtain⟨_,_,_,r⟩:=h.x.doubts.1 d y;exact⟨r.2,λx u=>(r.1 x u).1⟩⟩
def nl (n:aa)(o:List ce):aa:=(n.1,n.2.1,n.2.2.1,n.2.2.2.1,n.2.2.2.2.1,n.2.2.2.2.2.1,n.2.2.2.2.2.2.1,n.2.2.2.2.2.2.2.1,n.2.2.2.2.2.2.2.2.1,n.2.2.2.2.2.2.2.2.2.1,n.2.2.2.2.2.2.2.2.2.2.1,n.2.2.2.2.2.2.2.2.2.2.2.1,n.2.2.2.2.2.2.2.2.2.2.2.2.1,n.2.2.2.2.2.2.2.2.2.2.2.2.2.1,o)
theorem UpN.setOthers {n:aa}(h:UpN n){o:List ce}(r:dk n.1 o):UpN (nl n o):=⟨⟨h.x.me,h.x.now0,h.x.table,h.x.site,h.x.cast,h.x.vs,h.x.probe,h.x.doubts,h.x.coord,h.x.places,r⟩,h.self,h.now1,⟨h.seq.seq,h.seq.turn⟩,h.inc,h.up⟩
theorem wn {z s:Int}{r:List af}{o:List ce}(I:dk z o)(J:InP s 0 1)(H:s≠aj z)(M:r≠[])(O:aw r)(y:bV r s):dk z (bD (λx:ce=>x.1) (s,r) o) :=
 ⟨λx u=>by
  rcases aW.1 u with rfl|⟨u,_⟩
  ·exact⟨J,H,M,O,y⟩
  ·exact I.1 x u,fE I.2⟩
def is (l:List Int)(t:Int):List Int:=(l++[t]).drop ((l++[t]).length-3)
def dR (l:List dV)(r:Int):List Int:=((l.find? λp=>p.1==r).map (·.2.2)).getD []
def pn (l:List dV)(r:Int)(c:dJ)(t:Int):List dV:=bD (λp=>p.1) (r,c,is (dR l r) t) l
def qb (n:aa)(c:dJ)(p:List dV):aa:=(n.1,n.2.1,n.2.2.1,n.2.2.2.1,n.2.2.2.2.1,n.2.2.2.2.2.1,n.2.2.2.2.2.2.1,n.2.2.2.2.2.2.2.1,n.2.2.2.2.2.2.2.2.1,n.2.2.2.2.2.2.2.2.2.1,noP,n.2.2.2.2.2.2.2.2.2.2.2.1,c,p,n.2.2.2.2.2.2.2.2.2.2.2.2.2.2)
theorem uM {l:List dV}{r:Int}{t:Int}(h:t∈dR l r):∃ p∈l,t∈p.2.2:=by
 unfold dR at h;cases u:l.find? λp=>p.1==r with
 |none=>rw[u]at h;simp at h
 |some p =>
  rw[u]at h;exact⟨p,C0 u,h⟩
theorem xV {l:List Int}{t:Int}(u:∀ x∈l,InP x 1 60000)(y:InP t 1 60000):InP ((is l t).length:Int) 1 3/\∀ x∈is l t,InP x 1 60000:=by
 unfold is;constructor
 ·simp only[Cp,CK,B9,CE];constructor <;> omega
 ·intro x r;have:=List.mem_of_mem_drop r;rcases Cj.1 this with h|h
  ·exact u x h
  ·rw[Ca.1 h];exact y
theorem wo {y r:Int}{l:List dV}{c:dJ}{t:Int}(h:eK y l)(M:InP r 0 7)(I:aj r=aj y)(J:r≠y)(O:cN c)(R:InP t 1 60000):eK y (pn l r c t):=by
 have H:=xV (l:=dR l r) (t:=t) (λx z=>by
  obtain⟨p,u,z⟩:=uM z;exact (h.1 p u).2.2.2.2.2 x z) R
 exact⟨λp u=>by
  rcases aW.1 u with rfl|⟨u,_⟩
  ·exact⟨M,I,J,O,H.1,H.2⟩
  ·exact h.1 p u,fE h.2⟩
theorem UpN.heard {n:aa}(h:UpN n){c:dJ}{p:List dV}(r:cN c)(u:eK n.1 p):UpN (qb n c p):=⟨⟨h.x.me,h.x.now0,h.x.table,h.x.site,h.x.cast,h.x.vs,xQ n,h.x.doubts,r,u,h.x.others⟩,h.self,h.now1,⟨h.seq.seq,h.seq.turn⟩,h.inc,h.up⟩
theorem UpN.way {n:aa}(h:UpN n):UpN (gM n):=⟨h.x.way,h.self,h.now1,⟨h.seq.seq,h.seq.turn⟩,h.inc,h.up⟩
def Tot {α:Type}(o:Option α)(P:α->Prop):Prop:=∃ v,o=some v/\P v
section
variable {α β:Type} {P:α->Prop} {Q:β->Prop}
theorem Tot.ret {v:α}(h:P v):Tot (some v) P:=⟨v,rfl,h⟩
theorem Tot.mono {o:Option α}{r:α->Prop}(h:Tot o P)(k:∀ v,P v->r v):Tot o r:=by obtain⟨v,e,u⟩:=h;exact⟨v,e,k v u⟩
theorem Tot.bind {o:Option α}{g:α->Option β}(h:Tot o P)(k:∀ v,P v->Tot (g v) Q):Tot (o.bind g) Q:=by obtain⟨v,e,r⟩:=h;rw[e];exact k v r
theorem Tot.vl {o:Option α}{v:α}{g:α->Option β}(e:o=some v)(k:Tot (g v) Q):Tot (o.bind g) Q:=by rw[e];exact k
theorem Tot.cnd {b:Bool}{x y:Option α}(u:b=true->Tot x P)(r:b=false->Tot y P):Tot (bif b then x else y) P:=by
 cases b
 ·exact r rfl
 ·exact u rfl
theorem Tot.must {b:Bool}{x y:Option α}(r:b=true)(h:Tot x P):Tot (bif b then x else y) P:=by rw[r];exact h
theorem Tot.not {b:Bool}{x y:Option α}(r:b=false)(h:Tot x P):Tot (bif b then y else x) P:=by rw[r];exact h
theorem Tot.ix {xs:List α}{i:Int}{g:α->Option β}(u:0<=i)(z:i<xs.length)(k:∀ y∈xs,idx xs i=some y->Tot (g y) Q):Tot ((idx xs i).bind g) Q:=by
 obtain⟨n,rfl⟩:=B8 u;have r:n<xs.length:=by omega
 have:=ag r;rw[this];exact k _ (B5 r) this
theorem Tot.iter {A:Type}{step:(A->Option β)->A->Option β}(Inv:A->Prop)(m:A->Nat)(h:∀ (rec:A->Option β) (a:A),Inv a->(∀ r,Inv r->m r<m a->Tot (rec r) Q)->Tot (step rec a) Q):∀ (k:Nat) (a:A),m a<k->Inv a->Tot (ae step k a) Q:=by
 intro k;induction k with
 |zero=>intro a z;omega
 |succ k H =>
  intro a z I;exact h (ae step k) a I λr u y=>H r (by omega) u
end
theorem Ret.tot {o:Option RB}{P:Prop}(h:Ret o P):Tot o λv=>(v.1.1=true<->P):=by
 obtain⟨b,e,r⟩:=h;exact⟨_,e,r⟩
section
variable {α β:Type} {Q:β->Prop}
theorem Tot.cat {x y:ByteArray}{k:ByteArray->Option β}{a b:Nat}(r:x.size<=a)(H:y.size<=b)(h:∀ z:ByteArray,z.size<=a+b->Tot (k z) Q)(u:a+b<=4611686018427387904:=by omega):Tot (aV x y k) Q:=by
 unfold aV;rw[decide_eq_true (by omega)];exact h _ (by rw[ByteArray.size_append];omega)
theorem Tot.fit {a b c:Nat}{x y:Option β}(h:Tot x Q)(u:c<=1000:=by omega)(r:a+b<=2097152:=by omega):Tot (bif decide ((a+b)*c<=am) then x else y) Q:=by
 have:=C5 r u;rw[decide_eq_true (by unfold am;omega)];exact h
theorem Tot.ix2 {xs:List α}{i:Int}{g:α->Option β}(r:0<=i)(u:i<xs.length)(k:∀ y∈xs,idx xs i=some y->Tot (g y) Q):Tot ((idx xs i).bind λ_=>(idx xs ((B6 i:Nat):Int)).bind g) Q :=
 Tot.ix r u λy z e=>by rw[Int.toNat_of_nonneg r,e];exact k y z e
end
theorem fZ (s:ByteArray):s.data.toList.length=s.size:=Array.length_toList
theorem jj (xs:List Int):(gY xs).size=xs.length:=by
 unfold gY;show (List.toArray _).size=_;rw[List.size_toArray,CG]
theorem rN (s:ByteArray):(eJ s).length=s.size:=by
 unfold eJ;rw[CG];exact fZ s
theorem dec_t:∀ (d k:Nat) (n:Int),0<=n->n<10 ^ (d+1)->n<=1000000000->d<=100->d<k->Tot (Q10.f k (n,())) λr=>r.1.1.size<=d+1:=by
 intro d;induction d with
 |zero =>
  intro k n H u I M J;obtain⟨k,rfl⟩:∃ m,k=m+1:=⟨k-1,by omega⟩;show Tot (Q10.step (Q10.f k) (n,())) _;simp only[Q10.step];refine Tot.not (decide_eq_false (show ¬ n< -9223372036854775807 by omega)) (Tot.not (decide_eq_false (show ¬ n<0 by omega)) (Tot.must (decide_eq_true (show n<10 by exact u)) (Tot.ret ?_)));show (gY _).size<=1;rw[jj];exact CH _
 |succ d O =>
  intro k n H u I M J;obtain⟨k,rfl⟩:∃ m,k=m+1:=⟨k-1,by omega⟩;show Tot (Q10.step (Q10.f k) (n,())) _;simp only[Q10.step];refine Tot.not (decide_eq_false (show ¬ n< -9223372036854775807 by omega)) (Tot.not (decide_eq_false (show ¬ n<0 by omega)) (Tot.cnd (λ_=>Tot.ret ?_) λh=>?_))
  ·show (gY _).size<=_;rw[jj];exact Nat.succ_le_succ (CS _)
  ·have h:¬ n<10:=of_decide_eq_false h;have e:DD n 10=n / 10:=by rw[Ch H]
   have y:(10:Int) ^ (d+1+1)=10 ^ (d+1)*10:=Int.pow_succ ..;have Y:n / 10<10 ^ (d+1):=Int.ediv_lt_of_lt_mul (by omega) (by rw[<- y];exact u);rw[e,aA (by omega) (by omega)];refine Tot.bind (O k (n / 10) (by omega) Y (by omega) (by omega) (by omega)) λv X=>Tot.cat X (b:=1) (by rw[jj];exact CH _) (λz R=>Tot.ret R) (by omega)
theorem ly (K:Nat)(n:Int)(u:0<=n)(y:n<=999999)(z:1048577<K):Tot (Q10.f K (n,())) λr=>r.1.1.size<=6 :=
 dec_t 5 K n u (by show n<1000000;omega) (by omega) (by omega) (by omega)
theorem tK (K:Nat)(i:Int)(y:0<=i)(u:i<=4):Tot (Q172.f K (i,())) λr=>r.1.1.size<=7:=by
 have:i=0\/i=1\/i=2\/i=3\/i=4:=by omega
 rcases this with rfl|rfl|rfl|rfl|rfl <;> exact⟨_,rfl,by decide⟩
theorem tL (K:Nat)(i:Int)(y:0<=i)(u:i<=6):Tot (Q169.f K (i,())) λr=>r.1.1.size<=4:=by
 have:i=0\/i=1\/i=2\/i=3\/i=4\/i=5\/i=6:=by omega
 rcases this with rfl|rfl|rfl|rfl|rfl|rfl|rfl <;> exact⟨_,rfl,by decide⟩
theorem zx (K:Nat)(t:List af)(X:aw t)(hK:1048577<K):Tot (Q175.f K (t,())) λr=>r.1.1.size<=240:=by
 have hl:=jh X.2 (λg hg=>(X.1 g hg).1);refine Tot.iter (step:=λrec a=>Q175.s0 K (t,()) rec a) (λa=>0<=a.2/\a.2<=t.length/\(a.1.size:Int)<=30*a.2) (λa=>t.length-a.2.toNat) ?_ K _ (by show t.length-B6 0<K;omega) ⟨by show (0:Int)<=0;omega,by show (0:Int)<=_;omega,by show (0:Int)<=30*0;omega⟩;rintro rec ⟨s,i⟩ ⟨h0,h1,h2⟩ ih;simp only at h0 h1 h2 ih ⊢;simp only[Q175.s0];refine Tot.cnd (λh=>?_) λh=>?_
 ·have h:=of_decide_eq_true h;obtain⟨n,rfl⟩:=B8 h0;have hn:n<t.length:=by omega
  obtain⟨⟨f1,f2⟩,⟨f3,f4⟩,f5,f6⟩:=X.1 t[n] (B5 hn);rw[ag hn,ar n (by omega)];simp only[B3];have go:∀ z:ByteArray,z.size<=s.size+29->Tot (rec (z,((n+1:Nat):Int))) λr=>r.1.1.size<=240:=λz hz=>ih _ ⟨by show (0:Int)<=((n+1:Nat):Int);omega,by show ((n+1:Nat):Int)<=_;omega,by show (z.size:Int)<=30*((n+1:Nat):Int);omega⟩ (by show t.length-B6 ((n+1:Nat):Int)<t.length-B6 (n:Int);omega)
  have body:∀ O:ByteArray,O.size<=s.size+1->Tot ((Q10.f K (t[n].1,())).bind λy3=>aV O y3.1.1 λy4=>aV y4 (ByteArray.mk #[58]) λy5=>(Q10.f K (t[n].2.1,())).bind λy7=>aV y5 y7.1.1 λy8=>aV y8 (ByteArray.mk #[58]) λy9=>(Q172.f K (t[n].2.2.1,())).bind λY=>aV y9 Y.1.1 λu=>bif t[n].2.2.2 then (aV u (ByteArray.mk #[42]) λy=>rec (y,((n+1:Nat):Int))) else (rec (u,((n+1:Nat):Int)))) λr=>r.1.1.size<=240:=λO M =>
   Tot.bind (ly K _ f1 (by omega) hK) λv1 s1=>Tot.cat M s1 λz1 H=>Tot.cat H (b:=1) (by decide) λz2 R =>
   Tot.bind (ly K _ f3 (by omega) hK) λv2 s2=>Tot.cat R s2 λz3 I=>Tot.cat I (b:=1) (by decide) λz4 Z =>
   Tot.bind (tK K _ (by omega) f6) λv3 s3=>Tot.cat Z s3 λz5 J =>
   Tot.cnd (λ_=>Tot.cat J (b:=1) (by decide) λz6 a0=>go z6 (by omega)) λ_=>go z5 (by omega)
  exact Tot.cnd (λ_=>Tot.cat (CH _) (b:=1) (by decide) λz hz=>body z hz) λ_=>body s (by omega)
 ·have h:=of_decide_eq_false h;exact Tot.ret (by show s.size<=240;omega)
theorem oI (K:Nat)(t:List af)(H:t.length<=1048576)(u:1048577<K):Tot (Q176.f K (t,())) λr=>r.1.1.size<=240:=by
 simp only[Q176.f];refine Tot.bind (gF K t H u).tot λv y=>Tot.cnd (λ_=>Tot.ret (by show (0:Nat)<=240;omega)) λh=>?_
 have z:=y.1 (by simpa using h);exact Tot.cnd (λ_=>Tot.ret (by show (1:Nat)<=240;omega)) λ_=>Tot.bind (zx K t z u) λv h=>Tot.ret h
theorem qc (K:Nat)(n:Int)(I:-999999<=n)(H:n<=999999)(y:1048577<K):Tot (Q178.f K (n,())) λr=>r.1.1.size<=7:=by
 simp only[Q178.f];refine Tot.cnd (λh=>?_) λh=>?_
 ·have h:n<0:=of_decide_eq_true h;rw[aA (by omega) (by omega)];exact Tot.bind (ly K _ (by omega) (by omega) y) λv s=>Tot.cat (a:=1) (by decide) s λz u=>Tot.ret u
 ·have h:¬ n<0:=of_decide_eq_false h;exact Tot.bind (ly K _ (by omega) (by omega) y) λv s=>Tot.cat (a:=1) (by decide) s λz u=>Tot.ret u
theorem zy (K:Nat)(w:an)(R:ft w)(y:1048577<K):Tot (Q179.f K (w,())) λr=>r.1.1.size<=400:=by
 obtain⟨_,⟨a1,M⟩,⟨O,b2⟩,⟨J,Z⟩,⟨H,d2⟩,⟨z,e2⟩,⟨⟨x1,x2⟩,⟨y1,y2⟩,⟨I,z2⟩,⟨u1,u2⟩⟩,Y,_⟩:=R;have X:=bR Y;simp only[Q179.f];have u:(ByteArray.mk #[32]).size<=1:=by decide
 refine Tot.cnd (λ_=>?_) λ_=>?_ <;>
 exact Tot.cat (a:=3) (by decide) u λ_ h=>Tot.bind (tL K _ (by omega) M) λ_ s=>Tot.cat h s λ_ h=>Tot.cat h u λ_ h =>
  Tot.bind (ly K _ O (by omega) y) λ_ s=>Tot.cat h s λ_ h=>Tot.cat h u λ_ h =>
  Tot.bind (ly K _ J (by omega) y) λ_ s=>Tot.cat h s λ_ h=>Tot.cat h u λ_ h =>
  Tot.bind (ly K _ H (by omega) y) λ_ s=>Tot.cat h s λ_ h=>Tot.cat h u λ_ h =>
  Tot.bind (ly K _ z (by omega) y) λ_ s=>Tot.cat h s λ_ h=>Tot.cat h u λ_ h =>
  Tot.bind (qc K _ (by show -999999<=(an.coord w).1;omega) (by show (an.coord w).1<=999999;omega) y) λ_ s=>Tot.cat h s λ_ h=>Tot.cat h u λ_ h =>
  Tot.bind (qc K _ (by show -999999<=(an.coord w).2.1;omega) (by show (an.coord w).2.1<=999999;omega) y) λ_ s=>Tot.cat h s λ_ h=>Tot.cat h u λ_ h =>
  Tot.bind (ly K _ I (by show (an.coord w).2.2.1<=999999;omega) y) λ_ s=>Tot.cat h s λ_ h=>Tot.cat h u λ_ h =>
  Tot.bind (ly K _ (by show 0<=(an.coord w).2.2.2;omega) (by show (an.coord w).2.2.2<=999999;omega) y) λ_ s=>Tot.cat h s λ_ h=>Tot.cat h u λ_ h =>
  Tot.bind (oI K _ X y) λ_ s=>Tot.cat h s λ_ h=>Tot.ret (CL h (by decide))
theorem zz (K:Nat)(n:Int)(I:1048577<K):Tot (Q181.f K (n,())) λ_=>True:=by
 refine Tot.iter (step:=λrec a=>Q181.s0 K (n,()) rec a) (λa=>0<=a.2/\a.2<=8) (λa=>8-a.2.toNat) ?_ K _ (by show 8-B6 0<K;omega) ⟨by show (0:Int)<=0;omega,by show (0:Int)<=8;omega⟩;rintro rec ⟨s,i⟩ ⟨r,H⟩ y;simp only at r H y ⊢;simp only[Q181.s0];obtain⟨i,rfl⟩:=B8 r;refine Tot.cnd (λh=>?_) λ_=>Tot.ret trivial
 have h:=of_decide_eq_true h;rw[ar i (by omega)];have u:∀ z:Int,Tot (rec (z,((i+1:Nat):Int))) λ_=>True:=λz=>y _ ⟨by show (0:Int)<=((i+1:Nat):Int);omega,by show ((i+1:Nat):Int)<=8;omega⟩ (by show 8-B6 ((i+1:Nat):Int)<8-B6 (i:Int);omega)
 exact Tot.cnd (λ_=>u _) λ_=>u _
theorem AE (K:Nat)(s:ByteArray)(J:s.size<=1000000)(I:1048577<K):Tot (Q182.f K (s,())) λ_=>True:=by
 refine Tot.iter (step:=λrec a=>Q182.s0 K (s,()) rec a) (λa=>0<=a.2/\a.2<=s.size) (λa=>s.size-a.2.toNat) ?_ K _ (by show s.size-B6 0<K;omega) ⟨by show (0:Int)<=0;omega,by show (0:Int)<=_;omega⟩;rintro rec ⟨z,i⟩ ⟨r,H⟩ u;simp only at r H u ⊢;simp only[Q182.s0];obtain⟨i,rfl⟩:=B8 r;refine Tot.cnd (λh=>?_) λ_=>Tot.ret trivial
 have h:=of_decide_eq_true h;rw[ar i (by omega)];exact Tot.ix r (by rw[fZ];exact h) λy _ _=>Tot.bind (zz K _ I) λv _=>u _ ⟨by show (0:Int)<=((i+1:Nat):Int);omega,by show ((i+1:Nat):Int)<=_;omega⟩ (by show s.size-B6 ((i+1:Nat):Int)<s.size-B6 (i:Int);omega)
theorem hex_t (K:Nat)(n:Int)(R:1048577<K):Tot (Q180.f K (n,())) λr=>r.1.1.size<=8:=by
 refine Tot.iter (step:=λrec a=>Q180.s0 K (n,()) rec a) (λa=>-1<=a.2/\a.2<=7/\a.1.length=7-a.2) (λa=>(a.2+1).toNat) ?_ K _ (by show B6 8<K;omega) ⟨by show (-1:Int)<=7;omega,by show (7:Int)<=7;omega,by show (0:Int)=7-7;omega⟩;rintro rec ⟨z,i⟩ ⟨M,H,I⟩ u;simp only at M H I u ⊢;simp only[Q180.s0];refine Tot.cnd (λh=>?_) λh=>?_
 ·have h:=of_decide_eq_true h;rw[aA (n:=4*i) (by omega) (by omega),aA (n:=i-1) (by omega) (by omega)];obtain⟨J,O⟩:=lX (a:=CQ n (2 ^ min (B6 (4*i)) 64)) (m:=15) (by omega);refine Tot.not (decide_eq_false (by omega)) (Tot.ix J (Int.lt_of_le_of_lt O (by decide)) λy _ _=>Tot.fit ?_ (by omega) (by simp only[B9,CE];omega));exact u _ ⟨by show -1<=i-1;omega,by show i-1<=7;omega,by show ((z++[_]).length:Int)=7-(i-1);rw[CK,Cw];omega⟩ (by show B6 (i-1+1)<B6 (i+1);omega)
 ·have h:=of_decide_eq_false h;refine Tot.ret ?_;show (gY z).size<=8;rw[jj];omega
theorem oJ (K:Nat)(w:an)(O:(an.table w).length<=1048576)(u:1048577<K):Tot (Q183.f K (w,())) λr=>r.1.1.size<=409/\(¬ ft w->r.1.1=ByteArray.mk #[]):=by
 simp only[Q183.f];refine Tot.bind (tp K w O u).tot λv I=>Tot.cnd (λ_=>Tot.ret ⟨by show (0:Nat)<=409;omega,λ_=>rfl⟩) λh=>?_
 have H:=I.1 (by simpa using h);exact Tot.bind (zy K w H u) λb M=>Tot.cat M (b:=1) (by decide) λz y=>Tot.bind (AE K _ (by omega) u) λs _=>Tot.bind (hex_t K _ u) λx J=>Tot.cat y J λz y=>Tot.ret ⟨y,λh=>absurd H h⟩
theorem wq (K:Nat)(s:ByteArray)(c:Int)(hs:s.size<=100000)(hK:1048577<K):Tot (Q168.f K (s,c,())) λr=>r.1.1.length<=s.size+1/\∀ p∈r.1.1,p.size<=s.size:=by
 have I:∀ i j:Nat,(s.extract i j).size<=s.size:=λi j=>by rw[C8];omega
 refine Tot.iter (step:=λrec a=>Q168.s0 K (s,c,()) rec a) (λa=>0<=a.2.1/\a.2.1<=a.2.2/\a.2.2<=s.size/\a.1.length<=a.2.2/\∀ p∈a.1,p.size<=s.size) (λa=>s.size-a.2.2.toNat) ?_ K _ (by show s.size-B6 0<K;omega) ⟨by show (0:Int)<=0;omega,by show (0:Int)<=0;omega,by show (0:Int)<=_;omega,by show (0:Int)<=0;omega,λp R=>by cases R⟩;rintro rec ⟨u,from_,i⟩ ⟨z,J,X,Y,O⟩ M;simp only at z J X Y O M ⊢;simp only[Q168.s0];obtain⟨i,rfl⟩:=B8 (DF z J);have H:∀ x:ByteArray,x.size<=s.size->∀ p∈u++[x],p.size<=s.size:=λx Z p R=>by
  rcases Cj.1 R with h|h
  ·exact O p h
  ·rw[Ca.1 h];exact Z
 refine Tot.cnd (λh=>?_) λh=>?_
 ·have h:=of_decide_eq_true h;rw[ar i (by omega)];refine Tot.ix (DF z J) (by rw[fZ];exact h) λy _ _=>Tot.cnd (λ_=>Tot.must (by rw[decide_eq_true z,decide_eq_true J,decide_eq_true X];rfl) (Tot.fit (M _ ⟨?_,?_,?_,?_,H _ (I _ _)⟩ ?_) (by omega) (by simp only[B9,CE];omega))) λ_=>M _ ⟨z,?_,?_,?_,O⟩ ?_
  ·show (0:Int)<=((i+1:Nat):Int);omega
  ·show ((i+1:Nat):Int)<=((i+1:Nat):Int);omega
  ·show ((i+1:Nat):Int)<=s.size;omega
  ·show ((u++[_]).length:Int)<=((i+1:Nat):Int);rw[CK,Cw];omega
  ·show s.size-B6 ((i+1:Nat):Int)<s.size-B6 (i:Int);omega
  ·show from_<=((i+1:Nat):Int);omega
  ·show ((i+1:Nat):Int)<=s.size;omega
  ·show (u.length:Int)<=((i+1:Nat):Int);omega
  ·show s.size-B6 ((i+1:Nat):Int)<s.size-B6 (i:Int);omega
 ·refine Tot.must (by rw[decide_eq_true z,decide_eq_true (by omega),decide_eq_true (Cr _)];rfl) (Tot.fit (Tot.ret ⟨?_,H _ (I _ _)⟩) (by omega) (by simp only[B9,CE];omega));show (u++[_]).length<=_;rw[CK,Cw];omega
theorem kq (K:Nat)(s:ByteArray)(R:s.size<=100000)(X:1048577<K):Tot (Q170.f K (s,())) λ_=>True:=by
 simp only[Q170.f,Q170.pre];have r:((s.size:Int)<=6)->Tot (Q170.l0 K (s,()) (0,0)) λ_=>True:=λY=>by
  refine Tot.iter (step:=λrec a=>Q170.s0 K (s,()) rec a) (λa=>0<=a.2/\a.2<=s.size) (λa=>s.size-a.2.toNat) ?_ K _ (by show s.size-B6 0<K;omega) ⟨by show (0:Int)<=0;omega,by show (0:Int)<=_;omega⟩;rintro rec ⟨z,i⟩ ⟨u,M⟩ J;simp only at u M J ⊢;simp only[Q170.s0];obtain⟨i,rfl⟩:=B8 u;refine Tot.cnd (λh=>?_) λ_=>Tot.ret trivial
  have h:=of_decide_eq_true h;have I:((i:Nat):Int)<s.data.toList.length:=by rw[fZ];exact h
  rw[ar i (by omega)];exact Tot.ix u I λy _ _=>Tot.cnd (λ_=>Tot.ret trivial) λ_=>Tot.ix u I λy _ _=>Tot.cnd (λ_=>Tot.ret trivial) λ_=>Tot.ix u I λy _ _=>J _ ⟨by show (0:Int)<=((i+1:Nat):Int);omega,by show ((i+1:Nat):Int)<=_;omega⟩ (by show s.size-B6 ((i+1:Nat):Int)<s.size-B6 (i:Int);omega)
 refine Tot.bind (cM K _ _ _).tot λv O=>Tot.cnd (λ_=>Tot.ret trivial) λh=>?_
 have H:=O.1 (by simpa using h);exact Tot.cnd (λh=>Tot.ix (by omega) (by rw[fZ];have:=of_decide_eq_true h;omega) λy _ _=>Tot.cnd (λ_=>Tot.ret trivial) λ_=>r H.2) λ_=>r H.2
theorem vn (K:Nat)(s:ByteArray)(J:s.size<=100000)(I:1048577<K):Tot (Q171.f K (s,())) λ_=>True:=by
 simp only[Q171.f];refine Tot.cnd (λ_=>Tot.ret trivial) λh=>?_
 have h:=of_decide_eq_false h;have z:(0:Int)<s.data.toList.length:=by rw[fZ];omega
 have r:Tot (bif decide ((0:Int)<=1)&&decide ((1:Int)<=(s.size:Int))&&decide ((s.size:Int)<=(s.size:Int)) then ((Q170.f K (s.extract (B6 1) (B6 (s.size:Int)),())).bind λu=>bif decide (u.1.1<0) then (some (((-1),false,()),())) else (bif s.toList==(ByteArray.mk #[45,48]).toList then (some (((-1),false,()),())) else ((idx s.data.toList 0).bind λH=>bif (H.toNat:Int)==45 then (some ((wr .i64 (0-u.1.1),true,()),())) else (some ((u.1.1,true,()),()))))) else none) λ (_:(Int×Bool×Unit)×Unit)=>True :=
  Tot.must (by rw[decide_eq_true (by omega:(0:Int)<=1),decide_eq_true (by omega:(1:Int)<=s.size),decide_eq_true (Cr _)];rfl) (Tot.bind (kq K _ (by rw[C8];omega) I) λv _=>Tot.cnd (λ_=>Tot.ret trivial) λ_=>Tot.cnd (λ_=>Tot.ret trivial) λ_=>Tot.ix (by omega) z λy _ _=>Tot.cnd (λ_=>Tot.ret trivial) λ_=>Tot.ret trivial)
 exact Tot.ix (by omega) z λy _ _=>Tot.cnd (λ_=>Tot.ix (by omega) z λy _ _=>Tot.cnd (λ_=>Tot.ret trivial) λ_=>r) λ_=>r
theorem AF (K:Nat)(s:ByteArray)(hs:s.size<=100000)(X:1048577<K):Tot (Q173.f K (s,())) λ_=>True:=by
 simp only[Q173.f,Q173.pre];have H:∀ (I:List ByteArray) (n1 Z:Int) (b:Bool),I.length=3->Tot (Q173.l0 K (s,()) (I,1,n1,Z,0,b)) λ_=>True:=λI n1 Z b hx=>by
  refine Tot.iter (step:=λrec a=>Q173.s0 K (s,()) rec a) (λa=>a.1.length=3/\1<=a.2.1/\a.2.1<=5) (λa=>5-a.2.1.toNat) ?_ K _ (by show 5-B6 1<K;omega) ⟨hx,by show (1:Int)<=1;omega,by show (1:Int)<=5;omega⟩;rintro rec ⟨ys,i,m1,m2,m3,m4⟩ ⟨h0,h1,h2⟩ ih;simp only at h0 h1 h2 ih ⊢;simp only[Q173.s0];refine Tot.cnd (λh=>?_) λ_=>Tot.bind (pc K _).tot λ_ _=>Tot.ret trivial
  have h:=of_decide_eq_true h;rw[aA (n:=i+1) (by omega) (by omega)];have go:∀ m:Int,Tot (rec (ys,i+1,m1,m2,m,m4)) λ_=>True:=λm=>ih _ ⟨h0,by show 1<=i+1;omega,by show i+1<=5;omega⟩ (by show 5-B6 (i+1)<5-B6 i;omega)
  exact Tot.bind (tK K i (by omega) h) λv _=>Tot.ix2 (by omega) (by omega) λy _ _=>Tot.cnd (λ_=>go _) λ_=>go _
 have u:∀ (z:ByteArray) (b:Bool),z.size<=s.size->Tot ((Q168.f K (z,58,())).bind λr=>bif (B4 r.1.1:Int) != 3 then (some (((0,(0,(0,b))),false,()),())) else ((idx r.1.1 0).bind λ_=>(idx r.1.1 (B6 0:Nat)).bind λJ=>(Q170.f K (J,())).bind λR=>(idx r.1.1 1).bind λ_=>(idx r.1.1 (B6 1:Nat)).bind λO=>(Q170.f K (O,())).bind λY=>Q173.l0 K (s,()) (r.1.1,1,R.1.1,Y.1.1,0,b))) λ_=>True:=λz b hz =>
  Tot.bind (wq K z 58 (by omega) X) λv ⟨_,hp⟩=>Tot.cnd (λ_=>Tot.ret trivial) λh=>by
   have h3:(v.1.1.length:Int)=3:=by simpa using h
   exact Tot.ix2 (by omega) (by omega) λy M _=>Tot.bind (kq K y (by have:=hp y M;omega) X) λ_ _=>Tot.ix2 (by omega) (by omega) λy M _=>Tot.bind (kq K y (by have:=hp y M;omega) X) λ_ _=>H _ _ _ _ (by omega)
 refine Tot.cnd (λh=>?_) λ_=>u s false (CH _)
 have h:=of_decide_eq_true h;rw[aA (n:=(s.size:Int)-1) (by omega) (by omega)];exact Tot.ix (by omega) (by rw[fZ];omega) λy _ _=>Tot.cnd (λ_=>Tot.must (by simp only[DA,decide_eq_true_eq];omega) (u _ true (by rw[C8];omega))) λ_=>u s false (CH _)
theorem AG (K:Nat)(s:ByteArray)(X:s.size<=100000)(J:1048577<K):Tot (Q174.f K (s,())) λr=>r.1.1.length<=100001:=by
 simp only[Q174.f,Q174.pre];refine Tot.cnd (λ_=>Tot.ret (by show (0:Nat)<=_;omega)) λ_=>Tot.bind (wq K s 44 X J) ?_
 rintro⟨⟨xs,⟨⟩⟩,⟨⟩⟩ ⟨hl,hp⟩;dsimp only at hl hp ⊢;refine Tot.iter (step:=λrec a=>Q174.s0 K (s,()) rec a) (λa=>a.2.1=xs/\0<=a.2.2/\a.2.2<=xs.length/\(a.1.length:Int)<=a.2.2) (λa=>xs.length-a.2.2.toNat) ?_ K _ (by show xs.length-B6 0<K;omega) ⟨rfl,by show (0:Int)<=0;omega,by show (0:Int)<=_;omega,by show (0:Int)<=0;omega⟩;rintro rec ⟨u,H,i⟩ ⟨rfl,z,M,O⟩ I;simp only at z M O hl hp I ⊢;simp only[Q174.s0];obtain⟨i,rfl⟩:=B8 z;refine Tot.cnd (λh=>?_) λ_=>Tot.ret (by show u.length<=_;omega)
 have h:=of_decide_eq_true h;rw[ar i (by omega)];exact Tot.ix2 z h λy R _=>Tot.bind (AF K y (by have:=hp y R;omega) J) λv _=>Tot.cnd (λ_=>Tot.ret (by show (0:Nat)<=_;omega)) λ_=>Tot.fit (I _ ⟨rfl,by show (0:Int)<=((i+1:Nat):Int);omega,by show ((i+1:Nat):Int)<=_;omega,by show ((u++[_]).length:Int)<=((i+1:Nat):Int);rw[CK,Cw];omega⟩ (by show H.length-B6 ((i+1:Nat):Int)<H.length-B6 (i:Int);omega)) (by omega) (by simp only[B9,CE];omega)
theorem AH (K:Nat)(s:ByteArray)(z:s.size<=100000)(u:1048577<K):Tot (Q177.f K (s,())) λr=>r.1.1.length<=100001:=by
 simp only[Q177.f];exact Tot.bind (AG K s z u) λv y=>Tot.cnd (λ_=>Tot.ret (by show (0:Nat)<=_;omega)) λ_=>Tot.bind (oI K _ (by omega) u) λx _=>Tot.cnd (λ_=>Tot.ret (by show (0:Nat)<=_;omega)) λ_=>Tot.ret y
theorem qd (K:Nat)(s:ByteArray)(X:s.size<=100000)(H:1048577<K):Tot (Q184.f K (s,())) λr=>r.1.2.1=true->ft r.1.1:=by
 simp only[Q184.f,Q184.pre];refine Tot.bind (wq K s 32 X H) ?_;rintro⟨⟨xs,⟨⟩⟩,⟨⟩⟩ ⟨hl,hp⟩;dsimp only at hl hp ⊢;refine Tot.cnd (λ_=>Tot.ret λh=>by cases h) λ_=>Tot.cnd (λ_=>Tot.ret λh=>by cases h) λh=>?_
 have M:(xs.length:Int)=12:=by simpa using h
 have u:∀ y∈xs,y.size<=100000:=λy z=>CL (hp y z) X
 have I:∀ p:Int,Tot (Q184.l0 K (s,()) (xs,1,p,0)) λr=>r.1.2.1=true->ft r.1.1:=λp=>by
  refine Tot.iter (step:=λrec a=>Q184.s0 K (s,()) rec a) (λa=>a.1=xs/\1<=a.2.1/\a.2.1<=7) (λa=>7-a.2.1.toNat) ?_ K _ (by show 7-B6 1<K;omega) ⟨rfl,by show (1:Int)<=1;omega,by show (1:Int)<=7;omega⟩;rintro rec ⟨ys,i,p,k⟩ ⟨rfl,O,h2⟩ R;simp only at O h2 hl M u R ⊢;simp only[Q184.s0];refine Tot.cnd (λh=>?_) λ_=>?_
  ·have h:=of_decide_eq_true h;rw[aA (n:=i+1) (by omega) (by omega)];have Z:∀ m:Int,Tot (rec (ys,i+1,p,m)) λr=>r.1.2.1=true->ft r.1.1:=λm=>R _ ⟨rfl,by show 1<=i+1;omega,by show i+1<=7;omega⟩ (by show 7-B6 (i+1)<7-B6 i;omega)
   exact Tot.bind (tL K i (by omega) h) λv _=>Tot.ix2 (by omega) (by omega) λy _ _=>Tot.cnd (λ_=>Z _) λ_=>Z _
  ·refine Tot.ix2 (by omega) (by omega) λy z _=>Tot.bind (kq K y (u y z) H) λ_ _=>Tot.ix2 (by omega) (by omega) λy z _=>Tot.bind (kq K y (u y z) H) λ_ _=>Tot.ix2 (by omega) (by omega) λy z _=>Tot.bind (kq K y (u y z) H) λ_ _=>Tot.ix2 (by omega) (by omega) λy z _=>Tot.bind (kq K y (u y z) H) λ_ _ =>
    Tot.ix2 (by omega) (by omega) λy z _=>Tot.bind (vn K y (u y z) H) λ_ _=>Tot.ix2 (by omega) (by omega) λy z _=>Tot.bind (vn K y (u y z) H) λ_ _=>Tot.ix2 (by omega) (by omega) λy z _=>Tot.bind (AH K y (u y z) H) λt ht=>Tot.ix2 (by omega) (by omega) λy z _=>Tot.bind (kq K y (u y z) H) λ_ _=>Tot.ix2 (by omega) (by omega) λy z _=>Tot.bind (kq K y (u y z) H) λ_ _ =>
    Tot.cnd (λ_=>Tot.ret λh=>by cases h) λ_=>Tot.cnd (λ_=>Tot.ret λh=>by cases h) λ_=>Tot.cnd (λ_=>Tot.ret λh=>by cases h) λ_=>Tot.bind (oJ K _ (by show t.1.1.length<=1048576;omega) H) λx ⟨_,hx⟩=>Tot.cnd (λ_=>Tot.ret λh=>by cases h) λJ=>Tot.ret λ_=>?_
   refine Classical.byContradiction λhn=>?_
   rw[hx hn]at J;have Y:(ByteArray.mk #[]).toList=s.toList:=by
    have:((ByteArray.mk #[]).toList != s.toList)=false:=J;simpa using this
   rw[DY,DY]at Y;have h0:=congrArg B4 Y;rw[fZ,fZ]at h0;have O:(ByteArray.mk #[]).size=0:=rfl;omega
 exact Tot.ix2 (by omega) (by omega) λy _ _=>Tot.cnd (λ_=>I 2) λ_=>I 1
def Rt (v r:Nat):Prop:=r*r<=v/\v<(r+1)*(r+1)
theorem By (K:Nat)(v:Nat)(hv:v<1500000001*1500000001)(hK:1048577<K):∃ r,Rt v r/\Q156.f K ((v:Int),())=some (((r:Int),()),()):=by
 have z:∀ (e k l h:Nat),h-l<2 ^ e->e<k->l<=h->h<=1500000000->l*l<=v->v<(h+1)*(h+1)->∃ r,Rt v r/\ae (λrec a=>Q156.s0 K ((v:Int),()) rec a) k ((l:Int),(h:Int))=some (((r:Int),()),()):=by
  intro e;induction e with
  |zero =>
   intro k l h J hk H M u y;obtain⟨k,rfl⟩:∃ I,k=I+1:=⟨k-1,by omega⟩;have:l=h:=by omega
   subst this;refine⟨l,⟨u,y⟩,?_⟩;show Q156.s0 K _ _ _=_;simp only[Q156.s0];rw[decide_eq_false (by omega)];rfl
  |succ e R =>
   intro k l h J hk H M u y;obtain⟨k,rfl⟩:∃ I,k=I+1:=⟨k-1,by omega⟩;show ∃ r,Rt v r/\Q156.s0 K _ _ _=_;simp only[Q156.s0];by_cases hl:l<h
   ·rw[decide_eq_true (show (l:Int)<(h:Int) by omega)];have Z:wr .i64 ((l:Int)+(h:Int))=(l:Int)+h:=aA (by omega) (by omega);have e2:wr .i64 ((l:Int)+(h:Int)+1)=((l+h+1:Nat):Int):=(aA (by omega) (by omega)).trans (by omega);have e3:DD ((l+h+1:Nat):Int) 2=(((l+h+1) / 2:Nat):Int):=by
     rw[Ch (by omega)];omega
    rw[Z,e2,e3];have hm:l<(l+h+1) / 2/\(l+h+1) / 2<=h:=by omega
    have O:h-(l+h+1) / 2<2 ^ e/\(l+h+1) / 2-1-l<2 ^ e:=by
     rw[Nat.pow_succ]at J;omega
    generalize (l+h+1) / 2=m at *;have e4:wr .i64 (m:Int)=m:=aA (by omega) (by omega);have e5:DD (v:Int) (m:Int)=((v / m:Nat):Int):=by
     rw[Ch (by omega)];rfl
    have a1:v / m<=v:=Nat.div_le_self _ _;have Y:m<=v / m<->m*m<=v:=Nat.le_div_iff_mul_le (by omega);generalize v / m=q at *;have e6:wr .i64 (q:Int)=(q:Int):=aA (by omega) (by omega);rw[e4,e5,e6,decide_eq_false (show ¬ (m:Int)=0 by omega)];simp only[cond_true,cond_false];by_cases X:m<=q
    ·rw[decide_eq_true (by omega)];exact R k m h O.1 (by omega) (by omega) M (Y.1 X) y
    ·rw[decide_eq_false (by omega)];have a0:¬ m*m<=v:=λh4=>X (Y.2 h4)
     have e7:wr .i64 ((m:Int)-1)=((m-1:Nat):Int):=fe m (by omega) (by omega);rw[e7];exact R k l (m-1) O.2 (by omega) (by omega) (by omega) u (by rw[show m-1+1=m by omega];omega)
   ·have:l=h:=by omega
    subst this;refine⟨l,⟨u,y⟩,?_⟩;rw[decide_eq_false (by omega)];rfl
 exact z 31 K 0 1500000000 (by decide) (by omega) (by omega) (by omega) (by omega) hv
def jk (x:Int):Int:=if x< -1000000000 then -1000000000 else if x>1000000000 then 1000000000 else x
theorem qT (K:Nat)(x:Int):Q155.f K (x,())=some ((jk x,()),()):=by
 simp only[Q155.f,Q152.f,jk];by_cases h:x< -1000000000
 ·rw[decide_eq_true h,if_pos h];rfl
 ·rw[decide_eq_false h,if_neg h];by_cases r:x>1000000000
  ·rw[decide_eq_true r,if_pos r];rfl
  ·rw[decide_eq_false r,if_neg r];rfl
theorem tM (x:Int):-1000000000<=jk x/\jk x<=1000000000:=by
 unfold jk;split
 ·omega
 ·split <;> omega
theorem Aa {a:Int}(h:-1000000000<=a/\a<=1000000000):0<=a*a/\a*a<=1000000000000000000:=by
 have e:∃ b:Nat,b<=1000000000/\a*a=((b*b:Nat):Int):=by
  refine⟨a.natAbs,by omega,?_⟩;exact (Int.natAbs_mul_self).symm
 obtain⟨b,r,u⟩:=e;have:=C5 r r;omega
end Go.Proofs.YtadlacffdemoiaaGreatEv
