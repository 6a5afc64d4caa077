/- The marks that a law writes into what was answered, and the look whether they still stand. -/
import Derived.Test.YtaegajachoklkaaGreatP1
import Derived.Test.YtaegajachoklkaaGreatE0
import Derived.Laws.Strings
set_option linter.unusedVariables false
set_option linter.unusedSimpArgs false
open Bool renaming not_true->B6,not_false->CO,and_eq_true->Cb,eq_iff_iff->Cf,true_and->Cj,and_self->Co,false_and->Cs,false_or->C8,and_true->DG,true_or->DK,and_false->DR,or_true->Dh
open ByteArray renaming size_extract->C5
open Classical renaming not_not->C0
open Eq renaming trans->DB
open Go.ByteArray renaming toList_eq->DT
open Go.IntKind renaming wrap_i64->Dc
open Int renaming toNat->BX,toNat_natCast->BY,eq_ofNat_of_zero_le->BZ,fdiv->CK,tdiv_eq_ediv_of_nonneg->CT,tmod->CX,le_refl->Ca,toNat_zero->Cr,tdiv->C4,le_trans->DA,tmod_lt_of_pos->DC,tmod_eq_emod_of_nonneg->DD,le_of_lt->DJ,tmod_nonneg->DO,tdiv_le_self->Dd,tdiv_nonneg->Df
open List renaming length->BV,getElem_mem->BW,length_cons->B3,mem_filter->B4,getElem_of_mem->B5,length_nil->B7,append_nil->B8,getElem?_eq_getElem->B9,nil_append->CA,length_map->CB,length_append->CC,length_take->CE,mem_map->CG,drop_zero->CH,pairwise_cons->CI,reverse_reverse->CJ,drop_eq_getElem_cons->CL,pairwise_map->CM,length_filter_le->CN,filter_cons->CP,length_drop->CQ,take_of_length_le->CS,mem_singleton->CU,append_assoc->CV,filter_eq_self->CW,mem_cons->CY,pairwise_iff_getElem->Cd,mem_append->Ce,pairwise_append->Cg,take_succ_eq_append_getElem->Ch,reverse_cons->Ci,length_take_le->Ck,length_pos_iff->Cl,filter_append->Cm,filter_eq_nil_iff->Cn,getElem?_eq_none->Cp,length_singleton->Cq,replicate->Cu,take_length->Cv,mem_of_find?_eq_some->Cw,length_reverse->Cx,getElem_take->Cy,length_replicate->C6,ext_getElem->C7,map_append->C9,filter_congr->DE,map_cons->DF,drop_length->DH,pairwise_singleton->DI,find?_cons->DL,find?_some->DM,length_set->DN,take_append_drop->DP,set_append_right->DQ,mem_of_mem_take->DS,find?_eq_none->DU,mem_cons_self->DV,getElem_drop->DW,getElem_map->DX,perm_middle->DY,cons_append->DZ,getElem_set->Da,mem_range->Dg,map_nil->Di
open List.Pairwise renaming filter->Ct
open Nat renaming le_refl->CD,le_trans->CF,zero_le->CR,lt_or_eq_of_le->Cc,mul_le_mul->Cz,lt_trichotomy->C3
open Option renaming bind_some->BU,bind->CZ,getD_some->Db,map_some->De
namespace Go.Proofs.YtaegajachoklkaaGreatEv
open Go
theorem lg {α β R:Type}(t:List α)(p:α->Bool)(g:α->β)(n:Nat)(u:List β->Option R){step:(List β×Int->Option R)->List β×Int->Option R}
  (h:∀ (rec:List β×Int->Option R) (r:List β) (i:Nat) (J:i<t.length),r.length<=i->r.length<n->step rec (r,(i:Int))=rec (bif p t[i] then r++[g t[i]] else r,((i+1:Nat):Int)))
  (Z:∀ (rec:List β×Int->Option R) (r:List β) (i:Nat),i<t.length->r.length<=i->n<=r.length->step rec (r,(i:Int))=u r)
  (z:∀ (rec:List β×Int->Option R) (r:List β),r.length<=t.length->step rec (r,(t.length:Int))=u r) :
  ∀ (d i k:Nat) (r:List β),i+d=t.length->d<k->r.length<=i->r.length<=n->ae step k (r,(i:Int))=u (r++(((t.drop i).filter p).map g).take (n-r.length)):=by
 intro d;induction d with
 |zero =>
  intro i k r J Y H _;obtain⟨k,rfl⟩:∃ I,k=I+1:=⟨k-1,by omega⟩;have:i=t.length:=by omega
  subst this;show step (ae step k) _=_;rw[z _ _ H];simp
 |succ d M =>
  intro i k r J Y H a0;obtain⟨k,rfl⟩:∃ I,k=I+1:=⟨k-1,by omega⟩;have y:i<t.length:=by omega
  show step (ae step k) _=_;by_cases O:r.length<n
  ·rw[h _ _ _ y H O,CL y,CP];cases hp:p t[i] with
   |true =>
    simp only[cond_true,if_true,DF];rw[M (i+1) k _ (by omega) (by omega) (by simp;omega) (by simp;omega)];congr 1;obtain⟨m,X⟩:∃ m,n-r.length=m+1:=⟨n-r.length-1,by omega⟩;rw[X,List.take_succ_cons,CV];simp only[CC,B3,B7];rw[show n-(r.length+(0+1))=m by omega];rfl
   |false =>
    simp only[cond_false];rw[M (i+1) k _ (by omega) (by omega) (by omega) (by omega)];rfl
  ·rw[Z _ _ _ y H (by omega)];rw[show n-r.length=0 by omega];simp
theorem pK {α β R:Type}(t:List α)(p:α->Bool)(g:α->β)(u:List β->Option R){step:(List β×Int->Option R)->List β×Int->Option R}
  (h:∀ (rec:List β×Int->Option R) (r:List β) (i:Nat) (z:i<t.length),r.length<=i->step rec (r,(i:Int))=rec (bif p t[i] then r++[g t[i]] else r,((i+1:Nat):Int)))
  (y:∀ (rec:List β×Int->Option R) (r:List β),r.length<=t.length->step rec (r,(t.length:Int))=u r) {k:Nat} (I:t.length<k) :
  ae step k ([],0)=u ((t.filter p).map g):=by
 have:=lg t p g (t.length+1) u (λrec r i z H _=>h rec r i z H) (λrec r i z H J=>by omega) y t.length 0 k [] (by omega) I (CD _) (by simp);refine this.trans ?_;congr 1;simp only[CA,B7,CH];exact CS (by have:=CN p t;simp;omega)
theorem d9 {e:Ty}{b:Nat}{xs:List e.den}(h:xs.length*b<=140737488355328):fj e b xs=some ((xs,()),()):=by
 unfold fj;rw[decide_eq_true (by simpa[ak]using h)];rfl
theorem xq {α β:Type}{xs r:List α}{b:Nat}{x y:β}(h:(xs.length+r.length)*b<=140737488355328):(bif decide ((BV xs+BV r)*b<=ak) then x else y)=x:=by
 rw[decide_eq_true (by simpa[ak]using h)];rfl
theorem qD (K:Nat)(xs:List Int)(n:Int)(I:xs.length<=1048576):Q76.f K (xs,n,())=some ((xs.take n.toNat,()),()):=by
 simp only[Q76.f,Q75.f,BU,Q8.f];obtain⟨c,y,z,u,r⟩:∃ c:Int,(bif decide (0<(bif decide ((xs.length:Int)<n) then (xs.length:Int) else n)) then bif decide ((xs.length:Int)<n) then (xs.length:Int) else n else 0)=c/\0<=c/\c<=xs.length/\xs.take c.toNat=xs.take n.toNat:=by
  by_cases h:(xs.length:Int)<n
  ·rw[decide_eq_true h];simp only[cond_true];by_cases r:0<(xs.length:Int)
   ·rw[decide_eq_true r];refine⟨_,rfl,by simp,by simp,?_⟩;simp only[cond_true];rw[CS (by omega),CS (by omega)]
   ·rw[decide_eq_false r];refine⟨_,rfl,by simp,by simp,?_⟩;have:xs=[]:=List.eq_nil_of_length_eq_zero (by omega);subst this;simp
  ·rw[decide_eq_false h];simp only[cond_false];by_cases r:0<n
   ·rw[decide_eq_true r];exact⟨_,rfl,by simp;omega,by simp;omega,rfl⟩
   ·rw[decide_eq_false r];refine⟨_,rfl,by simp,by simp,?_⟩;simp only[cond_false];rw[show n.toNat=0 by omega];rfl
 rw[y,decide_eq_true z,decide_eq_true u];simp only[Cr,CH,decide_true,Co,cond_true];rw[d9 (by
  have:=Ck c.toNat xs;have H:(List.take c.toNat xs).length<=1048576:=by omega
  omega)]
 simp only[BU];rw[r];rfl
theorem qE (K:Nat)(t:List af)(u:af×Unit->Option Bool)(p:af->Bool)(J:t.length<=1048576)(I:1048577<K)(hφ:∀ f∈t,u (f,())=some (p f)) :
  Q77.f K (t,u,())=some (((t.filter p).map (·.1),()),()):=by
 refine pK (step:=λrec a=>Q77.s0 K (t,u,()) rec a) t p (λf=>f.1) (λz=>some ((z,()),())) ?_ ?_ (by omega)
 ·intro rec r i y H;simp only[Q77.s0];rw[bG (by omega:(i:Int)<(BV t:Int)),ag y,aq i (by omega)];simp only[cond_true,BU];rw[hφ _ (BW y)];simp only[BU];cases p t[i] with
  |true=>simp only[cond_true];rw[xq (by simp;omega)]
  |false=>rfl
 ·intro rec r _;simp only[Q77.s0,aZ];rfl
def iL (f:af):Bool:=f.2.2.2&&f.2.2.1==1
def dS (t:List af):List Int:=((t.filter iL).map (·.1)).take 2
theorem uU (K:Nat)(t:List af)(J:t.length<=1048576)(I:1048577<K):Q203.f K (t,2,())=some ((dS t,()),()):=by
 have:=lg (step:=λrec a=>Q203.s0 K (t,2,()) rec a) t iL (λf=>f.1) 2 (λy=>some ((y,()),())) ?_ ?_ ?_ t.length 0 K [] (by omega) (by omega) (CD _) (by simp)
 ·exact this
 ·intro rec r i u z H;simp only[Q203.s0];rw[bG (by omega:(i:Int)<(BV t:Int)),ag u,aq i (by omega),decide_eq_true (by omega:(BV r:Int)<2)];simp only[cond_true,BU,iL];cases t[i].2.2.2 with
  |true =>
   simp only[cond_true,Cj];cases t[i].2.2.1==1 with
   |true=>simp only[cond_true];rw[xq (by simp;omega)]
   |false=>rfl
  |false=>rfl
 ·intro rec r i u z H;simp only[Q203.s0];rw[bG (by omega:(i:Int)<(BV t:Int)),decide_eq_false (by omega:¬ (BV r:Int)<2)];rfl
 ·intro rec r _;simp only[Q203.s0,aZ];rfl
theorem uV (K:Nat)(t:List af)(u:t.length<=1048576)(r:1048577<K)(H:az t):Q103.f K (t,2,())=some ((dS t,()),()):=by
 obtain⟨b,y,z⟩:=jJ K t u r;simp only[Q103.f];rw[y];simp only[BU,z.2 H,B6,cond_false];rw[qE K t _ iL u r (λf _=>by
  simp only[Q102.f,iL];cases f.2.2.2 <;> rfl)]
 simp only[BU];rw[qD K _ 2 (by have:=CN iL t;simp;omega)];rfl
theorem rj (t:List af):(dS t).length<=2:=by
 unfold dS;exact Ck _ _
def dr (l:List cY)(s:Int):List af:=((l.find? λx=>x.1==s).map (·.2)).getD []
theorem pL {R:Type}(l:List cY)(s:Int)(r:List af->Option R){step:(Int->Option R)->Int->Option R}
  (h:∀ (rec:Int->Option R) (i:Nat) (H:i<l.length),step rec (i:Int)=bif l[i].1==s then r l[i].2 else rec ((i+1:Nat):Int))
  (y:∀ rec:Int->Option R,step rec (l.length:Int)=r []) :
  ∀ (d i k:Nat),i+d=l.length->d<k->ae step k (i:Int)=r (dr (l.drop i) s):=by
 intro d;induction d with
 |zero =>
  intro i k H I;obtain⟨k,rfl⟩:∃ z,k=z+1:=⟨k-1,by omega⟩;have:i=l.length:=by omega
  subst this;show step (ae step k) _=_;rw[y];simp[dr]
 |succ d J =>
  intro i k H I;obtain⟨k,rfl⟩:∃ z,k=z+1:=⟨k-1,by omega⟩;have u:i<l.length:=by omega
  show step (ae step k) _=_;rw[h _ _ u,CL u];simp only[dr,DL];cases l[i].1==s with
  |true=>rfl
  |false=>exact J (i+1) k (by omega) (by omega)
theorem Am (K:Nat)(n:aa)(s:Int)(u:NB n)(y:1048577<K):Q104.f K (n,s,())=some ((dr (aa.others n) s,()),()):=by
 have z:=u.others;refine pL (step:=λrec a=>Q104.s0 K (n,s,()) rec a) (aa.others n) s (λt=>some ((t,()),())) ?_ ?_ (aa.others n).length 0 K (by omega) (by omega)
 ·intro rec i r;simp only[Q104.s0];rw[bG (by omega:(i:Int)<(BV (aa.others n):Int)),ag r,aq i (by omega)];rfl
 ·intro rec;simp only[Q104.s0,aZ];rfl
theorem mW {l:List cY}{s:Int}:dr l s=[]\/∃ x∈l,x.1=s/\dr l s=x.2:=by
 unfold dr;cases h:l.find? λx=>x.1==s with
 |none=>exact .inl rfl
 |some x=>exact .inr ⟨x,Cw h,by simpa using DM h,rfl⟩
def bL {α:Type}(k:α->Int)(x:α)(xs:List α):List α:=xs.filter (λy=>decide (k y<k x))++x::xs.filter (λy=>decide (k x<k y))
theorem rl {α:Type}{k:α->Int}{xs:List α}{v:Int}{m:Nat}(J:m<=xs.length)(I:∀ i,(z:i<xs.length)->i<m->k xs[i]<v)(z:∀ i,(h:i<xs.length)->m<=i->v<=k xs[i]):xs.filter (λy=>decide (k y<v))=xs.take m:=by
 conv=>lhs;rw[<- DP m xs]
 rw[Cm];have r:(xs.take m).filter (λy=>decide (k y<v))=xs.take m:=by
  rw[CW];intro y u;obtain⟨i,r,rfl⟩:=B5 u;rw[CE]at r;rw[Cy];exact decide_eq_true (I i (by omega) (by omega))
 have H:(xs.drop m).filter (λy=>decide (k y<v))=[]:=by
  rw[Cn];intro y u;obtain⟨i,r,rfl⟩:=B5 u;rw[CQ]at r;rw[DW];have:=z (m+i) (by omega) (by omega);simp only[decide_eq_true_eq];omega
 rw[r,H,B8]
theorem rm {α:Type}{k:α->Int}{xs:List α}{v:Int}{m:Nat}(J:m<=xs.length)(I:∀ i,(z:i<xs.length)->i<m->k xs[i]<=v)(z:∀ i,(h:i<xs.length)->m<=i->v<k xs[i]):xs.filter (λy=>decide (v<k y))=xs.drop m:=by
 conv=>lhs;rw[<- DP m xs]
 rw[Cm];have r:(xs.take m).filter (λy=>decide (v<k y))=[]:=by
  rw[Cn];intro y u;obtain⟨i,r,rfl⟩:=B5 u;rw[CE]at r;rw[Cy];have:=I i (by omega) (by omega);simp only[decide_eq_true_eq];omega
 have H:(xs.drop m).filter (λy=>decide (v<k y))=xs.drop m:=by
  rw[CW];intro y u;obtain⟨i,r,rfl⟩:=B5 u;rw[CQ]at r;rw[DW];exact decide_eq_true (z (m+i) (by omega) (by omega))
 rw[r,H,CA]
theorem kx {α:Type}{k:α->Int}{xs:List α}{x:α}{m:Nat}(h:Asc k xs)(H:m<xs.length)(e:k xs[m]=k x):xs.set m x=bL k x xs:=by
 have I:=dw.1 h;have J:∀ i,(u:i<xs.length)->i<m->k xs[i]<k x:=λi u z=>by rw[<- e];exact I i m u H z
 have M:∀ i,(u:i<xs.length)->m<i->k x<k xs[i]:=λi u z=>by rw[<- e];exact I m i H u z
 rw[bL,rl (m:=m) (by omega) J (λi u r=>by
   rcases Cc r with y|y
   ·exact DJ (M i u y)
   ·subst y;omega),
  rm (m:=m+1) (by omega) (λi u r=>by
   rcases Cc (Nat.le_of_lt_succ r) with y|y
   ·exact DJ (J i u y)
   ·subst y;omega) (λi u r=>M i u r),
  List.set_eq_take_append_cons_drop,if_pos H]
theorem jo {α:Type}{k:α->Int}{xs:List α}{x:α}{m:Nat}(H:m<=xs.length)(z:∀ i,(y:i<xs.length)->i<m->k xs[i]<k x)(y:∀ i,(h:i<xs.length)->m<=i->k x<k xs[i]):xs.take m++[x]++xs.drop m=bL k x xs:=by
 rw[bL,rl H z (λi r u=>DJ (y i r u)),rm H (λi r u=>DJ (z i r u)) y,CV];rfl
theorem bd {α:Type}{k:α->Int}{xs:List α}{x y:α}:y∈bL k x xs<->y=x\/(y∈xs/\k y≠k x):=by
 simp only[bL,Ce,CY,B4,decide_eq_true_eq];constructor
 ·rintro (⟨r,u⟩|rfl|⟨r,u⟩)
  ·exact .inr ⟨r,by omega⟩
  ·exact .inl rfl
  ·exact .inr ⟨r,by omega⟩
 ·rintro (rfl|⟨r,u⟩)
  ·exact .inr (.inl rfl)
  ·rcases Int.lt_or_gt_of_ne u with z|z
   ·exact .inl ⟨r,z⟩
   ·exact .inr (.inr ⟨r,z⟩)
theorem fy {α:Type}{k:α->Int}{xs:List α}{x:α}(h:Asc k xs):Asc k (bL k x xs):=by
 unfold Asc bL;rw[Cg,CI];refine⟨h.filter _,⟨λy r=>?_,h.filter _⟩,λy r z u=>?_⟩
 ·simpa using (B4.1 r).2
 ·have H:k y<k x:=by simpa using (B4.1 r).2
  rcases CY.1 u with rfl|u
  ·exact H
  ·have I:k x<k z:=by simpa using (B4.1 u).2
   omega
theorem yW {α:Type}{k:α->Int}{xs:List α}{x:α}:(bL k x xs).length<=xs.length+1:=by
 have:∀ l:List α,(l.filter (λy=>decide (k y<k x))).length+(l.filter (λy=>decide (k x<k y))).length<=l.length:=by
  intro l;induction l with
  |nil=>simp
  |cons y l u =>
   simp only[CP,B3];by_cases r:k y<k x
   ·rw[if_pos (decide_eq_true r),if_neg (by simp;omega)];simp only[B3];omega
   ·rw[if_neg (by simpa using r)];split <;> (try simp only[B3]) <;> omega
 have:=this xs;simp only[bL,CC,B3];omega
theorem pa {α:Type}{k:α->Int}{xs:List α}(h:Asc k xs){i:Nat}(u:i<xs.length){v:Int}(e:k xs[i]=v):xs.find? (λy=>k y==v)=some xs[i]:=by
 cases r:xs.find? (λy=>k y==v) with
 |none =>
  have:=DU.1 r xs[i] (BW u);simp[e]at this
 |some y =>
  have H:k y=v:=by simpa using DM r
  obtain⟨j,z,rfl⟩:=B5 (Cw r);have:=oX h z u (by rw[H,e]);subst this;rfl
theorem nV {α:Type}{k:α->Int}{xs:List α}{v:Int}(h:∀ y∈xs,k y≠v):xs.find? (λy=>k y==v)=none:=by
 rw[DU];intro y r;simpa using h y r
def kf {α:Type}(k:α->Int)(x:α):Bool->List α->List α
 |d,[]=>bif d then [] else [x]
 |d,y::r=>(bif !d&&decide (k x<=k y) then [x] else [])++((bif k y != k x then [y] else [])++kf k x (d||decide (k x<=k y)) r)
theorem pM {α:Type}{k:α->Int}{x:α}:∀ {r:List α},(∀ y∈r,k x<k y)->kf k x true r=r
 |[],_=>rfl
 |y::r,h=>by
  have H:=h y (by simp);simp only[kf,B6,Cs,cond_false,DK,CA];rw[pM (λz u=>h z (by simp[u])),show (k y != k x)=true by simp;omega];rfl
theorem lh {α:Type}{k:α->Int}{x:α}:∀ {xs:List α},Asc k xs->kf k x false xs=bL k x xs
 |[],_=>rfl
 |y::u,h=>by
  have M:Asc k u:=(CI.1 h).2;have H:∀ z∈u,k y<k z:=(CI.1 h).1;simp only[kf,CO,Cj,C8];by_cases I:k x<=k y
  ·rw[decide_eq_true I,pM (λz r=>by have:=H z r;omega)];simp only[cond_true,bL,CP];have R:u.filter (λz=>decide (k z<k x))=[]:=by
    rw[Cn];intro z r;have:=H z r;simp;omega
   have O:u.filter (λz=>decide (k x<k z))=u:=by
    rw[CW];intro z r;have:=H z r;simp;omega
   rw[R,O,if_neg (by simp;omega)];by_cases J:k y=k x
   ·rw[if_neg (by simp;omega),show (k y != k x)=false by simpa using J];rfl
   ·rw[if_pos (by simp;omega),show (k y != k x)=true by simpa using J];rfl
  ·rw[decide_eq_false I,lh M,show (k y != k x)=true by simp;omega];simp only[cond_false,cond_true,bL,CP,CA];rw[if_pos (by simp;omega),if_neg (by simp;omega)];rfl
theorem sX {α A R:Type}(k:α->Int)(x:α)(t:List α)(q:α->Bool)(X:Option R)(y:List α->Option R)(S:List α->Bool->Nat->A){step:(A->Option R)->A->Option R}
  (h:∀ (rec:A->Option R) (r:List α) (d:Bool) (i:Nat) (Y:i<t.length),r.length<=i+1->(d=false->r.length<=i)->step rec (S r d i)=bif q t[i] then X else rec (S ((r++(bif !d&&decide (k x<=k t[i]) then [x] else []))++(bif k t[i] != k x then [t[i]] else [])) (d||decide (k x<=k t[i])) (i+1)))
  (H:∀ (rec:A->Option R) (r:List α) (d:Bool),r.length<=t.length+1->(d=false->r.length<=t.length)->step rec (S r d t.length)=y (r++(bif d then [] else [x]))) :
  ∀ (n i K:Nat) (r:List α) (d:Bool),i+n=t.length->n<K->r.length<=i+1->(d=false->r.length<=i)->ae step K (S r d i)=bif (t.drop i).any q then X else y (r++kf k x d (t.drop i)):=by
 intro n;induction n with
 |zero =>
  intro i K r d Y Z J z;obtain⟨K,rfl⟩:∃ M,K=M+1:=⟨K-1,by omega⟩;have:i=t.length:=by omega
  subst this;show step (ae step K) _=_;rw[H _ _ _ J z,DH];rfl
 |succ n ih =>
  intro i K r d Y Z J z;obtain⟨K,rfl⟩:∃ M,K=M+1:=⟨K-1,by omega⟩;have I:i<t.length:=by omega
  show step (ae step K) _=_;rw[h _ _ _ _ I J z,CL I,List.any_cons];cases hq:q t[i] with
  |true=>rfl
  |false =>
   simp only[cond_false,C8,kf];rw[ih (i+1) K _ _ (by omega) (by omega) ?_ ?_]
   ·simp only[CV]
   ·cases d with
    |true =>
     simp only[B6,Cs,cond_false,B8];cases k t[i] != k x <;> simp <;> omega
    |false =>
     have:=z rfl;cases O:decide (k x<=k t[i]) <;> cases k t[i] != k x <;> simp <;> omega
   ·intro u;rw[Bool.or_eq_false_iff]at u;obtain⟨rfl,O⟩:=u;have:=z rfl;rw[O];cases k t[i] != k x <;> simp <;> omega
theorem un (K:Nat)(n:aa)(y:NB n)(r:1048577<K):∃ b,Q64.f K (n,())=rb b/\Q48.f K (n,())=rb b/\(b=true<->gn n):=by
 obtain⟨b,z,u⟩:=sW K n y r;obtain⟨J,I,H⟩:=mi K n y r;have:b=J:=by rw[Cf,u,H]
 subst this;exact⟨b,z,I,u⟩
theorem gn.up {n:aa}(h:gn n)(r:n.2.1=true):UpP n:=by
 have:=h.2.2.2.2.2
 rwa [if_pos r]at this
abbrev ar:=Int×Int×Int×Int×Int×Int×dD×List af
abbrev ar.table (w:ar):List af:=w.2.2.2.2.2.2.2
abbrev ar.coord (w:ar):dD:=w.2.2.2.2.2.2.1
def pN:List af->Prop
 |[]=>False
 |f::l=>cj (f::l) (ao f.1)
def iY (w:ar):Prop:=InP w.1 1 2/\InP w.2.1 1 6/\InP w.2.2.1 0 7/\InP w.2.2.2.1 0 7/\InP w.2.2.2.2.1 0 999999/\InP w.2.2.2.2.2.1 0 7/\cJ (ar.coord w)/\az (ar.table w) /\
 (if w.2.1=6 then pN (ar.table w) else cj (ar.table w) (ao w.2.2.1))
theorem sY (K:Nat)(w:ar)(r:(ar.table w).length<=1048576)(u:1048577<K):Ret (Q143.f K (w,())) (iY w):=by
 refine Ret.nx (cI K _ _ _) λ_=>Ret.nx (cI K _ _ _) λ_=>Ret.nx (cI K _ _ _) λ_=>Ret.nx (cI K _ _ _) λ_=>Ret.nx (cI K _ _ _) λ_=>Ret.nx (cI K _ _ _) λ_=>Ret.nx (iJ K _) λ_=>Ret.nx (gB K _ r u) λ_=>?_
 dsimp only;by_cases h:w.2.1=6
 ·rw[show (w.2.1==6)=true by simpa using h,if_pos h];obtain⟨w1,w2,w3,w4,w5,y,z,t⟩:=w;cases t with
  |nil=>exact Ret.no (λh=>h)
  |cons f l =>
   rw[show decide ((BV (f::l):Int)>0)=true from decide_eq_true (by simp only[B3];omega)];simp only[cond_true];exact Ret.vl (ag (xs:=f::l) (i:=0) (by simp)) (gC K _ _ r u).id
 ·rw[show (w.2.1==6)=false by simpa using h,if_neg h];exact (gC K _ _ r u).id
theorem iM {α A R:Type}(xs:List α)(S:List α->Nat->A)(r:Option R){step:(A->Option R)->A->Option R}
  (h:∀ (rec:A->Option R) (u:List α) (i:Nat) (z:i<xs.length),u.length=i->step rec (S u i)=rec (S (u++[xs[i]]) (i+1))) (y:∀ rec:A->Option R,step rec (S xs xs.length)=r) {k:Nat} (H:xs.length<k):ae step k (S [] 0)=r:=by
 refine lL (step:=step) xs.length (λi=>S (xs.take i) i) r ?_ ?_ H
 ·intro rec i z;show step rec (S (xs.take i) i)=rec (S (xs.take (i+1)) (i+1));rw[h rec (xs.take i) i z (by simp;omega),Ch z]
 ·intro rec;show step rec (S (xs.take xs.length) xs.length)=r;rw[Cv];exact y rec
theorem szb (a b c:Nat)(r:c<=64)(h:a+b<=2097152):decide ((a+b)*c<=ak)=true:=by
 have:=Cz h r;exact decide_eq_true (by unfold ak;omega)
theorem xt (K:Nat)(n:aa)(y:NB n)(H:1048577<K):Q118.f K (n,())=some ((n,()),()):=by
 have M:=y.table;have J:=y.cast;have O:=y.doubts;have I:=y.places;have R:=y.others;simp only[Q118.f,Q118.pre];rw[szb _ _ _ (by omega) (by show (BV ([]:List af))+(aa.table n).length<=_;simp;omega),szb _ _ _ (by omega) (by show (BV ([]:List aN))+(aa.cast n).length<=_;simp;omega)];simp only[cond_true];refine iM (aa.doubts n) (step:=λrec a=>Q118.s0 K (n,()) (Q118.l1 K (n,())) rec a) (λr i=>((i:Int),r)) _ ?_ ?_ (by omega)
 ·intro rec r i u z;have:=y.by_ _ (BW u);simp only[Q118.s0];rw[bG (by omega:(i:Int)<(BV (aa.doubts n):Int)),ag u,aq i (by omega)];simp only[cond_true,BU];rw[szb _ _ _ (by omega) (by simp;omega),szb _ _ _ (by omega) (by simp;omega)];rfl
 ·intro rec;simp only[Q118.s0,aZ,cond_false];refine iM (aa.places n) (step:=λrec a=>Q118.s1 K (n,()) (Q118.l2 K (n,())) rec a) (λr i=>((i:Int),aa.doubts n,r)) _ ?_ ?_ (by omega)
  ·intro rec r i u z;have:=y.trips _ (BW u);simp only[Q118.s1];rw[bG (by omega:(i:Int)<(BV (aa.places n):Int)),ag u,aq i (by omega)];simp only[cond_true,BU];rw[szb _ _ _ (by omega) (by simp;omega),szb _ _ _ (by omega) (by simp;omega)];rfl
  ·intro rec;simp only[Q118.s1,aZ,cond_false];refine iM (aa.others n) (step:=λrec a=>Q118.s2 K (n,()) rec a) (λr i=>((i:Int),aa.doubts n,aa.places n,r)) _ ?_ ?_ (by omega)
   ·intro rec r i u z;have:=y.facts _ (BW u);simp only[Q118.s2,zcp8];rw[bG (by omega:(i:Int)<(BV (aa.others n):Int)),ag u,aq i (by omega)];simp only[cond_true,BU];rw[szb _ _ _ (by omega) (by simp;omega),szb _ _ _ (by omega) (by simp;omega)];rfl
   ·intro rec;simp only[Q118.s2,zcp8,aZ,cond_false];rfl
theorem yX (K:Nat)(n:aa)(y:NB n)(H:1048577<K):Q112.f K (n,())=some ((n,()),()):=by
 have M:=y.table;have J:=y.cast;have O:=y.doubts;have I:=y.places;have R:=y.others;simp only[Q112.f,Q112.pre];refine iM (aa.doubts n) (step:=λrec a=>Q112.s0 K (n,()) (Q112.l1 K (n,())) rec a) (λr i=>(r,(i:Int))) _ ?_ ?_ (by omega)
 ·intro rec r i u z;have:=y.by_ _ (BW u);simp only[Q112.s0,Q8.f];rw[bG (by omega:(i:Int)<(BV (aa.doubts n):Int)),ag u,aq i (by omega)];simp only[cond_true,BU];rw[d9 (by omega)];simp only[BU];rw[szb _ _ _ (by omega) (by simp;omega)];rfl
 ·intro rec;simp only[Q112.s0,aZ,cond_false];refine iM (aa.places n) (step:=λrec a=>Q112.s1 K (n,()) (Q112.l2 K (n,())) rec a) (λr i=>(aa.doubts n,r,(i:Int))) _ ?_ ?_ (by omega)
  ·intro rec r i u z;have:=y.trips _ (BW u);simp only[Q112.s1,Q8.f];rw[bG (by omega:(i:Int)<(BV (aa.places n):Int)),ag u,aq i (by omega)];simp only[cond_true,BU];rw[d9 (by omega)];simp only[BU];rw[szb _ _ _ (by omega) (by simp;omega)];rfl
  ·intro rec;simp only[Q112.s1,aZ,cond_false];refine iM (aa.others n) (step:=λrec a=>Q112.s2 K (n,()) rec a) (λr i=>(aa.doubts n,aa.places n,r,(i:Int))) _ ?_ ?_ (by omega)
   ·intro rec r i u z;have:=y.facts _ (BW u);simp only[Q112.s2,zcp8,Q0.f];rw[bG (by omega:(i:Int)<(BV (aa.others n):Int)),ag u,aq i (by omega)];simp only[cond_true,BU];rw[d9 (by omega)];simp only[BU];rw[szb _ _ _ (by omega) (by simp;omega)];rfl
   ·intro rec;simp only[Q112.s2,zcp8,aZ,cond_false,Q0.f,Q2.f];rw[d9 (by show (aa.table n).length*_<=_;omega),d9 (by show (aa.cast n).length*_<=_;omega)];rfl
instance (f g:af):Decidable (bO f g):=by unfold bO;infer_instance
theorem pO (K:Nat)(f g:af):Q57.f K (f,g,())=rb (decide (bO f g)):=by
 obtain⟨b,r,u⟩:=sU K f g;rw[r,show b=decide (bO f g) by rw[Cf,u];simp]
def bW (t:List af)(f:af):List af×Bool :=
 match t.find? (λg=>g.1==f.1) with
 |some g=>if bO f g then (bL (λg=>g.1) f t,true) else (t,false)
 |none=>(bL (λg=>g.1) f t,true)
theorem ky {t:List af}{f:af}(r:Asc (λg:af=>g.1) t){i:Nat}(u:i<t.length)(e:t[i].1=f.1):bW t f=if bO f t[i] then (bL (λg=>g.1) f t,true) else (t,false):=by
 unfold bW;rw[show t.find? (λg=>g.1==f.1)=some t[i] from pa r u e]
theorem is {t:List af}{f:af}(h:∀ g∈t,g.1≠f.1):bW t f=(bL (λg=>g.1) f t,true):=by
 unfold bW;rw[show t.find? (λg=>g.1==f.1)=none from nV h]
theorem mX {e:Ty}{b:Nat}{xs:List e.den}{m:Nat}{v:e.den}(y:m<=xs.length)(r:b<=64)(u:xs.length<=1048576):iE e b xs (m:Int) [v]=some ((xs.take m++[v]++xs.drop m,()),()):=by
 unfold iE;have:(xs.length+[v].length)*b<=140737488355328:=CF (Cz (show xs.length+[v].length<=1048577 by simp;omega) r) (by decide);rw[if_pos ⟨by omega,by omega,by simp,by simpa only[ak]using this⟩,BY]
theorem rq {e:Ty}{xs:List e.den}{u:e.den×Unit->Option Bool}(p:e.den->Bool)(z:xs.length<=1048576)(h:∀ x∈xs,u (x,())=some (p x)):gR e xs u=some ((xs.filter (λx=>!p x),()),()):=by
 have:∀ r:List e.den,(∀ x∈r,u (x,())=some (p x))->ma u r=some (r.filter (λx=>!p x)):=by
  intro r;induction r with
  |nil=>intro _;rfl
  |cons y r H =>
   intro h;simp only[ma,h y (by simp),BU,H (λx z=>h x (by simp[z])),De,CP];cases p y <;> rfl
 unfold gR;rw[if_pos z,this xs h];rfl
theorem put_s (K:Nat)(t:List af)(f:af)(ht:t.length<=1048576)(R:Asc (λg:af=>g.1) t)(hK:1048577<K):Q154.f K (t,f,())=some (((bW t f).1,(bW t f).2,()),()):=by
 simp only[Q154.f,Q154.pre];obtain⟨o,H,I⟩:=fI K t f.1 ht hK;rw[I];simp only[BU];cases H with
 |at_ i r e =>
  simp only;rw[ky R r e,decide_eq_true (by omega:((i:Nat):Int)>=0),ag r];simp only[cond_true,BU];rw[show Q57.f K (f,t[i],())=_ from pO K f t[i]];simp only[BU];by_cases H:bO f t[i]
  ·rw[decide_eq_true H,if_pos H];simp only[B6,cond_false];rw[szb _ _ _ (by omega) (by show (BV ([]:List af))+t.length<=_;simp;omega)];simp only[cond_true,CA,ag r,BU,BY];rw[kx (k:=λg:af=>g.1) R r e]
  ·rw[decide_eq_false H,if_neg H];rfl
 |no h =>
  simp only;rw[is h,decide_eq_false (by omega:¬ (-1:Int)>=0)];simp only[cond_false];have J:∀ m:Nat,m<=t.length->(bif decide ((0:Int)<=0)&&decide ((0:Int)<=(m:Int))&&decide ((m:Int)<=(BV t:Int))&&true then (bif decide ((BV ([]:List af)+BV ((t.take (BX (m:Int))).drop (BX 0)))*32<=ak) then (bif decide ((BV ([]++((t.take (BX (m:Int))).drop (BX 0)))+BV ([f]))*32<=ak) then (bif decide ((0:Int)<=(m:Int))&&decide ((m:Int)<=(BV t:Int))&&decide ((BV t:Int)<=(BV t:Int))&&true then (bif decide ((BV (([]++((t.take (BX (m:Int))).drop (BX 0)))++([f]))+BV ((t.take (BX (BV t:Int))).drop (BX (m:Int))))*32<=ak) then (some (((([]++((t.take (BX (m:Int))).drop (BX 0)))++([f]))++((t.take (BX (BV t:Int))).drop (BX (m:Int))),true,()),())) else none) else none) else none) else none) else (none:Option ((List af×Bool×Unit)×Unit)))=some ((t.take m++[f]++t.drop m,true,()),()):=by
   intro m X;rw[decide_eq_true (by omega:(0:Int)<=0),decide_eq_true (by omega:(0:Int)<=(m:Int)),decide_eq_true (by omega:(m:Int)<=(BV t:Int)),decide_eq_true (by omega:(BV t:Int)<=(BV t:Int))];simp only[BY,Cr,CH,CA,Cv,Co,cond_true];have I:(t.take m).length=m:=by rw[CE];omega
   have z:(t.drop m).length=t.length-m:=CQ;rw[szb _ _ _ (by omega) (by simp only[B7];omega),szb _ _ _ (by omega) (by simp only[B3,B7];omega),szb _ _ _ (by omega) (by simp only[CC,B3,B7];omega)];rfl
  have:=bS (step:=λrec a=>Q154.s0 K (t,f,()) rec a) t.length (λi=>(i:Int)) (λj=>∃ h:j<t.length,¬ t[j].1<f.1) (some ((t.take t.length++[f]++t.drop t.length,true,()),())) (λj=>some ((t.take j++[f]++t.drop j,true,()),())) ?_ ?_ t.length K 0 (by omega) (by omega)
  ·have M:∀ m,m<=t.length->(∀ i,(r:i<t.length)->i<m->t[i].1<f.1)->(∀ i,(r:i<t.length)->m<=i->f.1<t[i].1)->t.take m++[f]++t.drop m=bL (λg=>g.1) f t:=λm X lo r=>jo (k:=λg:af=>g.1) X lo r
   rcases this with ⟨I,z⟩|⟨j,_,I,⟨Y,h4⟩,h5,z⟩
   ·rw[M t.length (CD _) (λi r _=>by
     have:=I i (CR _) r;exact C0.1 λh=>this ⟨r,h⟩) (λi r h=>by omega)]at z
    exact z
   ·rw[M j (by omega) (λi r y=>by
     have:=h5 i (CR _) y;exact C0.1 λh=>this ⟨r,h⟩) (λi r y=>by
     have Z:=h t[i] (BW r);rcases Cc y with O|O
     ·have:=dw.1 R j i Y r O;omega
     ·subst O;omega)]at z
    exact z
  ·intro rec i r;simp only[Q154.s0];rw[bG (by omega:(i:Int)<(BV t:Int)),ag r,aq i (by omega)];simp only[cond_true,BU];by_cases u:t[i].1<f.1
   ·exact .inl ⟨λ⟨_,h⟩=>h u,by rw[decide_eq_true u];rfl⟩
   ·exact .inr ⟨⟨r,u⟩,by rw[decide_eq_false u];exact J i (by omega)⟩
  ·intro rec;simp only[Q154.s0,aZ,cond_false];exact J t.length (CD _)
theorem zX (K:Nat)(t:List af)(f:af)(X:t.length<=1048576)(H:Asc (λg:af=>g.1) t)(R:1048577<K):Q67.f K (t,f,())=some (((bW t f).1,(bW t f).2,()),()):=by
 simp only[Q67.f,Q0.f,Q1.f];rw[d9 (by omega)];simp only[BU];obtain⟨m,r,Y⟩:=sS K t f.1 X H R;rw[Y];simp only[BU];by_cases O:∃ h:m<t.length,t[m].1=f.1
 ·obtain⟨I,y⟩:=O;rw[decide_eq_true ⟨I,y⟩,ky H I y];simp only[B6,cond_false,ag I,BU,BY];rw[mU K f t[m] R];simp only[BU];by_cases J:bO f t[m]
  ·rw[decide_eq_true ((jK y.symm).2 J),if_pos J,kx (k:=λg:af=>g.1) H I y];rfl
  ·rw[decide_eq_false (λh=>J ((jK y.symm).1 h)),if_neg J];rfl
 ·rw[decide_eq_false O,is (λg Z e=>by
   obtain⟨i,u,rfl⟩:=B5 Z;rcases C3 i m with h|h|h
   ·have:=r.lo i u h;omega
   ·subst h;exact O ⟨u,e⟩
   ·have h5:=r.hi m (by omega) (CD _);have M:=dw.1 H m i (by omega) u h;omega)]
  simp only[CO,cond_true];rw[mX r.le (by omega) X];simp only[BU];rw[jo (k:=λg:af=>g.1) r.le r.lo (λi u z=>by
   have:=r.hi i u z;rcases Cc z with M|M
   ·have h5:=r.hi m (by omega) (CD _);have h7:=dw.1 H m i (by omega) u M;omega
   ·subst M;have:t[m].1≠f.1:=λe=>O ⟨u,e⟩
    omega)]
def dx (l:List aN)(f:af):List aN:=if ∃ x∈l,x.1.1=f.1/\¬ bO f x.1 then l else bL (λx=>x.1.1) (f,4) l
theorem uo {l:List aN}{f:af}:dx l f=bif l.any (λx=>x.1.1==f.1&&!decide (bO f x.1)) then l else bL (λx=>x.1.1) (f,4) l:=by
 unfold dx;have:(∃ x∈l,x.1.1=f.1/\¬ bO f x.1)<->l.any (λx=>x.1.1==f.1&&!decide (bO f x.1))=true:=by
  rw[List.any_eq_true];simp
 by_cases h:∃ x∈l,x.1.1=f.1/\¬ bO f x.1
 ·rw[if_pos h,this.1 h];rfl
 ·rw[if_neg h,show l.any (λx=>x.1.1==f.1&&!decide (bO f x.1))=false by rw[Bool.eq_false_iff];exact λr=>h (this.2 r)];rfl
theorem An (K:Nat)(l:List aN)(f:af)(Y:l.length<=1048576)(R:Asc (λx:aN=>x.1.1) l)(X:1048577<K):Q155.f K (l,f,())=some ((dx l f,()),()):=by
 have:=sX (step:=λrec a=>Q155.s0 K (l,f,()) rec a) (λx:aN=>x.1.1) (f,4) l (λx=>x.1.1==f.1&&!decide (bO f x.1)) (some ((l,()),())) (λJ=>some ((J,()),())) (λr d i=>(r,d,(i:Int))) ?_ ?_ l.length 0 K [] false (by omega) (by omega) (by simp) (by simp)
 ·refine DB (this:Q155.f K (l,f,())=_) ?_;rw[CH,uo,lh R];cases l.any (λx=>x.1.1==f.1&&!decide (bO f x.1)) <;> rfl
 ·intro rec r d i M I z;simp only[Q155.s0];rw[bG (by omega:(i:Int)<(BV l:Int)),ag M,aq i (by omega)];simp only[cond_true,BU];have u:decide ((r.length+[((f,4):af×Nat)].length)*40<=ak)=true:=szb _ _ _ (by omega) (by simp;omega);have O:decide (((r++[((f,4):aN)]).length+[l[i]].length)*40<=ak)=true:=szb _ _ _ (by omega) (by simp;omega);have H:decide ((r.length+[l[i]].length)*40<=ak)=true:=szb _ _ _ (by omega) (by simp;omega);by_cases y:l[i].1.1=f.1
  ·rw[show (l[i].1.1==f.1)=true by simpa using y,show (l[i].1.1 != f.1)=false by simpa using y,show decide (f.1<=l[i].1.1)=true from decide_eq_true (by omega)];simp only[cond_true,cond_false,Cj,DG,Dh,B8];rw[show Q57.f K (f,l[i].1,())=_ from pO K f l[i].1];simp only[BU];cases decide (bO f l[i].1) with
   |false=>rfl
   |true =>
    simp only[B6,cond_false];cases d with
    |true=>simp only[B6,cond_false,B8]
    |false =>
     simp only[CO,cond_true];rw[u];rfl
  ·rw[show (l[i].1.1==f.1)=false by simpa using y,show (l[i].1.1 != f.1)=true by simpa using y];simp only[cond_true,cond_false,Cs];cases d with
   |true =>
    simp only[B6,cond_false,Cs,B8,DK];rw[H];rfl
   |false =>
    simp only[CO,cond_true,Cj,C8];cases decide (f.1<=l[i].1.1) with
    |true =>
     simp only[cond_true];rw[u];simp only[cond_true];rw[O];rfl
    |false =>
     simp only[cond_false,B8];rw[H];rfl
 ·intro rec r d I z;simp only[Q155.s0,aZ];cases d with
  |true=>simp only[B6,cond_false,cond_true,B8]
  |false =>
   have:=z rfl;have u:decide ((r.length+[((f,4):af×Nat)].length)*40<=ak)=true:=szb _ _ _ (by omega) (by simp;omega);simp only[CO,cond_true,cond_false];rw[u];rfl
theorem xu (K:Nat)(l:List aN)(f:af)(hl:l.length<=1048576)(R:cV l)(hf:bD f)(Z:1048577<K):Q68.f K (l,f,())=some ((dx l f,()),()):=by
 simp only[Q68.f,Q2.f,Q3.f];obtain⟨b1,e1,e2⟩:=o8 K l hl Z;have a1:=e2.2 R;subst a1;obtain⟨b2,e3,e4⟩:=mh K f;have a0:=e4.2 hf;subst a0;rw[e1];simp only[BU,B6,cond_false];rw[e3];simp only[BU,B6,cond_false];rw[d9 (by omega)];simp only[BU];rw[uT K l hl Z];simp only[BU];have hA:Asc (λg:af=>g.1) (l.map (·.1)):=by
  have:=R.2;unfold Asc at this ⊢;rw[CM];exact this
 have r:(l.map (·.1)).length=l.length:=CB _;obtain⟨m,hm,h1⟩:=sS K (l.map (·.1)) f.1 (by rw[r];exact hl) hA Z;rw[h1];simp only[BU];have y:∀ i (h:i<l.length),(l.map (·.1))[i]'(by rw[r];exact h)=l[i].1:=λi h=>DX _
 have M:=hm.le;rw[r]at M;have lo:∀ i,(u:i<l.length)->i<m->l[i].1.1<f.1:=λi u I=>by have:=hm.lo i (by rw[r];exact u) I;rwa [y i u]at this
 have X:∀ i,(u:i<l.length)->m<=i->f.1<=l[i].1.1:=λi u I=>by have:=hm.hi i (by rw[r];exact u) I;rwa [y i u]at this
 by_cases he:∃ h:m<l.length,l[m].1.1=f.1
 ·obtain⟨z,H⟩:=he;rw[decide_eq_true ⟨by rw[r];exact z,by rw[y m z];exact H⟩];simp only[B6,cond_false,ag z,BU,BY];rw[show Q34.f K (f,l[m].1,())=_ from mU K f l[m].1 Z];simp only[BU];have a2:∀ x∈l,x.1.1=f.1->x=l[m]:=λx J e=>by
   obtain⟨i,u,rfl⟩:=B5 J;have:=oX R.2 u z (by show l[i].1.1=l[m].1.1;rw[e,H]);subst this;rfl
  by_cases Y:bO f l[m].1
  ·rw[decide_eq_true ((jK H.symm).2 Y),dx,if_neg (λ⟨x,J,e,hn⟩=>hn (by rw[a2 x J e];exact Y)),kx (k:=λx:aN=>x.1.1) (x:=(f,4)) R.2 z H];rfl
  ·rw[decide_eq_false (λh=>Y ((jK H.symm).1 h)),dx,if_pos ⟨l[m],BW z,H,Y⟩];rfl
 ·have O:∀ x∈l,x.1.1≠f.1:=λx J e=>by
   obtain⟨i,u,rfl⟩:=B5 J;rcases C3 i m with h|h|h
   ·have:=lo i u h;omega
   ·subst h;exact he ⟨u,e⟩
   ·have h5:=X m (by omega) (CD _);have h6:l[m].1.1<l[i].1.1:=dw.1 R.2 m i (by omega) u h;omega
  rw[decide_eq_false (λ⟨z,H⟩=>he ⟨by rw[r]at z;exact z,by rw[y m (by rw[r]at z;exact z)]at H;exact H⟩),dx,if_neg (λ⟨x,J,e,_⟩=>O x J e)];simp only[CO,cond_true];rw[mX M (by omega) hl];simp only[BU];rw[jo (k:=λx:aN=>x.1.1) (x:=(f,4)) M lo (λi u a3=>by
   have h1:=X i u a3;have z:=O l[i] (BW u);show f.1<l[i].1.1;omega)]
theorem ou {α:Type}{k:α->Int}{x:α}:∀ {r:List α},kf k x true r=r.filter (λy=>k y != k x)
 |[]=>rfl
 |y::r=>by
  simp only[kf,B6,Cs,cond_false,DK,CA,CP];rw[ou];cases k y != k x <;> rfl
theorem uq {α:Type}{k:α->Int}{x:α}{xs:List α}:bL k x (xs.filter λy=>!(k y==k x))=bL k x xs:=by
 simp only[bL,List.filter_filter];congr 1
 ·refine DE λy _=>?_
  by_cases h:k y<k x
  ·rw[decide_eq_true h];simp;omega
  ·rw[decide_eq_false h];rfl
 ·congr 1;refine DE λy _=>?_
  by_cases h:k x<k y
  ·rw[decide_eq_true h];simp;omega
  ·rw[decide_eq_false h];rfl
def mkD (r:Int)(f:af)(b:Int):aY:=(f.1,f.2.1,r,[b])
def cB (r:Int)(ds:List aY)(f:af)(b:Int):List aY:=if f.2.2.1=2 then bL (λd=>d.1) (mkD r f b) ds else ds.filter (λd=>!(d.1==f.1))
theorem Ao (K:Nat)(n:aa)(f:af)(b:Int)(Y:(aa.doubts n).length<=1048576)(R:Asc (λd:aY=>d.1) (aa.doubts n))(X:1048577<K) :
  Q156.f K (n,f,b,())=some ((cB n.2.2.2.2.2.1 (aa.doubts n) f b,()),()):=by
 have:=sX (step:=λrec a=>Q156.s0 K (n,f,b,()) rec a) (λd:aY=>d.1) (mkD n.2.2.2.2.2.1 f b) (aa.doubts n) (λ_=>false) none (λI=>some ((I,()),())) (λr d i=>(r,d,(i:Int))) ?_ ?_ (aa.doubts n).length 0 K [] (f.2.2.1 != 2) (by omega) (by omega) (by simp) (by simp)
 ·refine DB (this:Q156.f K (n,f,b,())=_) ?_;rw[CH,show (aa.doubts n).any (λ_=>false)=false by simp,cB];by_cases u:f.2.2.1=2
  ·rw[if_pos u,show (f.2.2.1 != 2)=false by simpa using u,lh R];rfl
  ·rw[if_neg u,show (f.2.2.1 != 2)=true by simpa using u,ou];rfl
 ·intro rec r d i J H z;simp only[Q156.s0];rw[bG (by omega:(i:Int)<(BV (aa.doubts n):Int)),ag J,aq i (by omega)];simp only[cond_true,cond_false,BU];have y:decide ((r.length+[mkD n.2.2.2.2.2.1 f b].length)*48<=ak)=true:=szb _ _ _ (by omega) (by simp;omega);have M:decide (((r++[mkD n.2.2.2.2.2.1 f b]).length+[(aa.doubts n)[i]].length)*48<=ak)=true:=szb _ _ _ (by omega) (by simp;omega);have O:decide ((r.length+[(aa.doubts n)[i]].length)*48<=ak)=true:=szb _ _ _ (by omega) (by simp;omega);show (bif !d then (bif decide (f.1<=(aa.doubts n)[i].1) then (bif decide ((r.length+[mkD n.2.2.2.2.2.1 f b].length)*48<=ak) then (bif (aa.doubts n)[i].1 != f.1 then (bif decide (((r++[mkD n.2.2.2.2.2.1 f b]).length+[(aa.doubts n)[i]].length)*48<=ak) then (rec ((r++[mkD n.2.2.2.2.2.1 f b])++[(aa.doubts n)[i]],true,((i+1:Nat):Int))) else none) else (rec (r++[mkD n.2.2.2.2.2.1 f b],true,((i+1:Nat):Int)))) else none) else (bif (aa.doubts n)[i].1 != f.1 then (bif decide ((r.length+[(aa.doubts n)[i]].length)*48<=ak) then (rec (r++[(aa.doubts n)[i]],d,((i+1:Nat):Int))) else none) else (rec (r,d,((i+1:Nat):Int))))) else (bif (aa.doubts n)[i].1 != f.1 then (bif decide ((r.length+[(aa.doubts n)[i]].length)*48<=ak) then (rec (r++[(aa.doubts n)[i]],d,((i+1:Nat):Int))) else none) else (rec (r,d,((i+1:Nat):Int)))))=rec ((r++(bif !d&&decide (f.1<=(aa.doubts n)[i].1) then [mkD n.2.2.2.2.2.1 f b] else []))++(bif (aa.doubts n)[i].1 != f.1 then [(aa.doubts n)[i]] else []),d||decide (f.1<=(aa.doubts n)[i].1),((i+1:Nat):Int));rw[y,M,O];cases d <;> cases decide (f.1<=(aa.doubts n)[i].1) <;> cases (aa.doubts n)[i].1 != f.1 <;> simp only[B6,CO,Cj,Cs,DK,C8,cond_true,cond_false,B8]
 ·intro rec r d H z;simp only[Q156.s0,aZ];cases d with
  |true=>simp only[B6,cond_false,cond_true,B8]
  |false =>
   have:=z rfl;have y:decide ((r.length+[mkD n.2.2.2.2.2.1 f b].length)*48<=ak)=true:=szb _ _ _ (by omega) (by simp;omega);show (bif decide ((r.length+[mkD n.2.2.2.2.2.1 f b].length)*48<=ak) then some ((r++[mkD n.2.2.2.2.2.1 f b],()),()) else none)=some ((r++[mkD n.2.2.2.2.2.1 f b],()),());rw[y];rfl
theorem Ap (K:Nat)(t:List aY)(r:Int)(ht:t.length<=1048576)(J:Asc (λd:aY=>d.1) t)(h7:∀ d∈t,InP d.1 0 7)(X:InP r 0 7)(hK:1048577<K) :
  ∃ m,m<=t.length/\(∀ i,(h:i<t.length)->i<m->t[i].1<r)/\(∀ i,(h:i<t.length)->m<=i->r<=t[i].1)/\∃ b,Q71.f K (t,r,(λI=>(Q72.f K (I.1,I.2.1,())).map λy=>y.1.1),())=some ((((m:Nat):Int),b,()),()):=by
 let ks:Nat->Int:=λi=>if h:i<t.length then t[i].1 else 0
 have u:∀ i (h:i<t.length),ks i=t[i].1:=λi h=>by simp[ks,h]
 let z:Nat->Option ((Int×Bool×Unit)×Unit):=λm=>some ((((m:Nat):Int),decide (∃ h:m<t.length,t[m].1=r),()),())
 have Y:∀ d∈t,((Q72.f K (d,r,())).map λy=>y.1.1)=some (d.1-r):=λd hd=>by
  obtain⟨a1,a2⟩:=h7 d hd;obtain⟨a3,a4⟩:=X;simp only[Q72.f];rw[aA (by omega) (by omega)];rfl
 have:=xj (step:=λrec a=>Q71.s0 K (t,r,(λI=>(Q72.f K (I.1,I.2.1,())).map λy=>y.1.1),()) rec a) (ks:=ks) (n:=t.length) (t:=r) z ht
  (λi j O R=>by
   rw[u i (by omega),u j R];exact dw.1 J i j (by omega) R O) ?_ ?_ t.length K 0 t.length (by omega) (CR _) (CD _) (by omega) (λi H=>by omega) (λi H X=>by omega)
 ·obtain⟨m,Z,h2,h3,h4⟩:=this;exact⟨m,Z,λi h H=>by rw[<- u i h];exact h2 i H,λi h H=>by rw[<- u i h];exact h3 i H h,_,h4⟩
 ·intro rec a b a0 hb;have M:(a+b) / 2<t.length:=by omega
  simp only[Q71.s0];rw[decide_eq_true (by omega:(a:Int)<(b:Int)),uQ (by omega)];simp only[cond_true];rw[ag M];simp only[BU,Y _ (BW M)];rw[u _ M,aq _ (by omega)];by_cases h:t[(a+b) / 2].1<r
  ·rw[if_pos h,decide_eq_true (by omega:t[(a+b) / 2].1-r<0)];rfl
  ·rw[if_neg h,decide_eq_false (by omega:¬ t[(a+b) / 2].1-r<0)];rfl
 ·intro rec a ha;simp only[Q71.s0];rw[decide_eq_false (by omega)];simp only[cond_false];by_cases h:a<t.length
  ·rw[decide_eq_true (by omega:(a:Int)<(BV t:Int)),ag h];simp only[cond_true,BU,Y _ (BW h)];have:(t[a].1-r==0)=decide (∃ h:a<t.length,t[a].1=r):=by
    rw[Cf];simp only[beq_iff_eq,decide_eq_true_eq];exact⟨λe=>⟨h,by omega⟩,λ⟨_,e⟩=>by omega⟩
   rw[this]
  ·rw[decide_eq_false (by omega:¬ (a:Int)<(BV t:Int))];simp only[cond_false,z];rw[decide_eq_false (λ⟨h',_⟩=>h h')]
def iZ (n:aa)(t:List af)(c:List aN)(ds:List aY):aa :=
 (n.1,n.2.1,n.2.2.1,n.2.2.2.1,n.2.2.2.2.1,n.2.2.2.2.2.1,n.2.2.2.2.2.2.1,n.2.2.2.2.2.2.2.1,t,c,n.2.2.2.2.2.2.2.2.2.2.1,ds,n.2.2.2.2.2.2.2.2.2.2.2.2)
def i8 (n:aa)(f:af):Bool:=decide (∃ g∈aa.table n,g.1=f.1/\g.2.1=f.2.1/\g.2.2.1=f.2.2.1)
def sayOf (n:aa)(f:af)(b:Int):aa :=
 bif (bW (aa.table n) f).2 then iZ n (bW (aa.table n) f).1 (dx (aa.cast n) f) (bif i8 n f then aa.doubts n else cB n.2.2.2.2.2.1 (aa.doubts n) f b) else n
structure cf (n:aa):Prop where
 table:az (aa.table n)
 cast:cV (aa.cast n)
 asc:Asc (λd:aY=>d.1) (aa.doubts n)
 inp:∀ d∈aa.doubts n,InP d.1 0 7
 lt:(aa.table n).length<=1048576
 lc:(aa.cast n).length<=1048576
 ld:(aa.doubts n).length<=1048576
theorem sZ {n:aa}{f g:af}(u:Asc (λg:af=>g.1) (aa.table n))(r:g∈aa.table n)(e:g.1=f.1):i8 n f=(g.2.1==f.2.1&&g.2.2.1==f.2.2.1):=by
 rw[Cf,i8,decide_eq_true_eq,Cb,beq_iff_eq,beq_iff_eq];constructor
 ·rintro⟨x,hx,h1,h2,h3⟩;have:=fK u hx r (by rw[h1,e]);subst this;exact⟨h2,h3⟩
 ·rintro⟨h1,h2⟩;exact⟨g,r,e,h1,h2⟩
theorem ta {n:aa}{f:af}(h:∀ g∈aa.table n,g.1≠f.1):i8 n f=false :=
 decide_eq_false λ⟨g,r,e,_⟩=>h g r e
theorem pP (K:Nat)(n:aa)(f:af)(b:Int)(h:cf n)(r:1048577<K):Q194.f K (n,f,b,())=some ((sayOf n f b,()),()):=by
 simp only[Q194.f,zcp8];rw[show Q154.f K (n.2.2.2.2.2.2.2.2.1,f,())=_ from put_s K (aa.table n) f h.lt h.table.2 r];simp only[BU];cases z:(bW (aa.table n) f).2 with
 |false =>
  simp only[sayOf,z];rfl
 |true =>
  simp only[sayOf,z,B6,cond_false,cond_true];obtain⟨o,J,M⟩:=fI K (aa.table n) f.1 h.lt r;rw[show Q54.f K (n.2.2.2.2.2.2.2.2.1,f.1,())=_ from M];simp only[BU];have H:=Ao K (n.1,n.2.1,n.2.2.1,n.2.2.2.1,n.2.2.2.2.1,n.2.2.2.2.2.1,n.2.2.2.2.2.2.1,n.2.2.2.2.2.2.2.1,(bW (aa.table n) f).1,dx (aa.cast n) f,n.2.2.2.2.2.2.2.2.2.2) f b h.ld h.asc r;have y:=An K (aa.cast n) f h.lc h.cast.2 r;cases J with
  |at_ i I e =>
   simp only;rw[sZ h.table.2 (BW I) e,decide_eq_true (by omega:((i:Nat):Int)>=0)];simp only[cond_true];rw[show idx n.2.2.2.2.2.2.2.2.1 (i:Int)=some (aa.table n)[i] from ag I];simp only[BU];rw[show Q155.f K (n.2.2.2.2.2.2.2.2.2.1,f,())=_ from y];simp only[BU];rw[H];cases (aa.table n)[i].2.1==f.2.1 with
   |true =>
    cases (aa.table n)[i].2.2.1==f.2.2.1 <;> rfl
   |false=>rfl
  |no u =>
   simp only;rw[ta u,decide_eq_false (by omega:¬ (-1:Int)>=0)];simp only[cond_false];rw[show Q155.f K (n.2.2.2.2.2.2.2.2.2.1,f,())=_ from y];simp only[BU];rw[H];rfl
theorem mj {α:Type}{k:α->Int}{xs:List α}(h:Asc k xs)(p:α->Bool):Asc k (xs.filter p):=Ct p h
theorem Aq {R:Type}(K:Nat)(r:Int)(ds:List aY)(f:af)(b:Int)(G:List aY->Option R)(O:ds.length<=1048576)(hA:Asc (λd:aY=>d.1) ds)(h7:∀ d∈ds,InP d.1 0 7)(hf:bD f)(hK:1048577<K) :
  ((Q4.f K (ds,(λI=>(Q70.f K (I.1,f,())).map λy=>y.1.1),())).bind λJ=>bif f.2.2.1==2 then ((Q71.f K (J.1.1,f.1,(λX=>(Q72.f K (X.1,X.2.1,())).map λy=>y.1.1),())).bind λZ=>(Q5.f K (J.1.1,Z.1.1,[mkD r f b],())).bind λy8=>G y8.1.1) else G J.1.1)=G (cB r ds f b):=by
 rw[show Q4.f K (ds,(λI=>(Q70.f K (I.1,f,())).map λy=>y.1.1),())=some ((ds.filter (λd=>!(d.1==f.1)),()),()) by
  simp only[Q4.f];exact rq _ O (λd _=>rfl)]
 simp only[BU,cB];by_cases z:f.2.2.1=2
 ·rw[if_pos z,show (f.2.2.1==2)=true by simpa using z];simp only[cond_true];have u:(ds.filter (λd=>!(d.1==f.1))).length<=1048576:=CF (CN _ _) O;obtain⟨m,M,lo,hi,b',e⟩:=Ap K (ds.filter (λd=>!(d.1==f.1))) f.1 u (mj hA _) (λd hd=>h7 d (B4.1 hd).1) hf.1 hK;rw[e];simp only[BU];rw[show Q5.f K (ds.filter (λd=>!(d.1==f.1)),(m:Int),[mkD r f b],())=some (((ds.filter (λd=>!(d.1==f.1))).take m++[mkD r f b]++(ds.filter (λd=>!(d.1==f.1))).drop m,()),()) by
   simp only[Q5.f];exact mX M (by omega) u]
  simp only[BU];have:=jo (k:=λd:aY=>d.1) (x:=mkD r f b) M lo (λi h H=>by
   have h1:=hi i h H;have Y:(!((ds.filter (λd=>!(d.1==f.1)))[i].1==f.1))=true:=(B4.1 (BW h)).2;have h4:(ds.filter (λd=>!(d.1==f.1)))[i].1≠f.1:=by simpa using Y
   show f.1<_;omega)
  rw[this];exact congrArg G (uq (k:=λd:aY=>d.1) (x:=mkD r f b))
 ·rw[if_neg z,show (f.2.2.1==2)=false by simpa using z];rfl
theorem zY (K:Nat)(n:aa)(f:af)(b:Int)(h:cf n)(y:bD f)(u:1048577<K):Q73.f K (n,f,b,())=some ((),(sayOf n f b,())):=by
 simp only[Q73.f,zcp8];have J:∃ g:af,∃ z,Q21.f K (aa.table n,f.1,())=some ((g,z,()),())/\i8 n f=(g.2.2.1==f.2.2.1&&g.2.1==f.2.1):=by
  rcases iI K (aa.table n) f.1 h.lt u with ⟨r,_⟩|⟨_,⟨g,X,e,r⟩|⟨M,r⟩⟩
  ·exact absurd h.table r
  ·exact⟨g,_,r,by rw[sZ h.table.2 X e,Bool.and_comm]⟩
  ·refine⟨_,_,r,?_⟩;rw[ta M,show ((0:Int)==f.2.2.1)=false by have:=y.2.2.1;simp;omega];rfl
 obtain⟨g,z,r,R⟩:=J;rw[show Q21.f K (n.2.2.2.2.2.2.2.2.1,f.1,())=_ from r];simp only[BU];rw[show Q67.f K (n.2.2.2.2.2.2.2.2.1,f,())=_ from zX K (aa.table n) f h.lt h.table.2 u];simp only[BU];cases I:(bW (aa.table n) f).2 with
 |false =>
  simp only[sayOf,I];rfl
 |true =>
  simp only[sayOf,I,B6,cond_false,cond_true];rw[show Q68.f K (n.2.2.2.2.2.2.2.2.2.1,f,())=_ from xu K (aa.cast n) f h.lc h.cast y u];simp only[BU];have H:=Aq K n.2.2.2.2.2.1 (aa.doubts n) f b (λO=>some ((),(iZ n (bW (aa.table n) f).1 (dx (aa.cast n) f) O,()))) h.ld h.asc h.inp y u;rw[R];cases g.2.2.1==f.2.2.1 with
  |true =>
   cases g.2.1==f.2.1 with
   |true=>rfl
   |false=>exact H
  |false=>exact H
theorem i9 {α:Type}{k:α->Int}{xs:List α}(h:Asc k xs)(z:∀ x∈xs,InP (k x) 0 7):xs.length<=8:=by
 have:=(jn (xs.map k) [0,1,2,3,4,5,6,7] (by unfold Asc at h;rw[CM];exact h) (by decide) (λy r=>by
  obtain⟨x,u,rfl⟩:=CG.1 r;obtain⟨H,I⟩:=z x u;simp only[CY,List.not_mem_nil,or_false];omega)).1
 rw[CB]at this;exact this
theorem ia (t:List af)(f:af):(bW t f).1=t\/(bW t f).1=bL (λg=>g.1) f t:=by
 unfold bW;split
 ·split
  ·exact .inr rfl
  ·exact .inl rfl
 ·exact .inr rfl
theorem kz {t:List af}{f:af}(h:az t)(r:bD f):az (bW t f).1:=by
 rcases ia t f with e|e
 ·rw[e];exact h
 ·rw[e];refine⟨λg y=>?_,fy h.2⟩;rcases bd.1 y with rfl|⟨u,_⟩
  ·exact r
  ·exact h.1 g u
theorem pQ {l:List aN}{f:af}(h:cV l)(r:bD f):cV (dx l f):=by
 unfold dx;split
 ·exact h
 ·refine⟨λx y=>?_,fy h.2⟩;rcases bd.1 y with rfl|⟨u,_⟩
  ·exact⟨r,show (1:Int)<=4 by omega,show (4:Int)<=4 by omega⟩
  ·exact h.1 x u
theorem kA {r:Int}{ds:List aY}{f:af}{b:Int}{d:aY}(h:d∈cB r ds f b):d=mkD r f b\/d∈ds:=by
 unfold cB at h;split at h
 ·rcases bd.1 h with h|h
  ·exact .inl h
  ·exact .inr h.1
 ·exact .inr (B4.1 h).1
theorem tc {r:Int}{ds:List aY}{f:af}{b:Int}(h:Asc (λd:aY=>d.1) ds):Asc (λd:aY=>d.1) (cB r ds f b):=by
 unfold cB;split
 ·exact fy h
 ·exact mj h _
theorem iN (n:aa)(f:af)(b:Int):∃ t c r,sayOf n f b=iZ n t c r/\(t=aa.table n\/t=(bW (aa.table n) f).1)/\(c=aa.cast n\/c=dx (aa.cast n) f)/\(r=aa.doubts n\/r=cB n.2.2.2.2.2.1 (aa.doubts n) f b):=by
 unfold sayOf;cases (bW (aa.table n) f).2 with
 |false=>exact⟨aa.table n,aa.cast n,aa.doubts n,rfl,.inl rfl,.inl rfl,.inl rfl⟩
 |true =>
  cases i8 n f with
  |true=>exact⟨_,_,_,rfl,.inr rfl,.inr rfl,.inl rfl⟩
  |false=>exact⟨_,_,_,rfl,.inr rfl,.inr rfl,.inr rfl⟩
theorem cf.mk' {n:aa}(r:az (aa.table n))(u:cV (aa.cast n))(y:Asc (λd:aY=>d.1) (aa.doubts n))(z:∀ d∈aa.doubts n,InP d.1 0 7):cf n where
 table:=r
 cast:=u
 asc:=y
 inp:=z
 lt:=CF (i9 r.2 (λg H=>(r.1 g H).1)) (by decide)
 lc:=CF (i9 u.2 (λx I=>(u.1 x I).1.1)) (by decide)
 ld:=CF (i9 y z) (by decide)
theorem jp {n:aa}{f:af}{b:Int}(h:cf n)(r:bD f):cf (sayOf n f b):=by
 obtain⟨t,c,z,e,H,I,y⟩:=iN n f b;rw[e];refine cf.mk' ?_ ?_ ?_ ?_
 ·show az t;rcases H with rfl|rfl
  ·exact h.table
  ·exact kz h.table r
 ·show cV c;rcases I with rfl|rfl
  ·exact h.cast
  ·exact pQ h.cast r
 ·show Asc _ z;rcases y with rfl|rfl
  ·exact h.asc
  ·exact tc h.asc
 ·show ∀ d∈z,InP d.1 0 7;rcases y with rfl|rfl
  ·exact h.inp
  ·intro d u;rcases kA u with rfl|u
   ·exact r.1
   ·exact h.inp d u
theorem yY {n:aa}{f:af}{b:Int}(h:∀ d∈aa.doubts n,d.2.2.2.length<=1048576):∀ d∈aa.doubts (sayOf n f b),d.2.2.2.length<=1048576:=by
 obtain⟨t,c,y,e,_,_,u⟩:=iN n f b;rw[e];show ∀ d∈y,_;rcases u with rfl|rfl
 ·exact h
 ·intro d r;rcases kA r with rfl|r
  ·exact Nat.succ_le_of_lt (by decide)
  ·exact h d r
theorem UpP.say {n:aa}(h:UpP n):cf n:=by
 obtain⟨r,_,_,⟨z,_⟩,_,u,_⟩:=h;refine cf.mk' r z u.2.1 λd H=>?_
 obtain⟨f,y,e,_⟩:=(u.1 d H).1;rw[<- e];exact (r.1 f y).1
theorem lM {α β A R:Type}(t:List α)(p:α->Bool)(g:α->β)(S:List β->Nat->A)(u:List β->Option R){step:(A->Option R)->A->Option R}
  (h:∀ (rec:A->Option R) (r:List β) (i:Nat) (M:i<t.length),r.length<=i->step rec (S r i)=rec (S (bif p t[i] then r++[g t[i]] else r) (i+1)))
  (z:∀ (rec:A->Option R) (r:List β),r.length<=t.length->step rec (S r t.length)=u r) {k:Nat} (I:t.length<k) :
  ae step k (S [] 0)=u ((t.filter p).map g):=by
 have:∀ (d i k:Nat) (r:List β),i+d=t.length->d<k->r.length<=i->ae step k (S r i)=u (r++((t.drop i).filter p).map g):=by
  intro d;induction d with
  |zero =>
   intro i k r M I H;obtain⟨k,rfl⟩:∃ J,k=J+1:=⟨k-1,by omega⟩;have:i=t.length:=by omega
   subst this;show step (ae step k) _=_;rw[z _ _ H];simp
  |succ d O =>
   intro i k r M I H;obtain⟨k,rfl⟩:∃ J,k=J+1:=⟨k-1,by omega⟩;have y:i<t.length:=by omega
   show step (ae step k) _=_;rw[h _ _ _ y H,CL y,CP];cases p t[i] with
   |true =>
    simp only[cond_true,if_true,DF];rw[O (i+1) k _ (by omega) (by omega) (by simp;omega),CV];rfl
   |false =>
    simp only[cond_false];rw[O (i+1) k _ (by omega) (by omega) (by omega)];rfl
 have:=this t.length 0 k [] (by omega) I (CD _)
 rwa [CH,CA]at this
theorem szw (a b c:Nat)(r:c<=128)(h:a+b<=2097152):decide ((a+b)*c<=ak)=true:=by
 have:=Cz h r;exact decide_eq_true (by unfold ak;omega)
def kS (n:aa):aa:=(n.1,n.2.1,true,n.2.2.2)
def nW (r:Int)(n:aa)(to:Int):ar:=(1,r,n.1,to,0,n.1,aa.coord n,aa.table n)
theorem uW (K:Nat)(n:aa)(r to:Int)(u:(aa.table n).length<=1048576):Q101.f K (n,r,to,())=some ((nW r n to,()),()):=by
 simp only[Q101.f,zcp4,Q81.f,BU,Q0.f];rw[d9 (by show (aa.table n).length*_<=_;omega)];rfl
theorem nX (K:Nat)(n:aa)(r to:Int)(u:(aa.table n).length<=1048576):Q153.f K (n,r,to,0,n.1,aa.table n,())=some ((nW r n to,()),()):=by
 simp only[Q153.f];rw[szb _ _ _ (by omega) (by show (BV ([]:List af))+(aa.table n).length<=_;simp;omega)];rfl
def cK (f:af):Bool:=f.2.2.1==1||f.2.2.1==2
theorem uX (K:Nat)(t:List af)(f:af)(J:az t)(I:t.length<=1048576)(r:f∈t)(z:1048577<K):Q196.f K (t,f.1,())=rb (cK f):=by
 simp only[Q196.f];obtain⟨o,y,H⟩:=fI K t f.1 I z;rw[H];simp only[BU];cases y with
 |at_ i u e =>
  simp only;rw[decide_eq_true (by omega:((i:Nat):Int)>=0),ag u];simp only[cond_true,BU];rw[fK J.2 (BW u) r e,cK];cases f.2.2.1==1 <;> rfl
 |no h=>exact absurd rfl (h f r)
def td (n:aa)(f:af):Bool:=f.1 != n.1&&cK f
def lN (n:aa):List ar:=((aa.table n).filter (td n)).map λf=>nW 5 n f.1
def mY (n:aa):aa:=kS (sayOf n (n.1,n.2.2.2.2.1,4,n.2.2.2.1) n.1)
theorem te (K:Nat)(x:ab Q212.ps)(m:aa)(J:az (aa.table m))(u:(aa.table m).length<=1048576)(z:1048577<K) :
  Q212.l0 K x ([],0,m.1,m.2.1,m.2.2.2.1,m.2.2.2.2.1,m.2.2.2.2.2.1,m.2.2.2.2.2.2.1,m.2.2.2.2.2.2.2.1,m.2.2.2.2.2.2.2.2.1,m.2.2.2.2.2.2.2.2.2.1,m.2.2.2.2.2.2.2.2.2.2.1.1,m.2.2.2.2.2.2.2.2.2.2.1.2.1,m.2.2.2.2.2.2.2.2.2.2.1.2.2.1,m.2.2.2.2.2.2.2.2.2.2.1.2.2.2,m.2.2.2.2.2.2.2.2.2.2.2.1,m.2.2.2.2.2.2.2.2.2.2.2.2.1.1,m.2.2.2.2.2.2.2.2.2.2.2.2.1.2.1,m.2.2.2.2.2.2.2.2.2.2.2.2.1.2.2.1,m.2.2.2.2.2.2.2.2.2.2.2.2.1.2.2.2,m.2.2.2.2.2.2.2.2.2.2.2.2.2.1,m.2.2.2.2.2.2.2.2.2.2.2.2.2.2)=some ((kS m,lN (kS m),()),()):=by
 refine lM (step:=λrec a=>Q212.s0 K x rec a) (aa.table m) (td (kS m)) (λf=>nW 5 (kS m) f.1) (λr i=>(r,(i:Int),m.1,m.2.1,m.2.2.2.1,m.2.2.2.2.1,m.2.2.2.2.2.1,m.2.2.2.2.2.2.1,m.2.2.2.2.2.2.2.1,m.2.2.2.2.2.2.2.2.1,m.2.2.2.2.2.2.2.2.2.1,m.2.2.2.2.2.2.2.2.2.2.1.1,m.2.2.2.2.2.2.2.2.2.2.1.2.1,m.2.2.2.2.2.2.2.2.2.2.1.2.2.1,m.2.2.2.2.2.2.2.2.2.2.1.2.2.2,m.2.2.2.2.2.2.2.2.2.2.2.1,m.2.2.2.2.2.2.2.2.2.2.2.2.1.1,m.2.2.2.2.2.2.2.2.2.2.2.2.1.2.1,m.2.2.2.2.2.2.2.2.2.2.2.2.1.2.2.1,m.2.2.2.2.2.2.2.2.2.2.2.2.1.2.2.2,m.2.2.2.2.2.2.2.2.2.2.2.2.2.1,m.2.2.2.2.2.2.2.2.2.2.2.2.2.2)) (λH=>some ((kS m,H,()),())) ?_ ?_ (by omega)
 ·intro rec r i y I;simp only[Q212.s0,zceae5f];rw[show decide ((i:Int)<(BV m.2.2.2.2.2.2.2.2.1:Int))=true from bG (by omega:(i:Int)<(BV (aa.table m):Int)),show idx m.2.2.2.2.2.2.2.2.1 (i:Int)=some (aa.table m)[i] from ag y,aq i (by omega)];simp only[cond_true,BU,td];rw[show (kS m).1=m.1 from rfl];cases M:(aa.table m)[i].1 != m.1 with
  |false=>rfl
  |true =>
   simp only[cond_true,Cj];rw[show Q196.f K (m.2.2.2.2.2.2.2.2.1,(aa.table m)[i].1,())=_ from uX K (aa.table m) _ J u (BW y) z];simp only[BU];cases cK (aa.table m)[i] with
   |false=>rfl
   |true =>
    simp only[cond_true];refine (congrArg (λo=>CZ o _) (nX K (kS m) 5 (aa.table m)[i].1 u)).trans ?_;simp only[BU];rw[szw _ _ _ (by omega) (by simp;omega)];rfl
 ·intro rec r I;simp only[Q212.s0,zceae5f];rw[show decide ((BV (aa.table m):Int)<(BV m.2.2.2.2.2.2.2.2.1:Int))=false from aZ _];rfl
theorem vO {n:aa}(r:gn n):bD (n.1,n.2.2.2.2.1,4,n.2.2.2.1):=⟨r.1,r.2.2.2.2.1,show (1:Int)<=4 by omega,show (4:Int)<=4 by omega⟩
theorem Ar (K:Nat)(n:aa)(J:NB n)(y:gn n)(H:n.2.1=true)(I:n.2.2.1=false)(r:1048577<K):Q212.f K (n,())=some ((mY n,lN (mY n),()),()):=by
 have z:=(y.up H).say;have u:=jp (b:=n.1) z (vO y);simp only[Q212.f,Q212.pre];rw[H,I];simp only[B6,cond_false];rw[pP K n _ n.1 z r];exact te K _ _ u.table u.lt r
theorem kT {α r A R:Type}(ds:List α)(st:r->α->r)(Inv:r->Prop)(S:r->Nat->A)(u:r->Option R){step:(A->Option R)->A->Option R}(n:r)(X:Inv n)
  (h:∀ (rec:A->Option R) (m:r) (i:Nat) (M:i<ds.length),Inv m->step rec (S m i)=rec (S (st m ds[i]) (i+1))/\Inv (st m ds[i]))
  (z:∀ (rec:A->Option R) (m:r),Inv m->step rec (S m ds.length)=u m) {k:Nat} (I:ds.length<k):ae step k (S n 0)=u (ds.foldl st n):=by
 have:∀ (d i k:Nat) (m:r),i+d=ds.length->d<k->Inv m->ae step k (S m i)=u ((ds.drop i).foldl st m):=by
  intro d;induction d with
  |zero =>
   intro i k m M I H;obtain⟨k,rfl⟩:∃ J,k=J+1:=⟨k-1,by omega⟩;have:i=ds.length:=by omega
   subst this;show step (ae step k) _=_;rw[z _ _ H,DH];rfl
  |succ d Z =>
   intro i k m M I H;obtain⟨k,rfl⟩:∃ J,k=J+1:=⟨k-1,by omega⟩;have y:i<ds.length:=by omega
   show step (ae step k) _=_;obtain⟨O,Y⟩:=h (ae step k) m i y H;rw[O,CL y];exact Z (i+1) k _ (by omega) (by omega) Y
 have:=this ds.length 0 k n (by omega) I X
 rwa [CH]at this
theorem kD {α r:Type}{st:r->α->r}{Inv:r->Prop}:∀ {ds:List α} {n:r},Inv n->(∀ m,∀ d∈ds,Inv m->Inv (st m d))->Inv (ds.foldl st n)
 |[],_,h,_=>h
 |d::ds,n,h,y=>kD (ds:=ds) (y n d (by simp) h) (λm z u=>y m z (by simp[u]))
def aB (t:List af)(r:Int):af:=(t.find? λg=>g.1==r).getD (0,0,0,false)
theorem jL {t:List af}(u:Asc (λg:af=>g.1) t){f:af}(r:f∈t):aB t f.1=f:=by
 obtain⟨i,y,e⟩:=B5 r;unfold aB;rw[show t.find? (λg=>g.1==f.1)=some t[i] from pa u y (by rw[e]),e];rfl
theorem jM {t:List af}{r:Int}(h:∀ g∈t,g.1≠r):aB t r=(0,0,0,false):=by
 unfold aB;rw[show t.find? (λg=>g.1==r)=none from nV h];rfl
theorem ja (K:Nat)(t:List af)(r:Int)(y:az t)(H:t.length<=1048576)(z:1048577<K):∃ b,Q21.f K (t,r,())=some ((aB t r,b,()),()):=by
 rcases iI K t r H z with ⟨u,_⟩|⟨_,⟨g,J,e,u⟩|⟨I,u⟩⟩
 ·exact absurd y u
 ·refine⟨true,?_⟩;rw[u,<- e,jL y.2 J]
 ·refine⟨false,?_⟩;rw[u,jM I]
theorem tf (K:Nat)(t:List af)(r:Int)(H:az t)(I:t.length<=1048576)(z:1048577<K):Q196.f K (t,r,())=rb (cK (aB t r)):=by
 by_cases h:∃ f∈t,f.1=r
 ·obtain⟨f,y,rfl⟩:=h;rw[uX K t f H I y z,jL H.2 y]
 ·have u:∀ g∈t,g.1≠r:=λg O e=>h ⟨g,O,e⟩
  simp only[Q196.f];obtain⟨o,M,J⟩:=fI K t r I z;rw[J,jM u];cases M with
  |at_ i R e=>exact absurd e (u _ (BW R))
  |no _=>rfl
theorem tg (K:Nat)(n:aa)(r:Int)(J:az (aa.table n))(I:(aa.table n).length<=1048576)(y:1048577<K):Q79.f K (n,r,())=rb (cK (aB (aa.table n) r)):=by
 simp only[Q79.f,Q78.f];obtain⟨b,u⟩:=ja K (aa.table n) r J I y;rw[show Q21.f K (n.2.2.2.2.2.2.2.2.1,r,())=_ from u];simp only[BU];obtain⟨b,z,H⟩:=fH K (aB (aa.table n) r).2.2.1 1 2;rw[z];have:b=cK (aB (aa.table n) r):=by
  rw[Cf,H,cK,Bool.or_eq_true,beq_iff_eq,beq_iff_eq];show (1<=(aB (aa.table n) r).2.2.1/\(aB (aa.table n) r).2.2.1<=2)<->_;omega
 rw[this];rfl
theorem c6 (n:aa)(f:af)(b:Int):(sayOf n f b).1=n.1/\(sayOf n f b).2.1=n.2.1/\(sayOf n f b).2.2.1=n.2.2.1/\(sayOf n f b).2.2.2.1=n.2.2.2.1/\(sayOf n f b).2.2.2.2.1=n.2.2.2.2.1/\(sayOf n f b).2.2.2.2.2.1=n.2.2.2.2.2.1/\(sayOf n f b).2.2.2.2.2.2.1=n.2.2.2.2.2.2.1/\(sayOf n f b).2.2.2.2.2.2.2.1=n.2.2.2.2.2.2.2.1/\aa.probe (sayOf n f b)=aa.probe n/\(sayOf n f b).2.2.2.2.2.2.2.2.2.2.2.2=n.2.2.2.2.2.2.2.2.2.2.2.2:=by
 obtain⟨t,c,r,e,_⟩:=iN n f b;rw[e];exact⟨rfl,rfl,rfl,rfl,rfl,rfl,rfl,rfl,rfl,rfl⟩
theorem mZ {t:List af}{f g:af}(r:g∈t):∃ u∈(bW t f).1,u.1=g.1:=by
 rcases ia t f with e|e
 ·rw[e];exact⟨g,r,rfl⟩
 ·rw[e];by_cases h:g.1=f.1
  ·exact⟨f,bd.2 (.inl rfl),h.symm⟩
  ·exact⟨g,bd.2 (.inr ⟨r,h⟩),rfl⟩
theorem iO {n:aa}{f:af}{b:Int}{g:af}(r:g∈aa.table n):∃ y∈aa.table (sayOf n f b),y.1=g.1:=by
 obtain⟨t,c,z,e,u,_⟩:=iN n f b;rw[e];rcases u with rfl|rfl
 ·exact⟨g,r,rfl⟩
 ·exact mZ r
def eR (u r:Int)(len:Nat):Bool:=decide (u-r>=if 6-(len:Int)+1<3 then 3 else 6-(len:Int)+1)
def fU (f:af):af:=(f.1,f.2.1,3,f.2.2.2)
def aQ (n:aa)(d:aY):aa:=bif eR n.2.2.2.2.2.1 d.2.2.1 d.2.2.2.length then sayOf n (fU (aB (aa.table n) d.1)) n.1 else n
def cl (n:aa):aa:=(aa.doubts n).foldl aQ n
theorem due_s (K:Nat)(r:Int)(d:aY)(z:0<=d.2.2.1)(u:d.2.2.1<=r)(y:r<=1000000)(H:d.2.2.2.length<=1048576):Q193.f K (r,d,())=rb (eR r d.2.2.1 d.2.2.2.length):=by
 simp only[Q193.f];rw[aA (n:=6-(BV d.2.2.2:Int)) (by omega) (by omega),aA (n:=6-(BV d.2.2.2:Int)+1) (by omega) (by omega),aA (n:=r-d.2.2.1) (by omega) (by omega)];unfold eR;by_cases h:6-(BV d.2.2.2:Int)+1<3
 ·rw[decide_eq_true h,if_pos h];rfl
 ·rw[decide_eq_false h,if_neg h];rfl
theorem At (K:Nat)(a b c:Int)(len:Nat)(r:len<=1048576):Q66.f K ((a,b,c,len),())=some ((if 6-(len:Int)+1<3 then 3 else 6-(len:Int)+1,()),()):=by
 simp only[Q66.f];rw[aA (n:=6-(len:Int)) (by omega) (by omega),aA (n:=6-(len:Int)+1) (by omega) (by omega)];by_cases h:6-(len:Int)+1<3
 ·rw[decide_eq_true h,if_pos h];rfl
 ·rw[decide_eq_false h,if_neg h];rfl
structure jN (ds:List aY) (now:Int) (n:aa):Prop where
 ok:cf n
 key:∀ d∈ds,∃ f∈aa.table n,f.1=d.1
 now_:n.2.2.2.2.2.1=now
theorem lO {f:af}(h:bD f):bD (fU f):=⟨h.1,h.2.1,show (1:Int)<=3 by omega,show (3:Int)<=4 by omega⟩
theorem cm {t:List af}{r:Int}(y:az t)(h:∃ f∈t,f.1=r):bD (aB t r)/\(aB t r).1=r/\aB t r∈t:=by
 obtain⟨f,u,rfl⟩:=h;rw[jL y.2 u];exact⟨y.1 f u,rfl,u⟩
theorem li {ds:List aY}{r:Int}{n:aa}{d:aY}(h:jN ds r n)(J:d∈ds):jN ds r (aQ n d):=by
 unfold aQ;cases eR n.2.2.2.2.2.1 d.2.2.1 d.2.2.2.length with
 |false=>exact h
 |true =>
  have H:=lO (cm h.ok.table (h.key d J)).1;refine⟨jp h.ok H,λO y=>?_,(c6 n _ _).2.2.2.2.2.1.trans h.now_⟩;obtain⟨g,z,e⟩:=h.key O y;obtain⟨I,u,M⟩:=iO (f:=fU (aB (aa.table n) d.1)) (b:=n.1) z;exact⟨I,u,M.trans e⟩
theorem xv (K:Nat)(n:aa)(h:jN (aa.doubts n) n.2.2.2.2.2.1 n)(hd:∀ d∈aa.doubts n,0<=d.2.2.1/\d.2.2.1<=n.2.2.2.2.2.1/\d.2.2.2.length<=1048576)(z:n.2.2.2.2.2.1<=1000000)(R:1048577<K):Q195.f K (n,())=some ((cl n,()),()):=by
 have hl:=h.ok.ld;refine kT (step:=λrec a=>Q195.s0 K (n,()) rec a) (aa.doubts n) aQ (jN (aa.doubts n) n.2.2.2.2.2.1) (λm i=>((i:Int),m.1,m.2.1,m.2.2.1,m.2.2.2.1,m.2.2.2.2.1,m.2.2.2.2.2.1,m.2.2.2.2.2.2.1,m.2.2.2.2.2.2.2.1,m.2.2.2.2.2.2.2.2.1,m.2.2.2.2.2.2.2.2.2.1,m.2.2.2.2.2.2.2.2.2.2.1.1,m.2.2.2.2.2.2.2.2.2.2.1.2.1,m.2.2.2.2.2.2.2.2.2.2.1.2.2.1,m.2.2.2.2.2.2.2.2.2.2.1.2.2.2,m.2.2.2.2.2.2.2.2.2.2.2.1,m.2.2.2.2.2.2.2.2.2.2.2.2.1.1,m.2.2.2.2.2.2.2.2.2.2.2.2.1.2.1,m.2.2.2.2.2.2.2.2.2.2.2.2.1.2.2.1,m.2.2.2.2.2.2.2.2.2.2.2.2.1.2.2.2,m.2.2.2.2.2.2.2.2.2.2.2.2.2.1,m.2.2.2.2.2.2.2.2.2.2.2.2.2.2)) (λm=>some ((m,()),())) n h ?_ ?_ (by omega)
 ·intro rec m i H u;refine⟨?_,li u (BW H)⟩;simp only[Q195.s0,zc286a0,zc3ec45];obtain⟨I,M,J⟩:=hd _ (BW H);rw[show decide ((i:Int)<(BV n.2.2.2.2.2.2.2.2.2.2.2.1:Int))=true from bG (by omega:(i:Int)<(BV (aa.doubts n):Int)),show idx n.2.2.2.2.2.2.2.2.2.2.2.1 (i:Int)=some (aa.doubts n)[i] from ag H,aq i (by omega)];simp only[cond_true,BU];rw[due_s K m.2.2.2.2.2.1 (aa.doubts n)[i] I (by rw[u.now_];exact M) (by rw[u.now_];exact z) J];simp only[BU];have r:=u.key _ (BW H);generalize (aa.doubts n)[i]=d at r I M J ⊢;unfold aQ;cases eR m.2.2.2.2.2.1 d.2.2.1 d.2.2.2.length with
  |false=>rfl
  |true =>
   simp only[cond_true];have y:=cm u.ok.table r;obtain⟨o,Z,X⟩:=fI K (aa.table m) d.1 u.ok.lt R;rw[show Q54.f K (m.2.2.2.2.2.2.2.2.1,d.1,())=_ from X];simp only[BU];cases Z with
   |no h=>exact absurd r (λ⟨f,Y,e⟩=>h f Y e)
   |at_ j O e =>
    simp only;rw[show idx m.2.2.2.2.2.2.2.2.1 ((j:Nat):Int)=some (aa.table m)[j] from ag O,fK u.ok.table.2 (BW O) y.2.2 (by rw[e,y.2.1])];simp only[BU];refine (congrArg (λo=>CZ o _) (pP K m (fU (aB (aa.table m) d.1)) m.1 u.ok R)).trans ?_;rfl
 ·intro rec m u;simp only[Q195.s0,zc286a0,zc3ec45];rw[show decide ((BV (aa.doubts n):Int)<(BV n.2.2.2.2.2.2.2.2.2.2.2.1:Int))=false from aZ _];rfl
theorem Bn (K:Nat)(n:aa)(h:jN (aa.doubts n) n.2.2.2.2.2.1 n)(hd:∀ d∈aa.doubts n,0<=d.2.2.1/\d.2.2.1<=n.2.2.2.2.2.1/\d.2.2.2.length<=1048576)(Z:n.2.2.2.2.2.1<=1000000)(Y:1048577<K):Q74.f K (n,())=some ((),(cl n,())):=by
 have hl:=h.ok.ld;simp only[Q74.f,Q74.pre,zc3ec45];have hc:∃ r:List (Int×Int×Int×Nat),r=(aa.doubts n).map (λd=>(d.1,d.2.1,d.2.2.1,d.2.2.2.length))/\Q7.f K (aa.doubts n,())=some ((r,()),()):=by
  refine⟨_,rfl,?_⟩;simp only[Q7.f,qx];rw[d9 (by omega)];rfl
 obtain⟨r,I,e⟩:=hc;rw[show Q7.f K (n.2.2.2.2.2.2.2.2.2.2.2.1,())=_ from e];simp only[BU];have H:r.length=(aa.doubts n).length:=by rw[I,CB]
 have M:∀ i (y:i<(aa.doubts n).length),r[i]'(by rw[H];exact y)=((aa.doubts n)[i].1,(aa.doubts n)[i].2.1,(aa.doubts n)[i].2.2.1,(aa.doubts n)[i].2.2.2.length):=λi y=>by
  simp only[I,DX]
 clear I;refine kT (step:=λrec a=>Q74.s0 K (n,()) rec a) (aa.doubts n) aQ (jN (aa.doubts n) n.2.2.2.2.2.1) (λm i=>(r,(BV r:Int),(i:Int),m.1,m.2.1,m.2.2.1,m.2.2.2.1,m.2.2.2.2.1,m.2.2.2.2.2.1,m.2.2.2.2.2.2.1,m.2.2.2.2.2.2.2.1,m.2.2.2.2.2.2.2.2.1,m.2.2.2.2.2.2.2.2.2.1,m.2.2.2.2.2.2.2.2.2.2.1.1,m.2.2.2.2.2.2.2.2.2.2.1.2.1,m.2.2.2.2.2.2.2.2.2.2.1.2.2.1,m.2.2.2.2.2.2.2.2.2.2.1.2.2.2,m.2.2.2.2.2.2.2.2.2.2.2.1,m.2.2.2.2.2.2.2.2.2.2.2.2.1.1,m.2.2.2.2.2.2.2.2.2.2.2.2.1.2.1,m.2.2.2.2.2.2.2.2.2.2.2.2.1.2.2.1,m.2.2.2.2.2.2.2.2.2.2.2.2.1.2.2.2,m.2.2.2.2.2.2.2.2.2.2.2.2.2.1,m.2.2.2.2.2.2.2.2.2.2.2.2.2.2)) (λm=>some ((),(m,()))) n h ?_ ?_ (by omega)
 ·intro rec m i y u;refine⟨?_,li u (BW y)⟩;simp only[Q74.s0,zc286a0,zc3ec45];have O:i<r.length:=by rw[H];exact y
  obtain⟨d0,d1,X⟩:=hd _ (BW y);rw[bG (by omega:(i:Int)<(BV r:Int)),ag O,aq i (by omega),BY,ag O,M i y];simp only[cond_true,BU];have z:=u.key _ (BW y);generalize (aa.doubts n)[i]=d at z d0 d1 X ⊢;rw[At K d.1 d.2.1 d.2.2.1 d.2.2.2.length X];simp only[BU];have a0:=u.now_;rw[aA (n:=m.2.2.2.2.2.1-d.2.2.1) (by omega) (by omega)];have J:decide (m.2.2.2.2.2.1-d.2.2.1<if 6-(BV d.2.2.2:Int)+1<3 then 3 else 6-(BV d.2.2.2:Int)+1)=!eR m.2.2.2.2.2.1 d.2.2.1 d.2.2.2.length:=by
   unfold eR;rw[Cf];simp
  rw[show decide (m.2.2.2.2.2.1-d.2.2.1<(if 6-(BV d.2.2.2:Int)+1<3 then 3 else 6-(BV d.2.2.2:Int)+1:Int))=_ from J];unfold aQ;cases eR m.2.2.2.2.2.1 d.2.2.1 d.2.2.2.length with
  |false=>rfl
  |true =>
   simp only[B6,cond_false,cond_true];have R:=cm u.ok.table z;obtain⟨b,hw⟩:=ja K (aa.table m) d.1 u.ok.table u.ok.lt Y;rw[show Q21.f K (m.2.2.2.2.2.2.2.2.1,d.1,())=_ from hw];simp only[BU];refine (congrArg (λo=>CZ o _) (zY K m (fU (aB (aa.table m) d.1)) m.1 u.ok (lO R.1) Y)).trans ?_;rfl
 ·intro rec m u;simp only[Q74.s0,zc286a0,zc3ec45];rw[<- H,aZ];rfl
def setP (n:aa)(p:af):aa:=(n.1,n.2.1,n.2.2.1,n.2.2.2.1,n.2.2.2.2.1,n.2.2.2.2.2.1,n.2.2.2.2.2.2.1,n.2.2.2.2.2.2.2.1,n.2.2.2.2.2.2.2.2.1,n.2.2.2.2.2.2.2.2.2.1,p,n.2.2.2.2.2.2.2.2.2.2.2)
def noP:af:=(-1,0,0,false)
def ml (f:af):af:=(f.1,f.2.1,2,f.2.2.2)
def pR (n:aa)(f:af):Bool:=f.2.2.1==1&&f.1 != n.1&&f.1 != (aa.probe n).1
def cL (n:aa):List Int:=(((aa.table n).filter (pR n)).map (·.1)).take 2
def askW (n:aa)(to:Int):ar:=(1,3,n.1,to,(aa.probe n).2.2.1,(aa.probe n).1,aa.coord n,[])
def jO (n:aa):aa:=setP n ((aa.probe n).1,(aa.probe n).2.1,(aa.probe n).2.2.1,true)
def aS (n:aa):aa×List ar :=
 bif (aa.probe n).1==-1 then (n,[]) else
 bif !cK (aB (aa.table n) (aa.probe n).1) then (setP n noP,[]) else
 bif decide (n.2.2.2.2.2.1-(aa.probe n).2.1>=4) then (bif (aB (aa.table n) (aa.probe n).1).2.2.1==1 then sayOf (setP n noP) (ml (aB (aa.table n) (aa.probe n).1)) n.1 else setP n noP,[]) else
 bif decide (n.2.2.2.2.2.1-(aa.probe n).2.1>=2) then (bif !(aa.probe n).2.2.2 then (jO n,(cL n).map (askW n)) else (n,[])) else (n,[])
theorem cf.setP {n:aa}(h:cf n)(p:af):cf (setP n p):=⟨h.table,h.cast,h.asc,h.inp,h.lt,h.lc,h.ld⟩
theorem qF {f:af}(h:bD f):bD (ml f):=⟨h.1,h.2.1,show (1:Int)<=2 by omega,show (2:Int)<=4 by omega⟩
theorem eC {t:List af}{r:Int}(h:cK (aB t r)=true):∃ f∈t,f.1=r:=by
 by_cases u:∃ f∈t,f.1=r
 ·exact u
 ·rw[jM (λg y e=>u ⟨g,y,e⟩)]at h;simp[cK]at h
theorem xw (K:Nat)(n:aa)(J:(aa.table n).length<=1048576)(I:1048577<K):Q197.f K (n,())=some ((cL n,()),()):=by
 have:=lg (step:=λrec a=>Q197.s0 K (n,()) rec a) (aa.table n) (pR n) (λf=>f.1) 2 (λy=>some ((y,()),())) ?_ ?_ ?_ (aa.table n).length 0 K [] (by omega) (by omega) (CD _) (by simp)
 ·exact this
 ·intro rec r i u z H;simp only[Q197.s0];rw[show decide ((i:Int)<(BV n.2.2.2.2.2.2.2.2.1:Int))=true from bG (by omega:(i:Int)<(BV (aa.table n):Int)),show idx n.2.2.2.2.2.2.2.2.1 (i:Int)=some (aa.table n)[i] from ag u,aq i (by omega),decide_eq_true (by omega:(BV r:Int)<2)];simp only[cond_true,BU,pR];show (bif (aa.table n)[i].1 != n.1 then (bif (aa.table n)[i].1 != (aa.probe n).1 then (bif (aa.table n)[i].2.2.1==1 then (bif decide ((BV r+BV ([(aa.table n)[i].1]))*8<=ak) then (rec (r++([(aa.table n)[i].1]),((i+1:Nat):Int))) else none) else (rec (r,((i+1:Nat):Int)))) else (rec (r,((i+1:Nat):Int)))) else (rec (r,((i+1:Nat):Int))))=_;rw[szb _ _ _ (by omega) (by simp;omega)];cases (aa.table n)[i].1 != n.1 <;> cases (aa.table n)[i].1 != (aa.probe n).1 <;> cases (aa.table n)[i].2.2.1==1 <;> rfl
 ·intro rec r i u z H;simp only[Q197.s0];rw[show decide ((i:Int)<(BV n.2.2.2.2.2.2.2.2.1:Int))=true from bG (by omega:(i:Int)<(BV (aa.table n):Int)),decide_eq_false (by omega:¬ (BV r:Int)<2)];rfl
 ·intro rec r _;simp only[Q197.s0];rw[show decide ((BV (aa.table n):Int)<(BV n.2.2.2.2.2.2.2.2.1:Int))=false from aZ _];rfl
theorem xx (K:Nat)(n m:aa)(p:af)(J:aa.table m=aa.table n/\m.1=n.1)(I:p=aa.probe n)(r:(aa.table n).length<=1048576)(z:1048577<K) :
  ((Q77.f K (aa.table n,(λu=>(Q80.f K (u.1,m,p,())).map λy=>y.1.1),())).bind λH=>Q76.f K (H.1.1,2,()))=some ((cL n,()),()):=by
 rw[qE K (aa.table n) _ (pR n) r z (λf _=>by
  simp only[Q80.f,pR];rw[J.2,I];cases f.2.2.1==1 <;> cases f.1 != n.1 <;> cases f.1 != (aa.probe n).1 <;> rfl)]
 simp only[BU];rw[qD K _ 2 (by rw[CB];exact CF (CN _ _) r)];rfl
theorem yZ (K:Nat)(n:aa)(h:cf n)(h0:0<=(aa.probe n).2.1)(h1:(aa.probe n).2.1<=1000000)(R:0<=n.2.2.2.2.2.1)(Y:n.2.2.2.2.2.1<=1000000)(u:1048577<K) :
  Q82.f K (n,())=some (((aS n).2,()),((aS n).1,())):=by
 simp only[Q82.f,Q82.pre,zcp8];obtain⟨b,M⟩:=ja K (aa.table n) (aa.probe n).1 h.table h.lt u;rw[show Q21.f K (n.2.2.2.2.2.2.2.2.1,n.2.2.2.2.2.2.2.2.2.2.1.1,())=_ from M];simp only[BU,aS];show (bif (aa.probe n).1==-1 then _ else _)=_;cases (aa.probe n).1==-1 with
 |true=>rfl
 |false =>
  simp only[cond_false];rw[show Q79.f K (n,n.2.2.2.2.2.2.2.2.2.2.1.1,())=_ from tg K n (aa.probe n).1 h.table h.lt u];simp only[BU];cases hl:cK (aB (aa.table n) (aa.probe n).1) with
  |false=>rfl
  |true =>
   have Z:=cm h.table (eC hl);simp only[B6,cond_false];rw[aA (n:=n.2.2.2.2.2.1-n.2.2.2.2.2.2.2.2.2.2.1.2.1) (by show -9223372036854775808<=n.2.2.2.2.2.1-(aa.probe n).2.1;omega) (by show n.2.2.2.2.2.1-(aa.probe n).2.1<=9223372036854775807;omega)];show (bif decide (n.2.2.2.2.2.1-(aa.probe n).2.1>=4) then _ else _)=_;cases decide (n.2.2.2.2.2.1-(aa.probe n).2.1>=4) with
   |true =>
    simp only[cond_true];cases (aB (aa.table n) (aa.probe n).1).2.2.1==1 with
    |true =>
     simp only[cond_true];refine (congrArg (λo=>CZ o _) (zY K (setP n noP) (ml (aB (aa.table n) (aa.probe n).1)) n.1 (h.setP noP) (qF Z.1) u)).trans ?_;rfl
    |false=>rfl
   |false =>
    simp only[cond_false];show (bif decide (n.2.2.2.2.2.1-(aa.probe n).2.1>=2) then _ else _)=_;cases decide (n.2.2.2.2.2.1-(aa.probe n).2.1>=2) with
    |false=>rfl
    |true =>
     simp only[cond_true];show (bif !(aa.probe n).2.2.2 then _ else _)=_;cases J:(aa.probe n).2.2.2 with
     |true=>rfl
     |false =>
      simp only[CO,cond_true];have hh:=xx K n (jO n) (aa.probe n) ⟨rfl,rfl⟩ rfl h.lt u;obtain⟨y,O,z⟩:=Option.bind_eq_some_iff.1 hh;refine (congrArg (λo=>CZ o _) O).trans ?_;simp only[BU];rw[z];simp only[BU];have I:(cL n).length<=2:=Ck _ _;refine DB (lM (step:=λrec a=>Q82.s0 K (n,()) rec a) (cL n) (λ_=>true) (askW n) (λr i=>(r,cL n,(BV (cL n):Int),(i:Int))) (λX=>some ((X,()),(jO n,()))) ?_ ?_ (by omega)) (by rw[CW.2 (λ_ _=>rfl)])
      ·intro rec r i H ha;simp only[Q82.s0,zcp4,zcp8];rw[bG (by omega:(i:Int)<(BV (cL n):Int)),ag H,aq i (by omega),BY,ag H];simp only[cond_true,BU,Q81.f];rw[szw _ _ _ (by omega) (by simp;omega)];rfl
      ·intro rec r ha;simp only[Q82.s0,zcp4,zcp8,aZ];rfl
theorem xy (K:Nat)(n:aa)(h:cf n)(hp:(aa.probe n).1≠-1)(h0:0<=(aa.probe n).2.1)(h1:(aa.probe n).2.1<=1000000)(R:0<=n.2.2.2.2.2.1)(Y:n.2.2.2.2.2.1<=1000000)(y:1048577<K) :
  Q198.f K (n,())=some (((aS n).1,(aS n).2,()),()):=by
 simp only[Q198.f,Q198.pre,zcp8,aS];rw[show ((aa.probe n).1==-1)=false by simpa using hp];simp only[cond_false];rw[show Q196.f K (n.2.2.2.2.2.2.2.2.1,n.2.2.2.2.2.2.2.2.2.2.1.1,())=_ from tf K (aa.table n) (aa.probe n).1 h.table h.lt y];simp only[BU];cases O:cK (aB (aa.table n) (aa.probe n).1) with
 |false=>rfl
 |true =>
  have u:=cm h.table (eC O);simp only[B6,cond_false];rw[aA (n:=n.2.2.2.2.2.1-n.2.2.2.2.2.2.2.2.2.2.1.2.1) (by show -9223372036854775808<=n.2.2.2.2.2.1-(aa.probe n).2.1;omega) (by show n.2.2.2.2.2.1-(aa.probe n).2.1<=9223372036854775807;omega)];show (bif decide (n.2.2.2.2.2.1-(aa.probe n).2.1>=4) then _ else _)=_;cases decide (n.2.2.2.2.2.1-(aa.probe n).2.1>=4) with
  |true =>
   simp only[cond_true];obtain⟨o,ho,e1⟩:=fI K (aa.table n) (aa.probe n).1 h.lt y;rw[show Q54.f K (n.2.2.2.2.2.2.2.2.1,n.2.2.2.2.2.2.2.2.2.2.1.1,())=_ from e1];simp only[BU];cases ho with
   |no z=>exact absurd (eC O) (λ⟨f,u,e⟩=>z f u e)
   |at_ j H e =>
    simp only;rw[show idx n.2.2.2.2.2.2.2.2.1 ((j:Nat):Int)=some (aa.table n)[j] from ag H,fK h.table.2 (BW H) u.2.2 (by rw[e,u.2.1])];simp only[BU];cases (aB (aa.table n) (aa.probe n).1).2.2.1==1 with
    |true =>
     simp only[cond_true];refine (congrArg (λo=>CZ o _) (pP K (setP n noP) (ml (aB (aa.table n) (aa.probe n).1)) n.1 (h.setP noP) y)).trans ?_;rfl
    |false=>rfl
  |false =>
   simp only[cond_false];show (bif decide (n.2.2.2.2.2.1-(aa.probe n).2.1>=2) then _ else _)=_;cases decide (n.2.2.2.2.2.1-(aa.probe n).2.1>=2) with
   |false=>rfl
   |true =>
    simp only[cond_true];show (bif !(aa.probe n).2.2.2 then _ else _)=_;cases M:(aa.probe n).2.2.2 with
    |true=>rfl
    |false =>
     simp only[CO,cond_true];refine (congrArg (λo=>CZ o _) (xw K (jO n) h.lt y)).trans ?_;simp only[BU];rw[show cL (jO n)=cL n from rfl];have J:(cL n).length<=2:=Ck _ _;refine DB (lM (step:=λrec a=>Q198.s0 K (n,()) rec a) (cL n) (λ_=>true) (askW n) (λr i=>(r,cL n,(i:Int))) (λX=>some ((jO n,X,()),())) ?_ ?_ (by omega)) (by rw[CW.2 (λ_ _=>rfl)])
     ·intro rec r i I Z;simp only[Q198.s0,zcp8];rw[bG (by omega:(i:Int)<(BV (cL n):Int)),ag I,aq i (by omega),BY,ag I];simp only[cond_true,BU,Q153.f];rw[szb _ _ _ (by omega) (by simp)];simp only[cond_true,BU];rw[szw _ _ _ (by omega) (by simp;omega)];rfl
     ·intro rec r Z;simp only[Q198.s0,zcp8,aZ];rfl
def it (n:aa)(i:Int):aa:=(n.1,n.2.1,n.2.2.1,n.2.2.2.1,i,n.2.2.2.2.2)
def fV (n:aa)(f:af):aa:=bif decide (bO f (aB (aa.table n) n.1))&&decide (f.2.1<999) then sayOf (it n (f.2.1+1)) (n.1,f.2.1+1,1,n.2.2.2.1) n.1 else n
def eu (f:af)(b:Int)(d:aY):aY:=bif d.1==f.1&&d.2.1==f.2.1&&f.2.2.1==2 then (d.1,d.2.1,d.2.2.1,bL (λx:Int=>x) b d.2.2.2) else d
def kU (n:aa)(f:af)(b:Int):aa:=iZ n (aa.table n) (aa.cast n) ((aa.doubts n).map (eu f b))
def eE (b:Int)(n:aa)(f:af):aa:=bif f.1==n.1 then fV n f else kU (sayOf n f b) f b
def jq (n:aa)(t:List af)(b:Int):aa:=t.foldl (eE b) n
def mm (l:List Int):Prop:=Asc (λx:Int=>x) l/\∀ x∈l,InP x 0 7
theorem mm.len {l:List Int}(h:mm l):l.length<=8:=i9 h.1 h.2
theorem mm.put {l:List Int}{b:Int}(h:mm l)(u:InP b 0 7):mm (bL (λx:Int=>x) b l) :=
 ⟨fy h.1,λx r=>by
  rcases bd.1 r with rfl|⟨r,_⟩
  ·exact u
  ·exact h.2 x r⟩
structure eL (n:aa):Prop where
 say:cf n
 me:InP n.1 0 7
 has:∃ g∈aa.table n,g.1=n.1
 by_:∀ d∈aa.doubts n,mm d.2.2.2
theorem cf.inc {n:aa}(h:cf n)(i:Int):cf (it n i):=⟨h.table,h.cast,h.asc,h.inp,h.lt,h.lc,h.ld⟩
theorem mn {n:aa}{f:af}{b:Int}(z:InP b 0 7)(h:∀ d∈aa.doubts n,mm d.2.2.2):∀ d∈aa.doubts (sayOf n f b),mm d.2.2.2:=by
 obtain⟨t,c,H,e,_,_,y⟩:=iN n f b;rw[e];intro d r;have r:d∈H:=r;rcases y with rfl|rfl
 ·exact h d r
 ·rcases kA r with rfl|r
  ·exact⟨DI _ _,λx u=>by rw[CU.1 u];exact z⟩
  ·exact h d r
theorem uY {n:aa}{f:af}(u:InP n.1 0 7)(r:bD f)(h:f.2.1<999):bD (n.1,f.2.1+1,1,n.2.2.2.1):=by
 obtain⟨_,⟨y,z⟩,_⟩:=r;exact⟨u,⟨show (0:Int)<=f.2.1+1 by omega,show f.2.1+1<=999 by omega⟩,show (1:Int)<=1 by omega,show (1:Int)<=4 by omega⟩
theorem eL.refute {n:aa}{f:af}(h:eL n)(H:bD f):eL (fV n f):=by
 unfold fV;cases y:decide (bO f (aB (aa.table n) n.1))&&decide (f.2.1<999) with
 |false=>exact h
 |true =>
  have M:f.2.1<999:=by
   rw[Cb]at y;exact of_decide_eq_true y.2
  obtain⟨z,_⟩:=c6 (it n (f.2.1+1)) (n.1,f.2.1+1,1,n.2.2.2.1) n.1;refine⟨jp (h.say.inc _) (uY h.me H M),?_,?_,mn h.me h.by_⟩
  ·show InP (sayOf (it n (f.2.1+1)) (n.1,f.2.1+1,1,n.2.2.2.1) n.1).1 0 7;rw[z];exact h.me
  ·obtain⟨g,J,e⟩:=h.has;obtain⟨u,r,I⟩:=iO (n:=it n (f.2.1+1)) (f:=(n.1,f.2.1+1,1,n.2.2.2.1)) (b:=n.1) (g:=g) J;refine⟨u,r,?_⟩;show u.1=(sayOf (it n (f.2.1+1)) (n.1,f.2.1+1,1,n.2.2.2.1) n.1).1;rw[z,I,e];rfl
theorem eL.confirm {n:aa}{f:af}{b:Int}(h:eL n)(X:bD f)(O:InP b 0 7):eL (kU (sayOf n f b) f b):=by
 have u:=jp (b:=b) h.say X;obtain⟨M,_⟩:=c6 n f b;have z:=mn (f:=f) O h.by_;obtain⟨g,Y,e⟩:=h.has;obtain⟨R,H,Z⟩:=iO (n:=n) (f:=f) (b:=b) Y;have I:∀ d,(eu f b d).1=d.1:=λd=>by unfold eu;cases d.1==f.1&&d.2.1==f.2.1&&f.2.2.1==2 <;> rfl
 refine⟨⟨u.table,u.cast,?_,λd J=>?_,u.lt,u.lc,?_⟩,?_,⟨R,H,?_⟩,λd J=>?_⟩
 ·show Asc (λd:aY=>d.1) ((aa.doubts (sayOf n f b)).map (eu f b));unfold Asc;rw[CM];exact u.asc.imp λ {a c} h=>by show (eu f b a).1<(eu f b c).1;rw[I,I];exact h
 ·obtain⟨y,r,rfl⟩:=CG.1 J;rw[I];exact u.inp y r
 ·show ((aa.doubts (sayOf n f b)).map (eu f b)).length<=_;rw[CB];exact u.ld
 ·show InP (sayOf n f b).1 0 7;rw[M];exact h.me
 ·show R.1=(sayOf n f b).1;rw[M,Z,e]
 ·obtain⟨y,r,rfl⟩:=CG.1 J;unfold eu;cases y.1==f.1&&y.2.1==f.2.1&&f.2.2.1==2 with
  |false=>exact z y r
  |true=>exact (z y r).put O
theorem eL.step {n:aa}{f:af}{b:Int}(h:eL n)(r:bD f)(u:InP b 0 7):eL (eE b n f):=by
 unfold eE;cases f.1==n.1 with
 |true=>exact h.refute r
 |false=>exact h.confirm r u
theorem za {α A R:Type}(ds:List α)(g:α->α)(S:List α->Nat->A)(u:List α->Option R){step:(A->Option R)->A->Option R}
  (h:∀ (rec:A->Option R) (cur:List α) (i:Nat) (X:i<ds.length),cur.length=ds.length->cur[i]?=some ds[i]->step rec (S cur i)=rec (S (cur.set i (g ds[i])) (i+1)))
  (z:∀ (rec:A->Option R) (cur:List α),cur.length=ds.length->step rec (S cur ds.length)=u cur) {k:Nat} (J:ds.length<k):ae step k (S ds 0)=u (ds.map g):=by
 have:∀ (d i k:Nat) (cur:List α),i+d=ds.length->d<k->cur.length=ds.length->(∀ j,(r:j<ds.length)->cur[j]?=some (if j<i then g ds[j] else ds[j]))->ae step k (S cur i)=u (ds.map g):=by
  intro d;induction d with
  |zero =>
   intro i k cur X J I H;obtain⟨k,rfl⟩:∃ M,k=M+1:=⟨k-1,by omega⟩;have:i=ds.length:=by omega
   subst this;show step (ae step k) _=_;rw[z _ _ I];congr 1;refine List.ext_getElem? λj=>?_
   rw[List.getElem?_map];by_cases r:j<ds.length
   ·rw[H j r,if_pos r,B9 r];rfl
   ·rw[Cp (by omega),Cp (by omega)];rfl
  |succ d Y =>
   intro i k cur X J I H;obtain⟨k,rfl⟩:∃ M,k=M+1:=⟨k-1,by omega⟩;have y:i<ds.length:=by omega
   show step (ae step k) _=_;rw[h (ae step k) cur i y I (by rw[H i y,if_neg (by omega)])];refine Y (i+1) k _ (by omega) (by omega) (by rw[DN,I]) λj r=>?_
   rw[List.getElem?_set];by_cases e:i=j
   ·subst e;rw[if_pos rfl,if_pos (by omega),if_pos (by omega)]
   ·rw[if_neg e,H j r];by_cases O:j<i
    ·rw[if_pos O,if_pos (by omega)]
    ·rw[if_neg O,if_neg (by omega)]
 exact this ds.length 0 k ds (by omega) J rfl (λj r=>by rw[if_neg (by omega),B9 r])
theorem th {α:Type}{cur:List α}{i:Nat}{x:α}(h:cur[i]?=some x):cur.set i x=cur:=by
 obtain⟨r,e⟩:=List.getElem?_eq_some_iff.1 h;rw[<- e,List.set_getElem_self]
theorem tj {by_:List Int}{b:Int}{m:Nat}(y:m<=by_.length)(z:by_.length<=8){R:Type}(G:List Int->Option R) :
  (bif decide ((0:Int)<=0)&&decide ((0:Int)<=(m:Int))&&decide ((m:Int)<=(BV by_:Int))&&true then (bif decide ((BV ([]:List Int)+BV ((by_.take (BX (m:Int))).drop (BX 0)))*8<=ak) then (bif decide ((BV ([]++((by_.take (BX (m:Int))).drop (BX 0)))+BV ([b]))*8<=ak) then (bif decide ((0:Int)<=(m:Int))&&decide ((m:Int)<=(BV by_:Int))&&decide ((BV by_:Int)<=(BV by_:Int))&&true then (bif decide ((BV (([]++((by_.take (BX (m:Int))).drop (BX 0)))++([b]))+BV ((by_.take (BX (BV by_:Int))).drop (BX (m:Int))))*8<=ak) then G ((([]++((by_.take (BX (m:Int))).drop (BX 0)))++([b]))++((by_.take (BX (BV by_:Int))).drop (BX (m:Int)))) else none) else none) else none) else none) else none)=G (by_.take m++[b]++by_.drop m):=by
 rw[decide_eq_true (by omega:(0:Int)<=0),decide_eq_true (by omega:(0:Int)<=(m:Int)),decide_eq_true (by omega:(m:Int)<=(BV by_:Int)),decide_eq_true (by omega:(BV by_:Int)<=(BV by_:Int))];simp only[BY,Cr,CH,CA,Cv,Co,cond_true];have r:(by_.take m).length=m:=by rw[CE];omega
 have u:(by_.drop m).length=by_.length-m:=CQ;rw[szb _ _ _ (by omega) (by simp only[B7];omega),szb _ _ _ (by omega) (by simp only[B3,B7];omega),szb _ _ _ (by omega) (by simp only[CC,B3,B7];omega)];rfl
theorem xz (K:Nat)(n:aa)(f:af)(b:Int)(hd:∀ d∈aa.doubts n,mm d.2.2.2)(hl:(aa.doubts n).length<=1048576)(hK:1048577<K):Q159.f K (n,f,b,())=some ((kU n f b,()),()):=by
 simp only[Q159.f,Q159.pre];refine za (step:=λrec a=>Q159.s0 K (n,f,b,()) (Q159.l1 K (n,f,b,()) rec) rec a) (aa.doubts n) (eu f b) (λu i=>((i:Int),u)) (λu=>some ((iZ n (aa.table n) (aa.cast n) u,()),())) ?_ ?_ (by omega)
 ·intro rec u i hi X I;have M:i<u.length:=by omega
  have a2:u[i]=(aa.doubts n)[i]:=by
   rw[B9 M]at I;exact Option.some.inj I
  have R:=hd _ (BW hi);simp only[Q159.s0,zcp8];rw[bG (by omega:(i:Int)<(BV u:Int)),ag M,aq i (by omega),BY,ag M,a2];simp only[cond_true,BU];generalize a7:(aa.doubts n)[i]=d at R I ⊢;have y:rec (((i+1:Nat):Int),u)=rec (((i+1:Nat):Int),u.set i d):=by rw[th I]
  unfold eu;by_cases h1:d.1=f.1
  case neg =>
   rw[show (d.1 != f.1)=true by simpa using h1,show (d.1==f.1)=false by simpa using h1];exact y
  by_cases h2:d.2.1=f.2.1
  case neg =>
   rw[show (d.1 != f.1)=false by simpa using h1,show (d.2.1 != f.2.1)=true by simpa using h2,show (d.2.1==f.2.1)=false by simpa using h2,DR];exact y
  by_cases h3:f.2.2.1=2
  case neg =>
   rw[show (d.1 != f.1)=false by simpa using h1,show (d.2.1 != f.2.1)=false by simpa using h2,show (f.2.2.1 != 2)=true by simpa using h3,show (f.2.2.1==2)=false by simpa using h3,DR];exact y
  rw[show (d.1 != f.1)=false by simpa using h1,show (d.2.1 != f.2.1)=false by simpa using h2,show (f.2.2.1 != 2)=false by simpa using h3,show (d.1==f.1)=true by simpa using h1,show (d.2.1==f.2.1)=true by simpa using h2,show (f.2.2.1==2)=true by simpa using h3];simp only[cond_false,Co,cond_true];have a0:=R.len;have a1:∀ m:Nat,m<=d.2.2.2.length->(∀ j,(J:j<d.2.2.2.length)->j<m->d.2.2.2[j]<b)->(∀ j,(J:j<d.2.2.2.length)->m<=j->b<d.2.2.2[j])->d.2.2.2.take m++[b]++d.2.2.2.drop m=bL (λx:Int=>x) b d.2.2.2:=λm Y lo hi=>jo (k:=λx:Int=>x) Y lo hi
  have:=bS (step:=λr a=>Q159.s1 K (n,f,b,()) rec r a) d.2.2.2.length (λj=>((i:Int),(j:Int),u,d.1,d.2.1,d.2.2.1,d.2.2.2)) (λj=>∃ h:j<d.2.2.2.length,¬ d.2.2.2[j]<b)
   (rec (((i+1:Nat):Int),u.set i (d.1,d.2.1,d.2.2.1,d.2.2.2.take d.2.2.2.length++[b]++d.2.2.2.drop d.2.2.2.length)))
   (λj=>if h:j<d.2.2.2.length then (if d.2.2.2[j]=b then rec (((i+1:Nat):Int),u) else rec (((i+1:Nat):Int),u.set i (d.1,d.2.1,d.2.2.1,d.2.2.2.take j++[b]++d.2.2.2.drop j))) else none) ?_ ?_ d.2.2.2.length K 0 (by omega) (by omega)
  ·rcases this with ⟨a3,he⟩|⟨j,_,J,⟨Z,a8⟩,a5,he⟩
   ·refine DB he ?_;rw[a1 _ (CD _) (λj J _=>by
     by_cases O:d.2.2.2[j]<b
     ·exact O
     ·exact absurd ⟨J,O⟩ (a3 j (CR _) J)) (λj J Y=>by omega)]
   ·refine DB he ?_;rw[dif_pos Z];have lo:∀ m,(Y:m<d.2.2.2.length)->m<j->d.2.2.2[m]<b:=λm Y a6=>by
     by_cases O:d.2.2.2[m]<b
     ·exact O
     ·exact absurd ⟨Y,O⟩ (a5 m (CR _) a6)
    by_cases H:d.2.2.2[j]=b
    ·rw[if_pos H,<- kx (k:=λx:Int=>x) R.1 Z H];rw[show d.2.2.2.set j b=d.2.2.2 from th (by rw[B9 Z,H])];exact y
    ·rw[if_neg H,a1 j (by omega) lo (λm Y a4=>by
      rcases Cc a4 with h4|rfl
      ·have:=dw.1 R.1 j m (by omega) Y h4;omega
      ·omega)]
  ·intro r j J;simp only[Q159.s1];rw[bG (by omega:(j:Int)<(BV d.2.2.2:Int)),ag J,aq j (by omega)];simp only[cond_true,BU];by_cases O:d.2.2.2[j]<b
   ·left;refine⟨λ⟨_,h⟩=>h O,?_⟩;rw[decide_eq_true O];rfl
   ·right;refine⟨⟨J,O⟩,?_⟩;rw[decide_eq_false O,show ((j:Int)==(BV d.2.2.2:Int))=false by simp;omega,dif_pos J];simp only[cond_false];by_cases H:d.2.2.2[j]=b
    ·rw[if_pos H,show (d.2.2.2[j] != b)=false by simpa using H,aq i (by omega)];rfl
    ·rw[if_neg H,show (d.2.2.2[j] != b)=true by simpa using H];simp only[cond_true];refine (tj (m:=j) (b:=b) (Nat.le_of_lt J) a0 (λz=>(idx u (i:Int)).bind λ_=>(idx u (BX (i:Int):Nat)).bind λ_=>rec (wr .i64 ((i:Int)+1),u.set (BX (i:Int)) (d.1,(d.2.1,(d.2.2.1,z)))))).trans ?_;rw[BY,ag M,aq i (by omega)];rfl
  ·intro r;simp only[Q159.s1];rw[aZ];simp only[cond_false,beq_self_eq_true,cond_true];refine (tj (b:=b) (CD _) a0 (λz=>(idx u (i:Int)).bind λ_=>(idx u (BX (i:Int):Nat)).bind λ_=>rec (wr .i64 ((i:Int)+1),u.set (BX (i:Int)) (d.1,(d.2.1,(d.2.2.1,z)))))).trans ?_;rw[BY,ag M,aq i (by omega)];rfl
 ·intro rec u X;simp only[Q159.s0,zcp8];rw[<- X,aZ];rfl
theorem zb (K:Nat)(n:aa)(f:af)(h:eL n)(J:bD f)(z:1048577<K):Q158.f K (n,f,())=some ((fV n f,()),()):=by
 simp only[Q158.f,zcp4];have r:=cm h.say.table h.has;obtain⟨o,M,I⟩:=fI K (aa.table n) n.1 h.say.lt z;rw[show Q54.f K (n.2.2.2.2.2.2.2.2.1,n.1,())=_ from I];simp only[BU];cases M with
 |no u=>exact absurd h.has (λ⟨g,O,e⟩=>u g O e)
 |at_ j y e =>
  simp only;rw[show idx n.2.2.2.2.2.2.2.2.1 ((j:Nat):Int)=some (aa.table n)[j] from ag y,fK h.say.table.2 (BW y) r.2.2 (by rw[e,r.2.1])];simp only[BU];rw[pO];obtain⟨_,⟨X,R⟩,_⟩:=J;simp only[rb,BU,fV];cases decide (bO f (aB (aa.table n) n.1)) with
  |false=>rfl
  |true =>
   simp only[B6,cond_false,Cj];by_cases H:f.2.1<999
   ·rw[decide_eq_false (by omega:¬ f.2.1>=999),decide_eq_true H,aA (by omega) (by omega)];simp only[cond_false,cond_true];refine (congrArg (λo=>CZ o _) (pP K (it n (f.2.1+1)) (n.1,f.2.1+1,1,n.2.2.2.1) n.1 (h.say.inc _) z)).trans ?_;rfl
   ·rw[decide_eq_true (by omega:f.2.1>=999),decide_eq_false H];rfl
theorem uZ (K:Nat)(n:aa)(t:List af)(b:Int)(h:eL n)(I:∀ f∈t,bD f)(J:t.length<=1048576)(z:InP b 0 7)(y:1048577<K):Q160.f K (n,t,b,())=some ((jq n t b,()),()):=by
 refine kT (step:=λrec a=>Q160.s0 K (n,t,b,()) rec a) t (eE b) eL (λm i=>((i:Int),m.1,m.2.1,m.2.2.1,m.2.2.2.1,m.2.2.2.2.1,m.2.2.2.2.2.1,m.2.2.2.2.2.2.1,m.2.2.2.2.2.2.2.1,m.2.2.2.2.2.2.2.2.1,m.2.2.2.2.2.2.2.2.2.1,m.2.2.2.2.2.2.2.2.2.2.1.1,m.2.2.2.2.2.2.2.2.2.2.1.2.1,m.2.2.2.2.2.2.2.2.2.2.1.2.2.1,m.2.2.2.2.2.2.2.2.2.2.1.2.2.2,m.2.2.2.2.2.2.2.2.2.2.2.1,m.2.2.2.2.2.2.2.2.2.2.2.2.1.1,m.2.2.2.2.2.2.2.2.2.2.2.2.1.2.1,m.2.2.2.2.2.2.2.2.2.2.2.2.1.2.2.1,m.2.2.2.2.2.2.2.2.2.2.2.2.1.2.2.2,m.2.2.2.2.2.2.2.2.2.2.2.2.2.1,m.2.2.2.2.2.2.2.2.2.2.2.2.2.2)) (λm=>some ((m,()),())) n h ?_ ?_ (by omega)
 ·intro rec m i H r;have u:=I _ (BW H);refine⟨?_,r.step u z⟩;simp only[Q160.s0,zc286a0,zc3ec45];rw[bG (by omega:(i:Int)<(BV t:Int)),ag H,aq i (by omega)];simp only[cond_true,BU];generalize t[i]=f at u ⊢;unfold eE;cases f.1==m.1 with
  |true =>
   simp only[cond_true];refine (congrArg (λo=>CZ o _) (zb K m f r u y)).trans ?_;rfl
  |false =>
   simp only[cond_false];refine (congrArg (λo=>CZ o _) (pP K m f b r.say y)).trans ?_;simp only[BU];rw[xz K (sayOf m f b) f b (mn z r.by_) (jp r.say u).ld y];rfl
 ·intro rec m r;simp only[Q160.s0,zc286a0,zc3ec45];rw[aZ];rfl
def dC {α:Type}(r:α->α->Bool)(x:α):List α->List α->List α
 |[],B=>x::B
 |y::A,B=>bif r x y then dC r x A (y::B) else (y::A).reverse++x::B
def cW {α:Type}(r:α->α->Bool):List α->List α->List α
 |done,[]=>done
 |done,x::u=>cW r (dC r x done.reverse []) u
theorem pb {α:Type}(r:α->α->Bool)(x:α):∀ (A B C:List α),dC r x A (B++C)=dC r x A B++C
 |[],B,C=>rfl
 |y::A,B,C=>by
  simp only[dC];cases r x y with
  |true=>exact pb r x A (y::B) C
  |false=>simp
theorem pc {α:Type}(r:α->α->Bool)(x:α):∀ (A B:List α),(dC r x A B).length=A.length+B.length+1
 |[],B=>by simp[dC]
 |y::A,B=>by
  simp only[dC];cases r x y with
  |true=>simp only[cond_true];rw[pc r x A (y::B)];simp;omega
  |false=>simp;omega
theorem m7 {α:Type}(r:α->α->Bool)(x:α):∀ (A B:List α),(dC r x A B).Perm (x::(A.reverse++B))
 |[],B=>by simp[dC]
 |y::A,B=>by
  simp only[dC];cases r x y with
  |true=>exact (m7 r x A (y::B)).trans (by simp)
  |false=>simp only[cond_false];exact DY
theorem mo {α:Type}(r:α->α->Bool):∀ (xs done:List α),(cW r done xs).Perm (done++xs)
 |[],done=>by simp[cW]
 |x::xs,done=>by
  simp only[cW];refine (mo r xs _).trans ?_;have:=m7 r x done.reverse [];simp only[CJ,B8]at this;exact (this.append_right xs).trans (by simpa using (DY (a:=x) (l₁:=done) (l₂:=xs)).symm)
def jW {α:Type}(r:α->α->Bool)(xs:List α):Prop:=xs.Pairwise λa b=>r b a=false
theorem lj {α:Type}(r:α->α->Bool)(I:∀ a b c,r a b=false->r b c=false->r a c=false)(x:α) :
  ∀ (A B:List α),jW r A.reverse->dC r x A B=(A.reverse.filter λy=>!r x y)++x::((A.reverse.filter λy=>r x y)++B)
 |[],B,_=>rfl
 |y::A,B,h=>by
  simp only[dC];have O:jW r A.reverse:=by
   unfold jW at h ⊢;rw[Ci,Cg]at h;exact h.1
  cases z:r x y with
  |true =>
   simp only[cond_true];rw[lj r I x A (y::B) O];simp[z,Cm]
  |false =>
   have H:∀ a∈A.reverse,r x a=false:=λa u=>by
    unfold jW at h;rw[Ci,Cg]at h;exact I x y a z (h.2.2 a u y (by simp))
   simp only[cond_false];have J:(y::A).reverse.filter (λy=>!r x y)=(y::A).reverse:=CW.2 λa u=>by
    rw[Ci,Ce,CU]at u;rcases u with u|rfl
    ·rw[H a u];rfl
    ·rw[z];rfl
   have M:(y::A).reverse.filter (λy=>r x y)=[]:=Cn.2 λa u=>by
    rw[Ci,Ce,CU]at u;rcases u with u|rfl
    ·rw[H a u];simp
    ·rw[z];simp
   rw[J,M];rfl
theorem vP {α:Type}(r:α->α->Bool)(I:∀ a b c,r a b=false->r b c=false->r a c=false)(u:∀ a b,r a b=true->r b a=false)(x:α)(A:List α)(h:jW r A):jW r (dC r x A.reverse []):=by
 rw[lj r I x A.reverse [] (by rwa [CJ])];unfold jW at h ⊢;simp only[CJ,B8];rw[Cg];refine⟨h.filter _,?_,?_⟩
 ·rw[CI];refine⟨λa y=>?_,h.filter _⟩;exact u _ _ (by simpa using (B4.1 y).2)
 ·intro a y b z;have H:r x a=false:=by simpa using (B4.1 y).2
  rcases CY.1 z with rfl|z
  ·exact H
  ·have J:r x b=true:=by simpa using (B4.1 z).2
   exact I b x a (u _ _ J) H
theorem m8 {α:Type}(r:α->α->Bool)(y:∀ a b c,r a b=false->r b c=false->r a c=false)(u:∀ a b,r a b=true->r b a=false):∀ (xs done:List α),jW r done->jW r (cW r done xs)
 |[],done,h=>h
 |x::xs,done,h=>m8 r y u xs _ (vP r y u x done h)
theorem ov {α:Type}(O:α->α->Bool):∀ {H u:List α},H.Perm u->jW O H->u.Pairwise (λa b=>O a b=true)->H=u
 |H,[],r,_,_=>r.eq_nil
 |[],z::u,r,_,_=>absurd r.symm.eq_nil (by simp)
 |y::H,z::u,r,I,J=>by
  unfold jW at I;rw[CI]at I J;have e:y=z:=by
   rcases CY.1 (r.mem_iff.1 (DV ..)) with h|h
   ·exact h
   ·have R:=J.1 y h;rcases CY.1 (r.symm.mem_iff.1 (DV ..)) with M|M
    ·exact M.symm
    ·rw[I.1 z M]at R;cases R
  subst e;rw[ov O r.cons_inv I.2 J.2]
abbrev SoR (α:Type):=Unit×(List α×Unit)
theorem vQ {α R:Type}(u:α->α->Bool)(i:Int)(r:List α×Int->Option R){step:(List α×Int×Int->Option R)->List α×Int×Int->Option R}
  (h:∀ (rec:List α×Int×Int->Option R) (A:List α) (y x:α) (B:List α),A.length+B.length<=1048576->step rec (A++y::x::B,i,((A.length+1:Nat):Int))=bif u x y then rec (A++x::y::B,i,(A.length:Int)) else r (A++y::x::B,wr .i64 (i+1)))
  (O:∀ (rec:List α×Int×Int->Option R) (J:List α),step rec (J,i,0)=r (J,wr .i64 (i+1))) :
  ∀ (A B:List α) (x:α) (k:Nat),A.length+B.length<=1048576->A.length<k->ae step k (A.reverse++x::B,i,(A.length:Int))=r (dC u x A B,wr .i64 (i+1)):=by
 intro A;induction A with
 |nil =>
  intro B x k M z;obtain⟨k,rfl⟩:∃ H,k=H+1:=⟨k-1,by simp at z;omega⟩;exact O (ae step k) (x::B)
 |cons y A X =>
  intro B x k M z;simp only[B3]at z M;obtain⟨k,rfl⟩:∃ H,k=H+1:=⟨k-1,by omega⟩;have I:=h (ae step k) A.reverse y x B (by simp;omega);simp only[Cx]at I;show step (ae step k) _=_;rw[Ci,CV];simp only[B3,DZ,CA,dC];rw[I];cases u x y with
  |true=>exact X (y::B) x k (by simp;omega) (by omega)
  |false=>simp
theorem ur {α:Type}(r:α->α->Bool){step:(List α×Int->Option (SoR α))->List α×Int->Option (SoR α)}(n:Nat)(O:n<=1048576)
  (h:∀ (rec:List α×Int->Option (SoR α)) (done:List α) (x:α) (xs:List α),done.length+1+xs.length=n->step rec (done++x::xs,(done.length:Int))=rec (dC r x done.reverse xs,wr .i64 ((done.length:Int)+1)))
  (J:∀ (rec:List α×Int->Option (SoR α)) (z:List α) (i:Int),(n:Int)<=i->step rec (z,i)=some ((),(z,()))) :
  ∀ (xs done:List α) (k:Nat),done.length+xs.length=n->xs.length<k->ae step k (done++xs,(done.length:Int))=some ((),(cW r done xs,())):=by
 intro xs;induction xs with
 |nil =>
  intro done k y H;obtain⟨k,rfl⟩:∃ u,k=u+1:=⟨k-1,by omega⟩;show step (ae step k) _=_;rw[J _ _ _ (by simp at y;omega)];simp[cW]
 |cons x xs M =>
  intro done k y H;simp only[B3]at H y;obtain⟨k,rfl⟩:∃ u,k=u+1:=⟨k-1,by omega⟩;show step (ae step k) _=_;rw[h _ _ _ _ (by omega),aq _ (by omega)];have e:dC r x done.reverse xs=dC r x done.reverse []++xs:=pb r x done.reverse [] xs;have I:(dC r x done.reverse []).length=done.length+1:=by rw[pc];simp
  rw[e,<- I];exact M _ k (by rw[I];omega) (by omega)
theorem zc {α:Type}(u:α->α->Bool){step:(List α×Int->Option (SoR α))->List α×Int->Option (SoR α)}(xs:List α)(J:xs.length<=1048576)
  (h:∀ (rec:List α×Int->Option (SoR α)) (done:List α) (x:α) (r:List α),done.length+1+r.length=xs.length->step rec (done++x::r,(done.length:Int))=rec (dC u x done.reverse r,wr .i64 ((done.length:Int)+1)))
  (z:∀ (rec:List α×Int->Option (SoR α)) (H:List α) (i:Int),(xs.length:Int)<=i->step rec (H,i)=some ((),(H,()))) {k:Nat} (y:xs.length<k) :
  ae step k (xs,1)=some ((),(cW u [] xs,())):=by
 cases xs with
 |nil =>
  obtain⟨k,rfl⟩:∃ I,k=I+1:=⟨k-1,by simp at y;omega⟩;exact z (ae step k) [] 1 (by simp)
 |cons x xs =>
  simp only[B3]at y;have:=ur u (xs.length+1) (by simpa using J) h z xs [x] k (by simp;omega) (by omega);exact this
theorem u5 {α:Type}(A B:List α)(x:α):idx (A++x::B) (A.length:Int)=some x:=by
 rw[qy];simp
theorem tk {α:Type}(A B:List α)(y x:α):idx (A++y::x::B) ((A.length+1:Nat):Int)=some x:=by
 rw[qy];simp[List.getElem?_append_right]
theorem u6 {α:Type}(A B:List α)(x v:α):(A++x::B).set A.length v=A++v::B:=by simp
theorem tm {α:Type}(A B:List α)(y x v:α):(A++y::x::B).set (A.length+1) v=A++y::v::B:=by
 simp[DQ]
theorem ut {α R:Type}(P:α->Prop)(u:α->α->Bool)(i:Int)(r:List α×Int->Option R){step:(List α×Int×Int->Option R)->List α×Int×Int->Option R}
  (h:∀ (rec:List α×Int×Int->Option R) (A:List α) (y x:α) (B:List α),P y->P x->A.length+B.length<=1048576->step rec (A++y::x::B,i,((A.length+1:Nat):Int))=bif u x y then rec (A++x::y::B,i,(A.length:Int)) else r (A++y::x::B,wr .i64 (i+1)))
  (Z:∀ (rec:List α×Int×Int->Option R) (X:List α),step rec (X,i,0)=r (X,wr .i64 (i+1))) :
  ∀ (A B:List α) (x:α) (k:Nat),(∀ y∈A,P y)->P x->A.length+B.length<=1048576->A.length<k->ae step k (A.reverse++x::B,i,(A.length:Int))=r (dC u x A B,wr .i64 (i+1)):=by
 intro A;induction A with
 |nil =>
  intro B x k M H Y I;obtain⟨k,rfl⟩:∃ J,k=J+1:=⟨k-1,by simp at I;omega⟩;exact Z (ae step k) (x::B)
 |cons y A ih =>
  intro B x k M H Y I;simp only[B3]at I Y;obtain⟨k,rfl⟩:∃ J,k=J+1:=⟨k-1,by omega⟩;have O:=h (ae step k) A.reverse y x B (M y (by simp)) H (by simp;omega);simp only[Cx]at O;show step (ae step k) _=_;rw[Ci,CV];simp only[B3,DZ,CA,dC];rw[O];cases u x y with
  |true=>exact ih (y::B) x k (λz hz=>M z (by simp[hz])) H (by simp;omega) (by omega)
  |false=>simp
theorem tn {α:Type}(P:α->Prop)(r:α->α->Bool){step:(List α×Int->Option (SoR α))->List α×Int->Option (SoR α)}(n:Nat)(hn:n<=1048576)
  (h:∀ (rec:List α×Int->Option (SoR α)) (done:List α) (x:α) (xs:List α),(∀ y∈done,P y)->P x->done.length+1+xs.length=n->step rec (done++x::xs,(done.length:Int))=rec (dC r x done.reverse xs,wr .i64 ((done.length:Int)+1)))
  (Z:∀ (rec:List α×Int->Option (SoR α)) (R:List α) (i:Int),(n:Int)<=i->step rec (R,i)=some ((),(R,()))) :
  ∀ (xs done:List α) (k:Nat),(∀ y∈done,P y)->(∀ y∈xs,P y)->done.length+xs.length=n->xs.length<k->ae step k (done++xs,(done.length:Int))=some ((),(cW r done xs,())):=by
 intro xs;induction xs with
 |nil =>
  intro done k M H O X;obtain⟨k,rfl⟩:∃ J,k=J+1:=⟨k-1,by omega⟩;show step (ae step k) _=_;rw[Z _ _ _ (by simp at O;omega)];simp[cW]
 |cons x xs ih =>
  intro done k M H O X;simp only[B3]at X O;obtain⟨k,rfl⟩:∃ J,k=J+1:=⟨k-1,by omega⟩;show step (ae step k) _=_;rw[h _ _ _ _ M (H x (by simp)) (by omega),aq _ (by omega)];have e:dC r x done.reverse xs=dC r x done.reverse []++xs:=pb r x done.reverse [] xs;have Y:(dC r x done.reverse []).length=done.length+1:=by rw[pc];simp
  rw[e,<- Y];refine ih _ k (λz I=>?_) (λz I=>H z (by simp[I])) (by rw[Y];omega) (by omega);have u:=(m7 r x done.reverse []).mem_iff.1 I;simp only[CJ,B8,CY]at u;rcases u with rfl|u
  ·exact H z (by simp)
  ·exact M z u
theorem xA {α:Type}(P:α->Prop)(z:α->α->Bool){step:(List α×Int->Option (SoR α))->List α×Int->Option (SoR α)}(xs:List α)(M:∀ y∈xs,P y)(R:xs.length<=1048576)
  (h:∀ (rec:List α×Int->Option (SoR α)) (done:List α) (x:α) (r:List α),(∀ y∈done,P y)->P x->done.length+1+r.length=xs.length->step rec (done++x::r,(done.length:Int))=rec (dC z x done.reverse r,wr .i64 ((done.length:Int)+1)))
  (H:∀ (rec:List α×Int->Option (SoR α)) (I:List α) (i:Int),(xs.length:Int)<=i->step rec (I,i)=some ((),(I,()))) {k:Nat} (J:xs.length<k) :
  ae step k (xs,1)=some ((),(cW z [] xs,())):=by
 cases xs with
 |nil =>
  obtain⟨k,rfl⟩:∃ O,k=O+1:=⟨k-1,by simp at J;omega⟩;exact H (ae step k) [] 1 (by simp)
 |cons x xs =>
  simp only[B3]at J;have:=tn P z (xs.length+1) (by simpa using R) h H xs [x] k (λy u=>M y (by simpa using .inl (by simpa using u))) (λy u=>M y (by simp[u])) (by simp;omega) (by omega);exact this
def ltZ (a b:Int):Bool:=decide (a<b)
theorem Bo (K:Nat)(a b:Int):Q89.f K (a,b,())=some ((ltZ a b,()),()):=by
 simp only[Q89.f,Q17.f,ltZ];simp
theorem zd (K:Nat)(xs:List Int)(H:Int×Int×Unit->Option Int)(I:Int->Int->Bool)(P:Int->Prop)(hP:∀ y∈xs,P y)(hφ:∀ y z,P y->P z->∃ c,H (y,z,())=some c/\decide (c<0)=I y z)(hx:xs.length<=1048576)(hK:1048577<K) :
  Q83.f K (xs,0,(xs.length:Int),H,())=some ((),(cW I [] xs,())):=by
 refine xA P (step:=λrec a=>Q83.s0 K (xs,0,(xs.length:Int),H,()) (Q83.l1 K (xs,0,(xs.length:Int),H,()) rec) rec a) I xs hP hx ?_ ?_ (by omega)
 ·intro rec done x r M O hl;simp only[Q83.s0];rw[decide_eq_true (by omega:((done.length:Int))<(xs.length:Int))];simp only[cond_true];have:=ut P I (done.length:Int) rec (step:=λu a=>Q83.s1 K (xs,0,(xs.length:Int),H,()) rec u a) ?_ ?_ done.reverse r x K (λy J=>M y (by simpa using J)) O (by simp;omega) (by simp;omega)
  ·rw[CJ,Cx]at this;exact this
  ·intro u A y z B J X Y;simp only[Q83.s1];have e1:wr .i64 (((A.length+1:Nat):Int)-1)=(A.length:Int):=(aA (by omega) (by omega)).trans (by omega);rw[decide_eq_true (by omega:((A.length+1:Nat):Int)>0)];obtain⟨c,R,M⟩:=hφ z y X J;simp only[cond_true,e1,BY,tk,u5,BU,R,M,tm,u6]
  ·intro u Z;simp only[Q83.s1];rw[decide_eq_false (by omega:¬ (0:Int)>0)];rfl
 ·intro rec Z i hi;simp only[Q83.s0];rw[decide_eq_false (by omega:¬ i<(xs.length:Int))];rfl
theorem ze (K:Nat)(xs:List Int)(H:Int×Int×Unit->Option Int)(u:Int->Int->Bool)(P:Int->Prop)(J:∀ y∈xs,P y)(hφ:∀ y z,P y->P z->∃ c,H (y,z,())=some c/\decide (c<0)=u y z)(R:xs.length<=19)(I:1048577<K) :
  Q85.f K (xs,H,())=some ((),(cW u [] xs,())):=by
 simp only[Q85.f];have:Q84.f K (xs,(xs.length:Int),H,())=some ((),(cW u [] xs,())):=by
  obtain⟨k,rfl⟩:∃ O,K=O+1:=⟨K-1,by omega⟩;show Q84.s0 _ _ _ _ _=_;simp only[Q84.s0];rw[decide_eq_false (by omega:¬ (20:Int)<=(xs.length:Int))];simp only[cond_false];rw[zd (k+1) xs H u P J hφ (by omega) I];simp only[BU];have M:∀ (r:Q84.A1->Option Q84.Res),Q84.s1 (k+1) (xs,(xs.length:Int),H,()) (Q84.l2 (k+1) (xs,(xs.length:Int),H,()) r) r (cW u [] xs,20)=some ((),(cW u [] xs,())):=by
   intro r;simp only[Q84.s1];rw[decide_eq_false (by omega:¬ (20:Int)<(xs.length:Int))];rfl
  exact M _
 rw[this];rfl
theorem zf (K:Nat)(xs:List Int)(J:xs.length<=1048576)(O:1048577<K) :
  Q90.f K (xs,0,(xs.length:Int),())=some ((),(cW ltZ [] xs,())):=by
 refine zc (step:=λrec a=>Q90.s0 K (xs,0,(xs.length:Int),()) (Q90.l1 K (xs,0,(xs.length:Int),()) rec) rec a) ltZ xs J ?_ ?_ (by omega)
 ·intro rec done x r X;simp only[Q90.s0];rw[decide_eq_true (by omega:((done.length:Int))<(xs.length:Int))];simp only[cond_true];have:=vQ ltZ (done.length:Int) rec (step:=λu a=>Q90.s1 K (xs,0,(xs.length:Int),()) rec u a) ?_ ?_ done.reverse r x K (by simp;omega) (by simp;omega)
  ·rw[CJ,Cx]at this;exact this
  ·intro u A y z B H;simp only[Q90.s1];have M:wr .i64 (((A.length+1:Nat):Int)-1)=(A.length:Int):=(aA (by omega) (by omega)).trans (by omega);rw[decide_eq_true (by omega:((A.length+1:Nat):Int)>0)];simp only[cond_true,M,BY,tk,u5,BU,tm,u6];rw[show Q89.f K (z,y,())=_ from Bo K z y];rfl
  ·intro u I;simp only[Q90.s1];rw[decide_eq_false (by omega:¬ (0:Int)>0)];rfl
 ·intro rec I i R;simp only[Q90.s0];rw[decide_eq_false (by omega:¬ i<(xs.length:Int))];rfl
theorem zg (K:Nat)(xs:List Int)(u:xs.length<=12)(y:1048577<K) :
  Q96.f K (xs,())=some ((),(cW ltZ [] xs,())):=by
 simp only[Q96.f,Q88.f];obtain⟨l,I⟩:∃ l:Int,Q87.f K (wr .u64 (xs.length:Int),())=some ((l,()),()):=by
  have e:wr .u64 (xs.length:Int)=(xs.length:Int):=by
   show IntKind.u64.wrap _=_;have r:IntKind.u64.wrap (xs.length:Int)=(xs.length:Int) % 18446744073709551616:=by simp[IntKind.wrap,IntKind.bits,IntKind.signed]
   rw[r];omega
  rw[e];generalize J:xs.length=n at u;have:n=0\/n=1\/n=2\/n=3\/n=4\/n=5\/n=6\/n=7\/n=8\/n=9\/n=10\/n=11\/n=12:=by omega
  rcases this with rfl|rfl|rfl|rfl|rfl|rfl|rfl|rfl|rfl|rfl|rfl|rfl|rfl
  ·exact⟨0,by kernel_rfl⟩
  ·exact⟨1,by kernel_rfl⟩
  ·exact⟨2,by kernel_rfl⟩
  ·exact⟨2,by kernel_rfl⟩
  ·exact⟨3,by kernel_rfl⟩
  ·exact⟨3,by kernel_rfl⟩
  ·exact⟨3,by kernel_rfl⟩
  ·exact⟨3,by kernel_rfl⟩
  ·exact⟨4,by kernel_rfl⟩
  ·exact⟨4,by kernel_rfl⟩
  ·exact⟨4,by kernel_rfl⟩
  ·exact⟨4,by kernel_rfl⟩
  ·exact⟨4,by kernel_rfl⟩
 rw[I];simp only[BU];have:Q95.f K (xs,0,(xs.length:Int),l,())=some ((),(cW ltZ [] xs,())):=by
  obtain⟨k,rfl⟩:∃ H,K=H+1:=⟨K-1,by omega⟩;have z:∀ (rec:Q95.A0->Option Q95.Res) (a:Q95.A0),Q95.s0 (k+1) (xs,0,(xs.length:Int),l,()) rec a=some ((),(cW ltZ [] xs,())):=by
   intro rec a;simp only[Q95.s0];have e:wr .i64 ((xs.length:Int)-0)=(xs.length:Int):=(aA (by omega) (by omega)).trans (by omega);rw[e,decide_eq_true (by omega:(xs.length:Int)<=12)];simp only[cond_true];rw[zf (k+1) xs (by omega) y];rfl
  exact z (λ_=>none) ()
 rw[this];rfl
def ei (l:List aN)(i:Int):Int:=((l[i.toNat]?).map (·.2)).getD 0
def ltL (l:List aN)(a b:Int):Bool:=decide (ei l b<ei l a)
def lt2 (l:List aN)(a b:Int):Prop:=ei l b<ei l a\/(ei l a=ei l b/\a<b)
def cD (n:Nat):List Int:=(List.range n).map λ (i:Nat)=>(i:Int)
def bE (l:List aN):List Int:=cW (ltL l) [] (cD l.length)
theorem iu {n:Nat}{i:Int}:i∈cD n<->0<=i/\i<n:=by
 unfold cD;rw[CG];constructor
 ·rintro⟨j,hj,rfl⟩;have:=Dg.1 hj;omega
 ·rintro⟨h0,h1⟩;exact⟨i.toNat,Dg.2 (by omega),by omega⟩
theorem jr (n:Nat):(cD n).Pairwise (·<·):=by
 unfold cD;rw[CM];exact List.pairwise_lt_range.imp λh=>by omega
theorem dU {l:List aN}{i:Nat}(h:i<l.length):ei l (i:Int)=l[i].2:=by
 unfold ei;rw[BY,B9 h];rfl
theorem tp (l:List aN):∀ (xs done:List Int),done.Pairwise (lt2 l)->(∀ a∈done,∀ b∈xs,a<b)->xs.Pairwise (·<·)->(cW (ltL l) done xs).Pairwise (lt2 l)
 |[],done,h,_,_=>h
 |x::xs,done,h,H,M=>by
  have z:=CI.1 M;have J:jW (ltL l) done:=h.imp λ {a b} R=>by
   unfold ltL;rw[decide_eq_false_iff_not];rcases R with y|⟨y,_⟩ <;> omega
  have e:=lj (ltL l) (λa b c y I=>by
   unfold ltL at y I ⊢;rw[decide_eq_false_iff_not]at y I ⊢;omega) x done.reverse [] (by rw[CJ];exact J)
  rw[CJ,B8]at e;simp only[cW];rw[e];refine tp l xs _ ?_ ?_ z.2
  ·rw[Cg,CI];refine⟨h.filter _,⟨λb u=>?_,h.filter _⟩,λa r b u=>?_⟩
   ·have y:ltL l x b=true:=by simpa using (B4.1 u).2
    exact .inl (by simpa[ltL]using y)
   ·have y:ltL l x a=false:=by simpa using (B4.1 r).2
    have Y:¬ ei l a<ei l x:=by simpa[ltL]using y
    have O:=H a (B4.1 r).1 x (by simp);rcases CY.1 u with rfl|u
    ·by_cases I:ei l b<ei l a
     ·exact .inl I
     ·exact .inr ⟨by omega,O⟩
    ·have I:ltL l x b=true:=by simpa using (B4.1 u).2
     have X:ei l b<ei l x:=by simpa[ltL]using I
     exact .inl (by omega)
  ·intro a r b u;rcases Ce.1 r with r|r
   ·exact H a (B4.1 r).1 b (by simp[u])
   ·rcases CY.1 r with rfl|r
    ·exact z.1 b u
    ·exact H a (B4.1 r).1 b (by simp[u])
theorem pS (l:List aN):(bE l).Pairwise (lt2 l):=tp l _ [] List.Pairwise.nil (by simp) (jr _)
theorem mp (l:List aN):(bE l).Perm (cD l.length):=by
 unfold bE;simpa using mo (ltL l) (cD l.length) []
theorem iP {l:List aN}{i:Int}:i∈bE l<->0<=i/\i<l.length:=by rw[(mp l).mem_iff,iu]
theorem xB (l:List aN):(bE l).length=l.length:=by rw[(mp l).length_eq];simp[cD]
theorem uu (l:List aN):(bE l).Nodup:=(mp l).nodup_iff.2 ((jr _).imp λh=>by omega)
def dt (T:List Int)(n:Nat):List Bool:=(cD n).map λi=>decide (i∈T)
theorem fq (T:List Int)(n:Nat):(dt T n).length=n:=by simp[dt,cD]
theorem iQ (T:List Int){n i:Nat}(h:i<n):(dt T n)[i]'(by rw[fq];exact h)=decide ((i:Int)∈T):=by
 simp[dt,cD]
theorem xC {T:List Int}{n b:Nat}(y:b<n):(dt T n).set b true=dt (T++[(b:Int)]) n:=by
 refine C7 (by rw[DN,fq,fq]) λi u r=>?_
 rw[fq]at r;rw[Da,iQ _ r];by_cases h:b=i
 ·subst h;rw[if_pos rfl,iQ _ r];simp
 ·rw[if_neg h,iQ _ r];have:¬ (i:Int)=(b:Int):=by omega
  simp[this]
def pT (l:List aN)(T:List Int)(i:Nat)(r:Int):Prop :=
 (r=-1/\∀ j:Nat,j<i->(j:Int)∈T)\/(0<=r/\r<i/\r∉T/\∀ j:Nat,j<i->(j:Int)∉T->(j:Int)≠r->lt2 l r (j:Int))
theorem Au (K:Nat)(l:List aN)(T:List Int)(hl:l.length<=1048576):∀ (d i k:Nat) (r:Int),i+d=l.length->d<k->pT l T i r ->
  ∃ b:Int,ae (λrec a=>Q166.s0 K (l,dt T l.length,()) rec a) k (r,(i:Int))=some ((b,()),())/\pT l T l.length b:=by
 intro d;induction d with
 |zero =>
  intro i k r hi hk Z;obtain⟨k,rfl⟩:∃ k',k=k'+1:=⟨k-1,by omega⟩;have:i=l.length:=by omega
  subst this;refine⟨r,?_,Z⟩;show Q166.s0 K (l,dt T l.length,()) _ _=_;simp only[Q166.s0,aZ];rfl
 |succ d ih =>
  intro i k r hi hk Z;obtain⟨k,rfl⟩:∃ k',k=k'+1:=⟨k-1,by omega⟩;have z:i<l.length:=by omega
  have J:∀ r,pT l T (i+1) r->∃ b:Int,ae (λrec a=>Q166.s0 K (l,dt T l.length,()) rec a) k (r,((i+1:Nat):Int))=some ((b,()),())/\pT l T l.length b:=λr h=>ih (i+1) k r (by omega) (by omega) h
  show ∃ b:Int,Q166.s0 K (l,dt T l.length,()) (ae (λrec a=>Q166.s0 K (l,dt T l.length,()) rec a) k) (r,(i:Int))=_/\_;generalize ae (λrec a=>Q166.s0 K (l,dt T l.length,()) rec a) k=REC at J ⊢;simp only[Q166.s0];rw[bG (by omega:(i:Int)<(BV l:Int)),ag (show i<(dt T l.length).length by rw[fq];exact z),iQ T z,aq i (by omega)];simp only[cond_true,BU];by_cases O:(i:Int)∈T
  ·rw[decide_eq_true O];simp only[B6,cond_false];refine J r ?_;rcases Z with ⟨rfl,h⟩|⟨h0,h1,h2,X⟩
   ·refine .inl ⟨rfl,λj Y=>?_⟩;by_cases y:j=i
    ·subst y;exact O
    ·exact h j (by omega)
   ·refine .inr ⟨h0,by omega,h2,λj Y u I=>?_⟩;by_cases y:j=i
    ·subst y;exact absurd O u
    ·exact X j (by omega) u I
  ·rw[decide_eq_false O];simp only[CO,cond_true];rcases Z with ⟨rfl,h⟩|⟨h0,h1,h2,X⟩
   ·rw[show decide ((-1:Int)<0)=true from rfl];refine J (i:Int) (.inr ⟨by omega,by omega,O,λj Y u I=>?_⟩);exact absurd (h j (by omega)) u
   ·rw[decide_eq_false (by omega:¬ r<0)];obtain⟨b,rfl⟩:=BZ h0;have H:b<l.length:=by omega
    simp only[cond_false];rw[ag z,ag H];simp only[BU];by_cases M:l[i].2>l[b].2
    ·rw[decide_eq_true M];refine J (i:Int) (.inr ⟨by omega,by omega,O,λj Y u I=>?_⟩);have y:j<i:=by omega
     have a1:j<l.length:=by omega
     by_cases R:(j:Int)=(b:Int)
     ·rw[R];exact .inl (by rw[dU z,dU H];exact M)
     ·have:=X j y u R;rcases this with h4|⟨h4,_⟩
      ·exact .inl (by rw[dU H]at h4;rw[dU z];omega)
      ·exact .inl (by rw[dU H]at h4;rw[dU z];omega)
    ·rw[decide_eq_false M];refine J (b:Int) (.inr ⟨by omega,by omega,h2,λj Y u I=>?_⟩);by_cases y:j=i
     ·subst y;by_cases a0:ei l (b:Int)=ei l (j:Int)
      ·exact .inr ⟨a0,h1⟩
      ·refine .inl ?_;rw[dU z,dU H]at *;omega
     ·exact X j (by omega) u I
theorem Bp (K:Nat)(l:List aN)(n:Nat)(hl:l.length<=1048576)(hK:1048577<K):Q166.f K (l,dt ((bE l).take n) l.length,())=some ((((bE l)[n]?).getD (-1),()),()):=by
  obtain⟨b,e,hb⟩:=Au K l ((bE l).take n) hl l.length 0 K (-1) (by omega) (by omega) (.inl ⟨rfl,λj z=>by omega⟩);have:b=((bE l)[n]?).getD (-1):=by
    by_cases I:n<(bE l).length
    · rw[B9 I]
      show b=(bE l)[n];have Z:(bE l)[n]∉(bE l).take n:=λh=>by
        obtain⟨j,z,e⟩:=B5 h;rw[CE]at z;rw[Cy]at e;have:=Cd.1 (pS l) j n (by omega) I (by omega);rw[e]at this;rcases this with u|⟨_,u⟩ <;> omega
      have hr:=iP.1 (BW I);obtain⟨m,r⟩:=BZ hr.1;rcases hb with ⟨rfl,h⟩|⟨O,J,y,h3⟩
      · have:=h m (by omega)
        rw[<- r]at this;exact absurd this Z
      · by_cases Y:b=(bE l)[n]
        · exact Y
        · exfalso
          have H:=h3 m (by omega) (by rw[<- r];exact Z) (by rw[<- r];exact λh=>Y h.symm);rw[<- r]at H;have R:b∈bE l:=iP.2 ⟨O,J⟩;obtain⟨j,z,X⟩:=B5 R;have M:n<j:=by
            rcases C3 j n with h|h|h
            · exact absurd (List.mem_take_iff_getElem.2 ⟨j,by omega,X⟩) y
            · subst h;exact absurd X.symm Y
            · exact h
          have u:=Cd.1 (pS l) n j I z M;rw[X]at u;rcases H with H|⟨H,h6⟩ <;> rcases u with u|⟨u,h7⟩ <;> omega
    · rw[Cp (by omega)]
      show b=-1;rcases hb with ⟨rfl,_⟩|⟨O,J,y,_⟩
      · rfl
      · exfalso
        rw[CS (by omega)]at y;exact y (iP.2 ⟨O,J⟩)
  rw[<- this];exact e
def b6 (l:List aN):List Int:=(bE l).take 3
def gD (l:List aN)(i:Int):aN:=(l[i.toNat]?).getD ((0,0,0,false),0)
def dV (l:List aN)(T:List Int)(i:Int):aN:=bif decide (i∈T) then ((gD l i).1,(gD l i).2-1) else gD l i
def ew (l:List aN)(T:List Int)(n:Nat):List af:=((cD n).filter λi=>decide (i∈T)).map λi=>(gD l i).1
def gj (l:List aN)(T:List Int)(n:Nat):List aN:=(cD n).map (dV l T)
def dE (l:List aN)(T:List Int)(n:Nat):List aN:=(gj l T n).filter λx=>decide (x.2>0)
theorem cC {l:List aN}{i:Nat}(h:i<l.length):gD l (i:Int)=l[i]:=by
 unfold gD;rw[BY,B9 h];rfl
theorem m9 (n:Nat):cD (n+1)=cD n++[(n:Int)]:=by
 unfold cD;rw[List.range_succ,C9];rfl
theorem vR (l:List aN)(T:List Int)(n:Nat):ew l T (n+1)=ew l T n++(bif decide ((n:Int)∈T) then [(gD l (n:Int)).1] else []):=by
 unfold ew;rw[m9,Cm,C9,CP];cases decide ((n:Int)∈T) <;> rfl
theorem vS (l:List aN)(T:List Int)(n:Nat):dE l T (n+1)=dE l T n++(bif decide ((dV l T (n:Int)).2>0) then [dV l T (n:Int)] else []):=by
 unfold dE gj;rw[m9,C9,Cm,DF,CP];cases decide ((dV l T (n:Int)).2>0) <;> rfl
theorem xD (l:List aN)(T:List Int)(n:Nat):(ew l T n).length<=n:=by
 unfold ew;rw[CB];refine CF (CN _ _) ?_;simp[cD]
theorem xE (l:List aN)(T:List Int)(n:Nat):(dE l T n).length<=n:=by
 unfold dE;refine CF (CN _ _) ?_;simp[gj,cD]
theorem Av (K:Nat)(l:List aN)(m:Int)(T:List Int)(X:l.length<=1048576)(H:cV l)(R:1048577<K) :
  Q167.l1 K (l,m,()) (dt T l.length,[],[],0)=some ((ew l T l.length,dE l T l.length,()),()):=by
 refine lL (step:=λrec a=>Q167.s1 K (l,m,()) rec a) l.length (λi=>(dt T l.length,ew l T i,dE l T i,(i:Int))) (some ((ew l T l.length,dE l T l.length,()),())) ?_ ?_ (by omega)
 ·intro rec i r;simp only[Q167.s1];have u:i<(dt T l.length).length:=by rw[fq];exact r
  have I:=xD l T i;have J:=xE l T i;obtain⟨M,O⟩:=(H.1 l[i] (BW r)).2;rw[bG (by omega:(i:Int)<(BV l:Int)),ag r,ag u,aq i (by omega),BY,ag u,iQ T r,vR,vS,cC r];simp only[cond_true,BU];cases z:decide ((i:Int)∈T) with
  |true =>
   have y:dV l T (i:Int)=(l[i].1,l[i].2-1):=by unfold dV;rw[z,cC r];rfl
   rw[y];simp only[cond_true];rw[szb _ _ _ (by omega) (by simp;omega),aA (n:=l[i].2-1) (by omega) (by omega)];simp only[cond_true];cases decide (l[i].2-1>0) with
   |true =>
    simp only[cond_true];rw[szb _ _ _ (by omega) (by simp;omega)];rfl
   |false =>
    simp only[cond_false,B8]
  |false =>
   have y:dV l T (i:Int)=l[i]:=by unfold dV;rw[z,cC r];rfl
   rw[y];simp only[cond_false,B8];cases decide (l[i].2>0) with
   |true =>
    simp only[cond_true];rw[szb _ _ _ (by omega) (by simp;omega)];rfl
   |false =>
    simp only[cond_false,B8]
 ·intro rec;simp only[Q167.s1,aZ];rfl
theorem Bq (K:Nat)(l:List aN)(R:l.length<=1048576)(Z:cV l)(M:1048577<K):Q167.f K (l,3,())=some ((ew l (b6 l) l.length,dE l (b6 l) l.length,()),()):=by
 have r:∀ T,Q167.l1 K (l,3,()) (dt T l.length,[],[],0)=some ((ew l T l.length,dE l T l.length,()),()):=λT=>Av K l 3 T R Z M
 have go:∀ (d n k:Nat),n+d=3->d<k->ae (λrec a=>Q167.s0 K (l,3,()) (Q167.l1 K (l,3,())) rec a) k (dt ((bE l).take n) l.length,(n:Int))=some ((ew l (b6 l) l.length,dE l (b6 l) l.length,()),()):=by
  intro d;induction d with
  |zero =>
   intro n k hn hk;obtain⟨k,rfl⟩:∃ I,k=I+1:=⟨k-1,by omega⟩;have:n=3:=by omega
   subst this;exact r _
  |succ d ih =>
   intro n k hn hk;obtain⟨k,rfl⟩:∃ I,k=I+1:=⟨k-1,by omega⟩;have y:=ih (n+1) k (by omega) (by omega);show Q167.s0 K (l,3,()) (Q167.l1 K (l,3,())) (ae (λrec a=>Q167.s0 K (l,3,()) (Q167.l1 K (l,3,())) rec a) k) (dt ((bE l).take n) l.length,(n:Int))=_;generalize ae (λrec a=>Q167.s0 K (l,3,()) (Q167.l1 K (l,3,())) rec a) k=REC at y ⊢;simp only[Q167.s0];rw[decide_eq_true (by omega:(n:Int)<3),Bp K l n R M,aq n (by omega)];simp only[cond_true,BU];by_cases u:n<(bE l).length
   ·rw[B9 u];have X:=iP.1 (BW u);have H:(bE l).take (n+1)=(bE l).take n++[(bE l)[n]]:=Ch u;rw[H]at y;simp only[Db];generalize (bE l)[n]=v at X y ⊢;obtain⟨b,rfl⟩:=BZ X.1;have O:b<l.length:=by omega
    have z:b<(dt ((bE l).take n) l.length).length:=by rw[fq];exact O
    rw[decide_eq_false (by omega:¬ (b:Int)<0),ag z,BY,ag z,xC O];exact y
   ·rw[Cp (by omega)];show Q167.l1 K (l,3,()) (dt ((bE l).take n) l.length,[],[],0)=_;rw[r,show (bE l).take n=b6 l by unfold b6;rw[CS (by omega),CS (by omega)]]
 simp only[Q167.f,Q167.pre];rw[decide_eq_true (by omega:(0:Int)<=(BV l:Int)),show decide ((BV l:Int)*(1:Nat)<=ak)=true from decide_eq_true (by simp only[ak];omega),BY];simp only[decide_true,Co,cond_true];have Y:Cu l.length false=dt ((bE l).take 0) l.length:=by
  refine C7 (by rw[C6,fq]) λi h1 J=>?_
  rw[fq]at J;rw[List.getElem_replicate,iQ _ J];simp
 have:=go 3 0 K (by omega) (by omega);rw[<- Y]at this;exact this
theorem se {a b:List Int}(r:a.Nodup)(u:b.Nodup)(h:∀ x,x∈a<->x∈b):a.Perm b:=by
 rw[List.perm_iff_count];intro x;rw[r.count,u.count];simp[h]
def c8 (l:List aN):List Int:=(cD l.length).filter λi=>decide (i∈b6 l)
theorem uv (l:List aN):cW ltZ [] (b6 l)=c8 l:=by
 have r:(b6 l).Nodup:=(uu l).sublist (List.take_sublist _ _);have u:((cD l.length).filter λi=>decide (i∈b6 l)).Nodup:=((jr l.length).imp (λh=>by omega:∀ {a b:Int},a<b->a≠b)).filter _;refine ov ltZ ?_ (m8 ltZ (λa b c r u=>by
  unfold ltZ at r u ⊢;rw[decide_eq_false_iff_not]at r u ⊢;omega) (λa b h=>by
  unfold ltZ at h ⊢;rw[decide_eq_true_eq]at h;rw[decide_eq_false_iff_not];omega) (b6 l) [] List.Pairwise.nil) ?_
 ·refine (by simpa using mo ltZ (b6 l) []:(cW ltZ [] (b6 l)).Perm (b6 l)).trans (se r u λx=>?_);rw[c8,B4,decide_eq_true_eq,iu];exact⟨λh=>⟨iP.1 (DS h),h⟩,λh=>h.2⟩
 ·exact ((jr l.length).filter _).imp λh=>by unfold ltZ;exact decide_eq_true h
theorem xF {l:List aN}{i:Int}:i∈c8 l<->i∈b6 l:=by
 unfold c8;rw[B4,decide_eq_true_eq,iu];exact⟨λh=>h.2,λh=>⟨iP.1 (DS h),h⟩⟩
theorem xG (l:List aN):(c8 l).Pairwise (·<·):=(jr l.length).filter _
theorem eS (l:List aN)(T:List Int)(n:Nat):(gj l T n).length=n:=by simp[gj,cD]
theorem fA (l:List aN)(T:List Int){n i:Nat}(h:i<n):(gj l T n)[i]'(by rw[eS];exact h)=dV l T (i:Int):=by
 simp[gj,cD]
theorem zh (l:List aN):gj l [] l.length=l:=by
 refine C7 (eS _ _ _) λi u r=>?_
 rw[fA l [] r];unfold dV;rw[cC r];simp
theorem zi {l:List aN}{T:List Int}{b:Nat}(y:b<l.length):(gj l T l.length).set b ((gD l (b:Int)).1,(gD l (b:Int)).2-1)=gj l (T++[(b:Int)]) l.length:=by
 refine C7 (by rw[DN,eS,eS]) λi u r=>?_
 rw[eS]at r;rw[Da,fA _ _ r];by_cases h:b=i
 ·subst h;rw[if_pos rfl,fA _ _ r];unfold dV;rw[decide_eq_true (by simp:(b:Int)∈T++[(b:Int)])];rfl
 ·rw[if_neg h,fA _ _ r];unfold dV;have:((i:Int)∈T++[(b:Int)])<->(i:Int)∈T:=by
   rw[Ce,CU];exact⟨λu=>u.resolve_right (by omega),.inl⟩
  rw[show decide ((i:Int)∈T++[(b:Int)])=decide ((i:Int)∈T) by rw[decide_eq_decide];exact this]
theorem vT {l:List aN}{T T':List Int}(h:∀ i,i∈T<->i∈T')(n:Nat):gj l T n=gj l T' n:=by
 unfold gj;refine List.map_congr_left λi _=>?_
 unfold dV;rw[show decide (i∈T)=decide (i∈T') by rw[decide_eq_decide];exact h i]
theorem uw (K:Nat)(x:ab Q98.ps)(l:List aN)(hl:l.length<=1048576)(X:cV l)(hK:1048577<K) :
  Q98.l1 K x (l,c8 l,[],(BV (c8 l):Int),0)=some ((ew l (b6 l) l.length,dE l (b6 l) l.length,()),()):=by
 have Z:(c8 l).length<=l.length:=by
  refine CF (CN _ _) ?_;simp[cD]
 refine DB ?_ (lL (step:=λrec a=>Q98.s1 K x rec a) (c8 l).length (λi=>(gj l ((c8 l).take i) l.length,c8 l,((c8 l).take i).map (λj=>(gD l j).1),(BV (c8 l):Int),(i:Int))) (some ((ew l (b6 l) l.length,dE l (b6 l) l.length,()),())) ?_ ?_ (by omega:(c8 l).length<K))
 ·simp only[List.take_zero,Di,zh];rfl
 ·intro rec i r;simp only[Q98.s1];have Y:=iu.1 ((B4.1 (BW r)).1);have u:(c8 l)[i]∉(c8 l).take i:=λh=>by
   obtain⟨j,hj,e⟩:=B5 h;rw[CE]at hj;rw[Cy]at e;have:=Cd.1 (xG l) j i (by omega) r (by omega);omega
  have O:(c8 l).take (i+1)=(c8 l).take i++[(c8 l)[i]]:=Ch r;rw[O,C9];have I:(((c8 l).take i).map (λj=>(gD l j).1)).length<=1048576:=by rw[CB,CE];omega
  rw[bG (by omega:(i:Int)<(BV (c8 l):Int)),ag r,aq i (by omega),BY,ag r];simp only[cond_true,BU];generalize (c8 l)[i]=v at Y u ⊢;obtain⟨b,rfl⟩:=BZ Y.1;have z:b<l.length:=by omega
  have H:b<(gj l ((c8 l).take i) l.length).length:=by rw[eS];exact z
  have hd:dV l ((c8 l).take i) (b:Int)=l[b]:=by
   unfold dV;rw[decide_eq_false u,cC z];rfl
  obtain⟨c0,c1⟩:=(X.1 l[b] (BW z)).2;rw[ag H,BY,ag H,fA l _ z,hd];simp only[BU];rw[szb _ _ _ (by omega) (by simp only[CB,B3,B7]at I ⊢;omega),aA (n:=l[b].2-1) (by omega) (by omega),<- zi z,cC z];simp only[cond_true,DF,Di,cC z]
 ·intro rec;simp only[Q98.s1,aZ,cond_false,Cv,Q9.f];have e:∀ J:List aN,J.length<=1048576->gR t3 J (λR=>(Q97.f K (R.1,())).map λy=>y.1.1)=some ((J.filter (λx=>!(x.2==0)),()),()):=λJ M=>rq (e:=t3) (λx=>x.2==0) M (λx _=>rfl)
  rw[e _ (by rw[eS];exact hl)];simp only[BU];rw[vT (l:=l) (T:=c8 l) (T':=b6 l) (λi=>xF) l.length];have ef:(gj l (b6 l) l.length).filter (λx=>!(x.2==0))=dE l (b6 l) l.length:=by
   unfold dE;refine DE λx hx=>?_
   have h0:0<=x.2:=by
    obtain⟨i,r,rfl⟩:=B5 hx;rw[eS]at r;rw[fA l _ r];obtain⟨c0,c1⟩:=(X.1 l[i] (BW r)).2;unfold dV;rw[cC r];cases decide ((i:Int)∈b6 l) with
    |true=>show 0<=l[i].2-1;omega
    |false=>show 0<=l[i].2;omega
   rw[Cf];simp;omega
  rw[ef];rfl
theorem vU (K:Nat)(l:List aN)(hl:l.length<=8)(H:cV l)(I:1048577<K):Q98.f K (l,3,())=some ((ew l (b6 l) l.length,dE l (b6 l) l.length,()),()):=by
 simp only[Q98.f,Q98.pre];obtain⟨b1,e1,e2⟩:=o8 K l (by omega) I;have O:=e2.2 H;subst O;rw[e1];simp only[BU,B6,cond_false];rw[decide_eq_true (by omega:(0:Int)<=(BV l:Int)),show decide ((BV l:Int)*(8:Nat)<=ak)=true from decide_eq_true (by simp only[ak];omega),BY];simp only[decide_true,Co,cond_true];have Y:(cD l.length).length=l.length:=by simp[cD]
 have hS:∀ i,i<=l.length->(cD i++Cu (l.length-i) (0:Int)).length=l.length:=λi hi=>by simp[cD];omega
 refine DB ?_ (lL (step:=λrec a=>Q98.s0 K (l,3,()) (Q98.l1 K (l,3,())) rec a) l.length (λi=>(cD i++Cu (l.length-i) (0:Int),(i:Int))) (some ((ew l (b6 l) l.length,dE l (b6 l) l.length,()),())) ?_ ?_ (by omega:l.length<K))
 ·rfl
 ·intro rec i hi;simp only[Q98.s0];have u:i<(cD i++Cu (l.length-i) (0:Int)).length:=by rw[hS i (by omega)];exact hi
  rw[decide_eq_true (by rw[C6];show (i:Int)<((BX (BV l:Int):Nat):Int);omega),ag u,aq i (by omega),BY,ag u];simp only[cond_true,BU];have e:(cD i++Cu (l.length-i) (0:Int)).set i (i:Int)=cD (i+1)++Cu (l.length-(i+1)) (0:Int):=by
   obtain⟨m,hm⟩:∃ m,l.length-i=m+1:=⟨l.length-i-1,by omega⟩;have M:(cD i).length=i:=by simp[cD]
   rw[hm,show l.length-(i+1)=m by omega,m9,DQ _ _ (by omega),M,Nat.sub_self,List.replicate_succ,List.set_cons_zero,CV];rfl
  rw[e]
 ·intro rec;simp only[Q98.s0];rw[decide_eq_false (by rw[C6];show ¬ (BV l:Int)<((BX (BV l:Int):Nat):Int);omega),Nat.sub_self,List.replicate_zero,B8];simp only[cond_false,Q2.f];have r:=ze K (cD l.length) (λZ=>(Q86.f K (Z.1,Z.2.1,l,())).map λy=>y.1.1) (ltL l) (λi=>0<=i/\i<l.length) (λy J=>iu.1 J) (λy z J hz=>by
   obtain⟨a,rfl⟩:=BZ J.1;obtain⟨b,rfl⟩:=BZ hz.1;have R:a<l.length:=by omega
   have X:b<l.length:=by omega
   obtain⟨c0,c1⟩:=(H.1 l[a] (BW R)).2;obtain⟨c2,c3⟩:=(H.1 l[b] (BW X)).2;refine⟨l[b].2-l[a].2,?_,?_⟩
   ·simp only[Q86.f];rw[ag R,ag X];simp only[BU];rw[aA (n:=l[b].2-l[a].2) (by omega) (by omega)];rfl
   ·unfold ltL;rw[dU R,dU X,decide_eq_decide];omega) (by rw[Y];omega) I
  rw[r];simp only[BU];rw[d9 (by omega)];simp only[BU];rw[show Q76.f K (cW (ltL l) [] (cD l.length),3,())=some ((b6 l,()),()) from qD K (bE l) 3 (by rw[xB];omega)];simp only[BU];rw[zg K (b6 l) (CF (Ck _ _) (by omega)) I,uv];simp only[BU];exact uw K (l,3,()) l (by omega) H I
theorem Br {a b:Int}(r:0<=a)(y:a<4611686018427387904)(u:0<=b)(z:b<4611686018427387904):0<=qv .i64 a b:=by
 obtain⟨m,rfl⟩:=BZ r;obtain⟨n,rfl⟩:=BZ u;have h:(BitVec.ofInt 64 (m:Int) ^^^ BitVec.ofInt 64 (n:Int)).toNat=m ^^^ n:=by
  rw[BitVec.toNat_xor,BitVec.toNat_ofInt,BitVec.toNat_ofInt];congr 1
  ·omega
  ·omega
 have H:m ^^^ n<2 ^ 62:=Nat.xor_lt_two_pow (by omega) (by omega);show 0<=IntKind.i64.wrap (((BitVec.ofInt 64 (m:Int) ^^^ BitVec.ofInt 64 (n:Int)).toNat:Nat):Int);rw[h,Dc];omega
structure fW (b:List Int):Prop where
 byte:∀ y∈b,0<=y/\y<=255
 len:b.length<=2000
theorem Aw (K:Nat)(b:List Int)(q:Nat)(n:Int)(h:fW b)(hq:q<=100000)(hn:1<=n):∃ v:Int,Q117.f K ((b,(q:Int)),n,())=some ((v,()),((b,((q+1:Nat):Int)),()))/\0<=v/\v<n:=by
 have w1:wr .i64 ((q:Int)+1)=((q+1:Nat):Int):=aq q (by omega);have w2:wr .i64 (((q+1:Nat):Int)-1)=(q:Int):=by rw[aA (n:=((q+1:Nat):Int)-1) (by omega) (by omega)];omega
 have hl:=h.len;have I:decide (n=0)=false:=decide_eq_false (by omega);have r:∀ x:Int,0<=x->0<=CX x n/\CX x n<n:=λx u=>⟨DO _ u,DC _ (by omega)⟩
 simp only[Q117.f];rw[decide_eq_false (by omega:¬ n<1)];simp only[cond_false,w1,w2,I];by_cases M:b.length=0
 ·rw[show ((b.length:Int)==0)=true by simpa using M];exact⟨0,rfl,by omega,by omega⟩
 ·rw[show ((b.length:Int)==0)=false by simpa using M];simp only[cond_false];by_cases H:q<b.length
  ·rw[decide_eq_true (by omega:(q:Int)<(b.length:Int)),ag H];simp only[cond_true,BU];obtain⟨J,Y⟩:=h.byte b[q] (BW H);rw[aA (n:=b[q]) (by omega) (by omega)];exact⟨_,rfl,r _ J⟩
  ·rw[decide_eq_false (by omega:¬ (q:Int)<(b.length:Int)),decide_eq_false (by omega:¬ (b.length:Int)=0)];simp only[cond_false];have t1:CX (q:Int) (b.length:Int)=((q % b.length:Nat):Int):=by rw[DD (by omega)];rfl
   have t2:wr .i64 (wr .i64 ((q:Int)*7)+3)=((q*7+3:Nat):Int):=by rw[aA (n:=(q:Int)*7) (by omega) (by omega),aA (n:=(q:Int)*7+3) (by omega) (by omega)];omega
   have t3:CX (((q*7+3:Nat)):Int) (b.length:Int)=(((q*7+3) % b.length:Nat):Int):=by rw[DD (by omega)];rfl
   have R:q % b.length<b.length:=Nat.mod_lt _ (by omega);have O:(q*7+3) % b.length<b.length:=Nat.mod_lt _ (by omega);rw[t1,t2,t3,ag R,ag O];simp only[BU];obtain⟨J,Y⟩:=h.byte b[q % b.length] (BW R);obtain⟨z0,Z⟩:=h.byte b[(q*7+3) % b.length] (BW O);generalize b[q % b.length]=y at J Y ⊢;generalize b[(q*7+3) % b.length]=z at z0 Z ⊢;have d1:0<=C4 (q:Int) (b.length:Int)/\C4 (q:Int) (b.length:Int)<=q:=⟨Df (by omega) (by omega),Dd _ (by omega)⟩;generalize C4 (q:Int) (b.length:Int)=e at d1 ⊢;have x1:wr .i64 (wr .i64 (wr .i64 (wr .i64 (wr .i64 y*131)+wr .i64 (wr .i64 z*1117))+wr .i64 ((q:Int)*29))+wr .i64 (wr .i64 e*53))=y*131+z*1117+q*29+e*53:=by
    rw[aA (n:=y) (by omega) (by omega),aA (n:=z) (by omega) (by omega),aA (n:=e) (by omega) (by omega),aA (n:=y*131) (by omega) (by omega),aA (n:=z*1117) (by omega) (by omega),aA (n:=(q:Int)*29) (by omega) (by omega),aA (n:=e*53) (by omega) (by omega),
     aA (n:=y*131+z*1117) (by omega) (by omega),aA (n:=y*131+z*1117+(q:Int)*29) (by omega) (by omega),aA (n:=y*131+z*1117+(q:Int)*29+e*53) (by omega) (by omega)]
   rw[x1];have u:0<=y*131+z*1117+q*29+e*53/\y*131+z*1117+q*29+e*53<=10000000:=by omega
   generalize y*131+z*1117+(q:Int)*29+e*53=X at u ⊢;have d2:0<=C4 X 64/\C4 X 64<=X:=⟨Df u.1 (by omega),Dd _ u.1⟩;rw[aA (n:=C4 X 64) (by omega) (by omega)];exact⟨_,rfl,r _ (Br u.1 (by omega) d2.1 (by omega))⟩
theorem vV (K:Nat)(t:List af)(f:af)(ht:t.length<=1048576)(R:Asc (λg:af=>g.1) t)(hK:1048577<K):Q119.f K (t,f,())=some (((bW t f).1,(bW t f).2,()),()):=by
 simp only[Q119.f,Q119.pre];obtain⟨o,H,I⟩:=fI K t f.1 ht hK;rw[I];simp only[BU];cases H with
 |at_ i r e =>
  simp only;rw[ky R r e,decide_eq_true (by omega:((i:Nat):Int)>=0),ag r];simp only[cond_true,BU,BY,ag r];rw[show Q57.f K (f,t[i],())=_ from pO K f t[i]];simp only[BU];by_cases H:bO f t[i]
  ·rw[decide_eq_true H,if_pos H];simp only[B6,cond_false];rw[szb _ _ _ (by omega) (by show (BV ([]:List af))+t.length<=_;simp;omega)];simp only[cond_true,CA,ag r,BU,BY];rw[kx (k:=λg:af=>g.1) R r e]
  ·rw[decide_eq_false H,if_neg H];rfl
 |no h =>
  simp only;rw[is h,decide_eq_false (by omega:¬ (-1:Int)>=0)];simp only[cond_false];have J:∀ m:Nat,m<=t.length->(bif decide ((0:Int)<=0)&&decide ((0:Int)<=(m:Int))&&decide ((m:Int)<=(BV t:Int))&&true then (bif decide ((BV ([]:List af)+BV ((t.take (BX (m:Int))).drop (BX 0)))*32<=ak) then (bif decide ((BV ([]++((t.take (BX (m:Int))).drop (BX 0)))+BV ([f]))*32<=ak) then (bif decide ((0:Int)<=(m:Int))&&decide ((m:Int)<=(BV t:Int))&&decide ((BV t:Int)<=(BV t:Int))&&true then (bif decide ((BV (([]++((t.take (BX (m:Int))).drop (BX 0)))++([f]))+BV ((t.take (BX (BV t:Int))).drop (BX (m:Int))))*32<=ak) then (some (((([]++((t.take (BX (m:Int))).drop (BX 0)))++([f]))++((t.take (BX (BV t:Int))).drop (BX (m:Int))),true,()),())) else none) else none) else none) else none) else (none:Option ((List af×Bool×Unit)×Unit)))=some ((t.take m++[f]++t.drop m,true,()),()):=by
   intro m X;rw[decide_eq_true (by omega:(0:Int)<=0),decide_eq_true (by omega:(0:Int)<=(m:Int)),decide_eq_true (by omega:(m:Int)<=(BV t:Int)),decide_eq_true (by omega:(BV t:Int)<=(BV t:Int))];simp only[BY,Cr,CH,CA,Cv,Co,cond_true];have I:(t.take m).length=m:=by rw[CE];omega
   have z:(t.drop m).length=t.length-m:=CQ;rw[szb _ _ _ (by omega) (by simp only[B7];omega),szb _ _ _ (by omega) (by simp only[B3,B7];omega),szb _ _ _ (by omega) (by simp only[CC,B3,B7];omega)];rfl
  have:=bS (step:=λrec a=>Q119.s0 K (t,f,()) rec a) t.length (λi=>(i:Int)) (λj=>∃ h:j<t.length,¬ t[j].1<f.1) (some ((t.take t.length++[f]++t.drop t.length,true,()),())) (λj=>some ((t.take j++[f]++t.drop j,true,()),())) ?_ ?_ t.length K 0 (by omega) (by omega)
  ·have M:∀ m,m<=t.length->(∀ i,(r:i<t.length)->i<m->t[i].1<f.1)->(∀ i,(r:i<t.length)->m<=i->f.1<t[i].1)->t.take m++[f]++t.drop m=bL (λg=>g.1) f t:=λm X lo r=>jo (k:=λg:af=>g.1) X lo r
   rcases this with ⟨I,z⟩|⟨j,_,I,⟨Y,h4⟩,h5,z⟩
   ·rw[M t.length (CD _) (λi r _=>by
     have:=I i (CR _) r;exact C0.1 λh=>this ⟨r,h⟩) (λi r h=>by omega)]at z
    exact z
   ·rw[M j (by omega) (λi r y=>by
     have:=h5 i (CR _) y;exact C0.1 λh=>this ⟨r,h⟩) (λi r y=>by
     have Z:=h t[i] (BW r);rcases Cc y with O|O
     ·have:=dw.1 R j i Y r O;omega
     ·subst O;omega)]at z
    exact z
  ·intro rec i r;simp only[Q119.s0];rw[bG (by omega:(i:Int)<(BV t:Int)),ag r,aq i (by omega)];simp only[cond_true,BU];rw[show idx t ((BX (i:Int):Nat):Int)=some t[i] by rw[BY];exact ag r];simp only[BU];by_cases u:t[i].1<f.1
   ·exact .inl ⟨λ⟨_,h⟩=>h u,by rw[decide_eq_true u];rfl⟩
   ·exact .inr ⟨⟨r,u⟩,by rw[decide_eq_false u];exact J i (by omega)⟩
  ·intro rec;simp only[Q119.s0,aZ,cond_false];exact J t.length (CD _)
def fN (t:List af)(fs:List af):List af:=fs.foldl (λt f=>(bW t f).1) t
theorem rr:∀ {fs t:List af},az t->(∀ f∈fs,bD f)->az (fN t fs)
 |[],_,h,_=>h
 |f::fs,t,h,r=>rr (fs:=fs) (kz h (r f (by simp))) (λg u=>r g (by simp[u]))
theorem cM {t:List af}(h:az t):t.length<=1048576:=CF (i9 h.2 (λg r=>(h.1 g r).1)) (by decide)
theorem ux {R:Type}(a fs:List af)(O:az a)(M:∀ f∈fs,bD f)(r:List af->Option R){step:(List af×Int->Option R)->List af×Int->Option R}
  (h:∀ (rec:List af×Int->Option R) (t:List af) (i:Nat) (J:i<fs.length),az t->step rec (t,(i:Int))=rec ((bW t fs[i]).1,((i+1:Nat):Int)))
  (y:∀ (rec:List af×Int->Option R) (t:List af),step rec (t,(fs.length:Int))=r t) {k:Nat} (z:fs.length<k):ae step k (a,0)=r (fN a fs):=by
 have:∀ (d i k:Nat) (t:List af),i+d=fs.length->d<k->az t->ae step k (t,(i:Int))=r (fN t (fs.drop i)):=by
  intro d;induction d with
  |zero =>
   intro i k t J z _;obtain⟨k,rfl⟩:∃ H,k=H+1:=⟨k-1,by omega⟩;have:i=fs.length:=by omega
   subst this;show step (ae step k) _=_;rw[y,DH];rfl
  |succ d X =>
   intro i k t J z I;obtain⟨k,rfl⟩:∃ H,k=H+1:=⟨k-1,by omega⟩;have u:i<fs.length:=by omega
   show step (ae step k) _=_;rw[h _ _ _ u I,CL u];exact X (i+1) k _ (by omega) (by omega) (kz I (M _ (BW u)))
 have:=this fs.length 0 k a (by omega) z O
 rwa [CH]at this
theorem xH (f:af):¬ bO f f:=by
 unfold bO;simp
theorem pd {l:List aN}(J:cV l)(T:List Int):az (ew l T l.length):=by
 unfold ew;constructor
 ·intro f X;obtain⟨i,I,rfl⟩:=CG.1 X;obtain⟨R,h1⟩:=iu.1 (B4.1 I).1;obtain⟨b,rfl⟩:=BZ R;have O:b<l.length:=by omega
  rw[cC O];exact (J.1 l[b] (BW O)).1
 ·unfold Asc;rw[CM];have hp:((cD l.length).filter λi=>decide (i∈T)).Pairwise λ (a b:Int)=>(0<=a/\a<l.length)/\(0<=b/\b<l.length)/\a<b:=by
   refine Ct _ ?_;have:∀ u:List Int,(∀ x∈u,0<=x/\x<l.length)->u.Pairwise (·<·)->u.Pairwise λ (a b:Int)=>(0<=a/\a<l.length)/\(0<=b/\b<l.length)/\a<b:=by
    intro u z r;induction u with
    |nil=>exact List.Pairwise.nil
    |cons x u ih =>
     rw[CI]at r ⊢;exact⟨λy H=>⟨z x (by simp),z y (by simp[H]),r.1 y H⟩,ih (λy H=>z y (by simp[H])) r.2⟩
   exact this _ (λx z=>iu.1 z) (jr _)
  refine hp.imp λ {a b} h=>?_
  obtain⟨⟨Z,a1⟩,⟨b0,b1⟩,Y⟩:=h;obtain⟨i,rfl⟩:=BZ Z;obtain⟨j,rfl⟩:=BZ b0;have I:i<l.length:=by omega
  have M:j<l.length:=by omega
  rw[cC I,cC M];exact dw.1 J.2 i j I M (by omega)
theorem tq {l:List aN}(J:cV l)(T:List Int):cV (dE l T l.length):=by
 have r:∀ i (h:i<l.length),(dV l T (i:Int)).1=l[i].1:=λi h=>by
  unfold dV;rw[cC h];cases decide ((i:Int)∈T) <;> rfl
 have I:∀ i (h:i<l.length),(dV l T (i:Int)).2<=l[i].2:=λi h=>by
  unfold dV;rw[cC h];cases decide ((i:Int)∈T) with
  |true=>show l[i].2-1<=l[i].2;omega
  |false=>exact Ca _
 unfold dE;constructor
 ·intro x O;obtain⟨M,H⟩:=B4.1 O;have H:x.2>0:=by simpa using H
  obtain⟨i,u,rfl⟩:=B5 M;rw[eS]at u;rw[fA l T u]at H ⊢;have:=(J.1 l[i] (BW u));refine⟨by rw[r i u];exact this.1,?_,?_⟩
  ·omega
  ·have R:=I i u;have X:=this.2.2;omega
 ·unfold Asc;refine Ct _ ?_;rw[Cd];intro i j u y z;rw[eS]at u y;show (gj l T l.length)[i].1.1<(gj l T l.length)[j].1.1;rw[fA l T u,fA l T y,r i u,r j y];exact dw.1 J.2 i j u y z
def jb (n:aa)(to:Int):List af :=
 bif (aB (aa.table n) to).2.2.1==2 then (bW (ew (aa.cast n) (b6 (aa.cast n)) (aa.cast n).length) (aB (aa.table n) to)).1 else ew (aa.cast n) (b6 (aa.cast n)) (aa.cast n).length
def iv (n:aa):aa:=iZ n (aa.table n) (dE (aa.cast n) (b6 (aa.cast n)) (aa.cast n).length) (aa.doubts n)
theorem ko {n:aa}(h:cf n)(to:Int):az (jb n to):=by
 have r:=pd h.cast (b6 (aa.cast n));unfold jb;cases y:(aB (aa.table n) to).2.2.1==2 with
 |false=>exact r
 |true =>
  refine kz r (cm h.table ?_).1;by_cases u:∃ f∈aa.table n,f.1=to
  ·exact u
  ·rw[jM (λg z e=>u ⟨g,z,e⟩)]at y;simp at y
theorem Bs {n:aa}(h:cf n):cf (iv n):=cf.mk' h.table (tq h.cast _) h.asc h.inp
theorem clen {n:aa}(h:cf n):(aa.cast n).length<=8:=i9 h.cast.2 (λx r=>(h.cast.1 x r).1.1)
theorem qG (K:Nat)(n:aa)(to:Int)(h:cf n)(u:1048577<K):Q200.f K (n,to,())=some ((jb n to,iv n,()),()):=by
 have M:=clen h;simp only[Q200.f,zcp8];rw[show Q167.f K (n.2.2.2.2.2.2.2.2.2.1,3,())=_ from Bq K (aa.cast n) (by omega) h.cast u];simp only[BU];obtain⟨o,I,J⟩:=fI K (aa.table n) to h.lt u;rw[show Q54.f K (n.2.2.2.2.2.2.2.2.1,to,())=_ from J];simp only[BU,jb];have H:=pd h.cast (b6 (aa.cast n));cases I with
 |no r =>
  rw[jM r];rfl
 |at_ j z e =>
  have y:aB (aa.table n) to=(aa.table n)[j]:=by rw[<- e];exact jL h.table.2 (BW z)
  rw[y];simp only;rw[decide_eq_true (by omega:((j:Nat):Int)>=0),show idx n.2.2.2.2.2.2.2.2.1 ((j:Nat):Int)=some (aa.table n)[j] from ag z];simp only[cond_true,BU];cases (aa.table n)[j].2.2.1==2 with
  |false=>rfl
  |true =>
   simp only[cond_true];rw[vV K _ _ (cM H) H.2 u];rfl
theorem vW (K:Nat)(n:aa)(to:Int)(h:cf n)(r:1048577<K):Q99.f K (n,to,())=some ((jb n to,()),(iv n,())):=by
 simp only[Q99.f,zcp8];rw[show Q98.f K (n.2.2.2.2.2.2.2.2.2.1,3,())=_ from vU K (aa.cast n) (clen h) h.cast r];simp only[BU];obtain⟨b,y⟩:=ja K (aa.table n) to h.table h.lt r;rw[show Q21.f K (n.2.2.2.2.2.2.2.2.1,to,())=_ from y];simp only[BU,jb];have u:=pd h.cast (b6 (aa.cast n));cases (aB (aa.table n) to).2.2.1==2 with
 |false=>rfl
 |true =>
  simp only[cond_true];rw[zX K _ _ (cM u) u.2 r];rfl
def bo (n:aa)(k:Nat):Int:=CX (n.2.2.2.2.2.2.2.1+(k:Int)) 8
def gU (n:aa)(k:Nat):Prop:=bo n k≠n.1/\cK (aB (aa.table n) (bo n k))=true
def qH (n:aa)(to:Int):aa :=
 let m:=iv n
 (m.1,m.2.1,m.2.2.1,m.2.2.2.1,m.2.2.2.2.1,m.2.2.2.2.2.1,m.2.2.2.2.2.2.1+1,to+1,m.2.2.2.2.2.2.2.2.1,m.2.2.2.2.2.2.2.2.2.1,(to,m.2.2.2.2.2.1,m.2.2.2.2.2.2.1+1,false),m.2.2.2.2.2.2.2.2.2.2.2)
def sr (n:aa)(to:Int):ar:=(1,1,n.1,to,n.2.2.2.2.2.2.1+1,n.1,aa.coord n,jb n to)
theorem u7 (K:Nat)(n:aa)(h:cf n)(a0:0<=n.2.2.2.2.2.2.2.1)(X:n.2.2.2.2.2.2.2.1<=8)(Y:1048577<K) :
  ∃ to:Int,Q199.f K (n,())=some ((to,()),())/\((to=-1/\∀ k,k<8->¬ gU n k)\/∃ k,k<8/\gU n k/\(∀ j,j<k->¬ gU n j)/\to=bo n k):=by
 have u:∀ k:Nat,k<8->wr .i64 (n.2.2.2.2.2.2.2.1+(k:Int))=n.2.2.2.2.2.2.2.1+(k:Int):=λk M=>aA (by omega) (by omega)
 have:=bS (step:=λrec a=>Q199.s0 K (n,()) rec a) 8 (λi=>(i:Int)) (gU n) (some ((-1,()),())) (λj=>some ((bo n j,()),())) ?_ ?_ 8 K 0 (by omega) (by omega)
 ·rcases this with ⟨y,H⟩|⟨j,_,y,O,Z,H⟩
  ·exact⟨-1,H,.inl ⟨rfl,λk M=>y k (CR _) M⟩⟩
  ·exact⟨_,H,.inr ⟨j,y,O,λm R=>Z m (CR _) R,rfl⟩⟩
 ·intro rec i hi;simp only[Q199.s0];rw[decide_eq_true (by omega:(i:Int)<=7),u i hi,aq i (by omega)];simp only[cond_true];show (¬ gU n i/\(bif bo n i != n.1 then ((Q196.f K (aa.table n,bo n i,())).bind λJ=>bif J.1.1 then (some ((bo n i,()),())) else (rec ((i+1:Nat):Int))) else (rec ((i+1:Nat):Int)))=rec ((i+1:Nat):Int))\/(gU n i/\(bif bo n i != n.1 then ((Q196.f K (aa.table n,bo n i,())).bind λJ=>bif J.1.1 then (some ((bo n i,()),())) else (rec ((i+1:Nat):Int))) else (rec ((i+1:Nat):Int)))=some ((bo n i,()),()));rw[tf K (aa.table n) (bo n i) h.table h.lt Y];by_cases r:bo n i=n.1
  ·exact .inl ⟨λz=>z.1 r,by rw[show (bo n i != n.1)=false by simpa using r];rfl⟩
  ·rw[show (bo n i != n.1)=true by simpa using r];cases I:cK (aB (aa.table n) (bo n i)) with
   |true=>exact .inr ⟨⟨r,I⟩,rfl⟩
   |false=>exact .inl ⟨λz=>(by rw[z.2]at I;cases I),rfl⟩
 ·intro rec;simp only[Q199.s0];rfl
theorem zj (K:Nat)(n:aa)(h:cf n)(hp:(aa.probe n).1=-1)(a7:0<=n.2.2.2.2.2.2.1)(a8:n.2.2.2.2.2.2.1<=1000000)(a5:0<=n.2.2.2.2.2.2.2.1)(a2:n.2.2.2.2.2.2.2.1<=8)(hK:1048577<K) :
  ∃ (y:aa) (Y:List ar),Q201.f K (n,())=some ((y,Y,()),())/\Q100.f K (n,())=some ((Y,()),(y,()))/\((y=n/\Y=[])\/∃ to,y=qH n to/\Y=[sr n to]):=by
 have z:∀ k:Nat,k<8->wr .i64 (n.2.2.2.2.2.2.2.1+(k:Int))=n.2.2.2.2.2.2.2.1+(k:Int):=λk Z=>aA (by omega) (by omega)
 have I:∀ k:Nat,k<8->0<=bo n k/\bo n k<8:=λk Z=>⟨DO _ (by omega),DC _ (by omega)⟩
 obtain⟨to,es,a3⟩:=u7 K n h a5 a2 hK;simp only[Q201.f,zcp4,Q100.f,Q100.pre];rw[es,show (n.2.2.2.2.2.2.2.2.2.2.1.1 != -1)=false by show ((aa.probe n).1 != -1)=false;rw[hp];rfl];simp only[BU,cond_false];by_cases u:n.2.2.2.2.2.2.1>=999999
 ·rw[decide_eq_true u];refine⟨n,[],?_,rfl,.inl ⟨rfl,rfl⟩⟩;cases decide (to<0) <;> rfl
 ·rw[decide_eq_false u];simp only[cond_false];have O:wr .i64 (n.2.2.2.2.2.2.1+1)=n.2.2.2.2.2.2.1+1:=aA (by omega) (by omega);have J:=bS (step:=λrec a=>Q100.s0 K (n,()) rec a) 8 (λi=>(i:Int)) (gU n) (some (([],()),(n,()))) (λj=>some (([sr n (bo n j)],()),(qH n (bo n j),()))) ?_ ?_ 8 K 0 (by omega) (by omega)
  ·rcases a3 with ⟨rfl,a0⟩|⟨k,Z,H,a1,rfl⟩
   ·rcases J with ⟨_,h2⟩|⟨j,_,R,h3,_,_⟩
    ·exact⟨n,[],rfl,h2,.inl ⟨rfl,rfl⟩⟩
    ·exact absurd h3 (a0 j R)
   ·have a6:=I k Z;rcases J with ⟨R,_⟩|⟨j,_,R,h3,h4,h2⟩
    ·exact absurd H (R k (CR _) Z)
    ·have:j=k:=by
      rcases C3 j k with M|M|M
      ·exact absurd h3 (a1 j M)
      ·exact M
      ·exact absurd H (h4 k (CR _) M)
     subst this;refine⟨qH n (bo n j),[sr n (bo n j)],?_,h2,.inr ⟨_,rfl,rfl⟩⟩;rw[decide_eq_false (by omega:¬ bo n j<0)];simp only[cond_false];rw[qG K n _ h hK];simp only[BU];rw[show wr .i64 ((iv n).2.2.2.2.2.2.1+1)=n.2.2.2.2.2.2.1+1 from O,aA (n:=bo n j+1) (by omega) (by omega)];simp only[Q153.f];rw[szb _ _ _ (by omega) (by have:=cM (ko h (bo n j));simp;omega)];rfl
  ·intro rec i J;have X:=I i J;simp only[Q100.s0,zcp4];rw[decide_eq_true (by omega:(i:Int)<8),z i J,aq i (by omega)];simp only[cond_true];have a4:=tg K n (bo n i) h.table h.lt hK;rw[show CX (n.2.2.2.2.2.2.2.1+(i:Int)) 8=bo n i from rfl];by_cases r:bo n i=n.1
   ·exact .inl ⟨λX=>X.1 r,by rw[show (bo n i==n.1)=true by simpa using r];rfl⟩
   ·rw[show (bo n i==n.1)=false by simpa using r];simp only[cond_false];rw[a4];simp only[BU];cases hl:cK (aB (aa.table n) (bo n i)) with
    |false=>exact .inl ⟨λX=>(by rw[X.2]at hl;cases hl),rfl⟩
    |true =>
     refine .inr ⟨⟨r,hl⟩,?_⟩;simp only[B6,cond_false];rw[vW K n _ h hK];simp only[BU,Q81.f];rw[show wr .i64 ((iv n).2.2.2.2.2.2.1+1)=n.2.2.2.2.2.2.1+1 from O,aA (n:=bo n i+1) (by omega) (by omega)];rfl
  ·intro rec;simp only[Q100.s0,zcp4];rfl
abbrev lP:=Int×ByteArray×Bool
abbrev b7:=List aa×List lP×List Int×List af
abbrev b7.radio (w:b7):List lP:=w.2.1
abbrev b7.sides (w:b7):List Int:=w.2.2.1
abbrev b7.born (w:b7):List af:=w.2.2.2
theorem kE {n:Int}(h:InP n 0 7):ao n=n / 4:=by
 obtain⟨r,u⟩:=h;unfold ao;rw[CT r,aA (by omega) (by omega)]
theorem Ax {α:Type}{k:α->Int}{xs:List α}(h:Asc k xs):∀ i (r:i<xs.length),k (xs[0]'(by omega))+i<=k xs[i]:=by
 rw[gT]at h;intro i;induction i with
 |zero=>intro r;simp
 |succ i y =>
  intro r;have z:=y (by omega);have u:=h (i+1) r (by omega);simp only[Nat.add_sub_cancel]at u;omega
theorem uy {t:List af}{s:Int}(u:az t)(y:cj t s):t.length<=4:=by
 cases h:t.length with
 |zero=>omega
 |succ m =>
  have r:m<t.length:=by omega
  have z:0<t.length:=by omega
  have O:=Ax u.2 m r;have I:=y _ (BW r);have H:=y _ (BW z);have J:=(u.1 _ (BW r)).1;have M:=(u.1 _ (BW z)).1;rw[kE J]at I;rw[kE M]at H;omega
theorem na {z:Int}{l:List cY}(u:InP z 0 7)(h:dg z l):l=[]\/∃ x,l=[x]:=by
 match l,h with
 |[],_=>exact .inl rfl
 |[x],_=>exact .inr ⟨x,rfl⟩
 |x::y::r,h =>
  exfalso;have H:=h.1 x (by simp);have I:=h.1 y (by simp);have R:x.1<y.1:=by
   have:=h.2;unfold Asc at this;rw[CI]at this;exact this.1 y (by simp)
  have e:=kE u;obtain⟨⟨O,a2⟩,J,_⟩:=H;obtain⟨⟨b1,Y⟩,M,_⟩:=I;obtain⟨Z,X⟩:=u;rw[e]at J M;omega
theorem lQ {a:Int}{m:Nat}(u:m<4611686018427387904):0<=aT .i64 a (m:Int)/\aT .i64 a (m:Int)<=m:=by
 have h:(BitVec.ofInt 64 a &&& BitVec.ofInt 64 (m:Int)).toNat<=m:=by
  rw[BitVec.toNat_and];refine CF Nat.and_le_right ?_;rw[BitVec.toNat_ofInt];omega
 show 0<=IntKind.i64.wrap (((BitVec.ofInt 64 a &&& BitVec.ofInt 64 (m:Int)).toNat:Nat):Int)/\IntKind.i64.wrap (((BitVec.ofInt 64 a &&& BitVec.ofInt 64 (m:Int)).toNat:Nat):Int)<=m;generalize (BitVec.ofInt 64 a &&& BitVec.ofInt 64 (m:Int)).toNat=r at h ⊢;rw[Dc];omega
def gV (g:List Int)(d:Int):Int:=g.getD (BX (CX (aT .i64 d 255) (g.length:Int))) 0
theorem eT {g:List Int}{d:Int}(h:g≠[]):idx g (CX (aT .i64 d 255) (g.length:Int))=some (gV g d)/\idx g ((BX (CX (aT .i64 d 255) (g.length:Int)):Nat):Int)=some (gV g d)/\gV g d∈g:=by
 have I:0<g.length:=Cl.2 h;have H:=(lQ (a:=d) (m:=255) (by omega)).1;have u:0<=CX (aT .i64 d 255) (g.length:Int):=DO _ H;have z:CX (aT .i64 d 255) (g.length:Int)<g.length:=DC _ (by omega);unfold gV;obtain⟨v,y⟩:=BZ u;rw[y]at z ⊢;have r:v<g.length:=by omega
 rw[BY,ag r,List.getD_eq_getElem?_getD,B9 r];exact⟨rfl,rfl,BW r⟩
def jc (n:aa)(r d:Int):Int :=
 bif decide (dS (dr (aa.others n) r)≠[])&&aT .i64 d 4==0 then gV (dS (dr (aa.others n) r)) (CK d (2 ^ 3)) else r*4+aT .i64 (CK d (2 ^ 3)) 3
structure ig (n:aa):Prop where
 short:(aa.others n).length<=1
 table:∀ x∈aa.others n,az x.2/\x.2.length<=1048576
theorem xI {r d:Int}(H:0<=r)(z:r<=1):wr .i64 (wr .i64 (r*4)+aT .i64 (CK d (2 ^ 3)) 3)=r*4+aT .i64 (CK d (2 ^ 3)) 3:=by
 obtain⟨y,u⟩:=lQ (a:=CK d (2 ^ 3)) (m:=3) (by omega);have y:0<=aT .i64 (CK d (2 ^ 3)) 3:=y;have u:aT .i64 (CK d (2 ^ 3)) 3<=3:=u;rw[aA (n:=r*4) (by omega) (by omega),aA (by omega) (by omega)]
theorem far_s (K:Nat)(n:aa)(r d:Int)(h:ig n)(M:0<=r)(J:r<=1)(X:1048577<K):Q205.f K (n,r,d,())=some ((jc n r d,()),()):=by
 obtain⟨k,rfl⟩:∃ k,K=k+2:=⟨K-2,by omega⟩;show Q205.s0 (k+2) (n,r,d,()) (ae (λrec a=>Q205.s0 (k+2) (n,r,d,()) rec a) (k+1)) 0=_;have z:∀ (rec:Int->Option ((Int×Unit)×Unit)) (a:Int),¬ a<(aa.others n).length->Q205.s0 (k+2) (n,r,d,()) rec a=some ((r*4+aT .i64 (CK d (2 ^ 3)) 3,()),()):=by
  intro rec a O;simp only[Q205.s0];rw[show decide (a<(BV n.2.2.2.2.2.2.2.2.2.2.2.2.2.2:Int))=false from decide_eq_false O,xI M J];rfl
 match y:aa.others n with
 |[] =>
  rw[z _ _ (by rw[y];simp),jc,y];rfl
 |[x] =>
  have R:=h.table x (by rw[y];simp);have u:ae (λrec a=>Q205.s0 (k+2) (n,r,d,()) rec a) (k+1) 1=some ((r*4+aT .i64 (CK d (2 ^ 3)) 3,()),()):=z _ _ (by rw[y];simp);generalize ae (λrec a=>Q205.s0 (k+2) (n,r,d,()) rec a) (k+1)=rec at u ⊢;simp only[Q205.s0];rw[show decide ((0:Int)<(BV n.2.2.2.2.2.2.2.2.2.2.2.2.2.2:Int))=true from decide_eq_true (by show (0:Int)<((aa.others n).length:Int);rw[y];simp),show idx n.2.2.2.2.2.2.2.2.2.2.2.2.2.2 (0:Int)=some x by show idx (aa.others n) (0:Int)=some x;rw[y];rfl,show wr .i64 ((0:Int)+1)=1 from rfl];simp only[cond_true,BU,u];rw[jc,y];cases I:x.1==r with
  |false =>
   simp only[cond_false,dr,DL,I,List.find?_nil];rfl
  |true =>
   simp only[cond_true,dr,DL,I,De,Db];rw[uU (k+2) x.2 R.2 X];simp only[BU];by_cases H:dS x.2=[]
   ·rw[H];rfl
   ·have Y:0<(dS x.2).length:=Cl.2 H;rw[decide_eq_true H,decide_eq_true (by omega:((dS x.2).length:Int)>0)];simp only[cond_true,Cj];cases aT .i64 d 4==0 with
    |false=>rfl
    |true =>
     simp only[cond_true];rw[decide_eq_false (by omega:¬ ((dS x.2).length:Int)=0),(eT H).1,(eT H).2.1];rfl
 |_::_::_=>exact absurd h.short (by rw[y];simp)
def iR (n:aa):Bool:=decide (n.1∈dS (aa.table n))
theorem zk (K:Nat)(n:aa)(R:(aa.table n).length<=1048576)(J:1048577<K):Q204.f K (n,())=rb (iR n):=by
 simp only[Q204.f,Q204.pre];rw[show Q203.f K (n.2.2.2.2.2.2.2.2.1,2,())=_ from uU K (aa.table n) R J];simp only[BU];have O:=rj (aa.table n);unfold iR;generalize dS (aa.table n)=g at O ⊢;have:=bS (step:=λrec a=>Q204.s0 K (n,()) rec a) g.length (λi=>(g,(i:Int))) (λj=>∃ h:j<g.length,g[j]=n.1) (rb false) (λ_=>rb true) ?_ ?_ g.length K 0 (by omega) (by omega)
 ·rcases this with ⟨y,u⟩|⟨j,_,y,⟨z,M⟩,_,u⟩
  ·rw[decide_eq_false (λH=>by
    obtain⟨i,r,e⟩:=B5 H;exact y i (CR _) r ⟨r,e⟩)]
   exact u
  ·rw[decide_eq_true (M ▸ BW z:n.1∈g)];exact u
 ·intro rec i r;simp only[Q204.s0];rw[bG (by omega:(i:Int)<(BV g:Int)),ag r,aq i (by omega),BY,ag r];simp only[cond_true,BU];by_cases h:g[i]=n.1
  ·exact .inr ⟨⟨r,h⟩,by rw[show (g[i]==n.1)=true by simpa using h];rfl⟩
  ·exact .inl ⟨λ⟨_,I⟩=>h I,by rw[show (g[i]==n.1)=false by simpa using h];rfl⟩
 ·intro rec;simp only[Q204.s0,aZ];rfl
theorem zl (K:Nat)(g:List Int)(v:Int)(R:g.length<=1048576)(O:1048577<K):Q106.f K (g,v,())=rb (decide (v∈g)):=by
 have:=bS (step:=λrec a=>Q105.s0 K (g,v,()) rec a) g.length (λi=>(i:Int)) (λj=>∃ h:j<g.length,v=g[j]) (some ((-1,()),())) (λj=>some ((((j:Nat):Int),()),())) ?_ ?_ g.length K 0 (by omega) (by omega)
 ·simp only[Q106.f];rcases this with ⟨y,u⟩|⟨j,_,y,⟨z,J⟩,_,u⟩
  ·have e:Q105.f K (g,v,())=some ((-1,()),()):=u;rw[e,decide_eq_false (λH=>by
    obtain⟨i,r,M⟩:=B5 H;exact y i (CR _) r ⟨r,M.symm⟩)]
   rfl
  ·have e:Q105.f K (g,v,())=some ((((j:Nat):Int),()),()):=u;rw[e,decide_eq_true (J ▸ BW z:v∈g)];simp only[BU];rw[decide_eq_true (by omega:((j:Nat):Int)>=0)]
 ·intro rec i r;simp only[Q105.s0];rw[bG (by omega:(i:Int)<(BV g:Int)),ag r,aq i (by omega)];simp only[cond_true,BU];by_cases h:v=g[i]
  ·exact .inr ⟨⟨r,h⟩,by rw[show (v==g[i])=true by simpa using h];rfl⟩
  ·exact .inl ⟨λ⟨_,I⟩=>h I,by rw[show (v==g[i])=false by simpa using h];rfl⟩
 ·intro rec;simp only[Q105.s0,aZ];rfl
def wanW (n:aa)(d r:Int):ar:=(2,(nW 6 n (jc n r d)).2)
def iw (n:aa)(d:Int):List ar:=bif iR n then (([0,1]:List Int).filter (λs=>s != ao n.1)).map (wanW n d) else []
theorem wan_s (K:Nat)(n:aa)(d:Int)(h:ig n)(y:(aa.table n).length<=1048576)(u:1048577<K):Q206.f K (n,d,())=some ((iw n d,()),()):=by
 simp only[Q206.f,Q206.pre];rw[zk K n y u];simp only[BU,iw];cases iR n with
 |false=>rfl
 |true =>
  simp only[B6,cond_false,cond_true];refine lM (step:=λrec a=>Q206.s0 K (n,d,()) rec a) ([0,1]:List Int) (λs=>s != ao n.1) (wanW n d) (λr i=>(r,(i:Int))) (λz=>some ((z,()),())) ?_ ?_ (by simp;omega)
  ·intro rec r i M H;have I:i<2:=M;have J:([0,1]:List Int)[i]=(i:Int):=by
    have:i=0\/i=1:=by omega
    rcases this with rfl|rfl <;> rfl
   simp only[Q206.s0,J];rw[decide_eq_true (by omega:(i:Int)<=1),aq i (by omega),eQ K n.1];simp only[cond_true,BU];cases (i:Int) != ao n.1 with
   |false=>rfl
   |true =>
    simp only[cond_true];rw[far_s K n (i:Int) d h (by omega) (by omega) u];simp only[BU];refine (congrArg (λo=>CZ o _) (nX K n 6 (jc n (i:Int) d) y)).trans ?_;simp only[BU];rw[szw _ _ _ (by omega) (by simp;omega)];rfl
  ·intro rec r H;simp only[Q206.s0];rfl
theorem zm (K:Nat)(n:aa)(d:Int)(M:NB n)(h:ig n)(hT:az (aa.table n))(I:1048577<K):Q107.f K (n,d,())=some ((iw n d,()),()):=by
 have R:=M.table;simp only[Q107.f,Q107.pre];rw[show Q103.f K (n.2.2.2.2.2.2.2.2.1,2,())=_ from uV K (aa.table n) R I hT];simp only[BU];rw[zl K (dS (aa.table n)) n.1 (CF (rj _) (by decide)) I];simp only[BU,iw];show (bif !(iR n) then _ else _)=_;cases iR n with
 |false=>rfl
 |true =>
  simp only[B6,cond_false,cond_true];rw[xk K 7];simp only[BU,show wr .i64 (ao 7+1)=2 from rfl];refine lM (step:=λrec a=>Q107.s0 K (n,d,()) rec a) ([0,1]:List Int) (λs=>s != ao n.1) (wanW n d) (λr i=>(r,(2:Int),(i:Int))) (λY=>some ((Y,()),())) ?_ ?_ (by simp;omega)
  ·intro rec r i hi Z;have a0:i<2:=hi;have hv:([0,1]:List Int)[i]=(i:Int):=by
    have:i=0\/i=1:=by omega
    rcases this with rfl|rfl <;> rfl
   simp only[Q107.s0,hv];rw[decide_eq_true (by omega:(i:Int)<2),aq i (by omega),qA K n];simp only[cond_true,BU];rw[show ((i:Int) != ao n.1)=!((i:Int)==ao n.1) from rfl];cases (i:Int)==ao n.1 with
   |true=>rfl
   |false =>
    simp only[cond_false,CO,cond_true];rw[Am K n (i:Int) M I];simp only[BU];have z:az (dr (aa.others n) (i:Int))/\(dr (aa.others n) (i:Int)).length<=1048576:=by
     rcases mW (l:=aa.others n) (s:=(i:Int)) with e|⟨x,hx,_,e⟩
     ·rw[e];exact⟨⟨by simp,List.Pairwise.nil⟩,by simp⟩
     ·rw[e];exact h.table x hx
    rw[uV K _ z.2 I z.1];simp only[BU];rw[xI (by omega) (by omega)];have X:=λto=>uW K n 6 to R
    have u:∀ to,to=jc n (i:Int) d->((Q101.f K (n,6,to,())).bind λO=>bif decide ((BV r+BV ([(2,O.1.1.2)]))*104<=ak) then (rec (r++([(2,O.1.1.2)]),(2:Int),((i+1:Nat):Int))) else none)=rec (r++[wanW n d (i:Int)],(2:Int),((i+1:Nat):Int)):=by
     intro to J;rw[X to,J];simp only[BU];rw[szw _ _ _ (by omega) (by simp;omega)];rfl
    by_cases y:dS (dr (aa.others n) (i:Int))=[]
    ·rw[y];refine u _ ?_;rw[jc,y];rfl
    ·have hl:0<(dS (dr (aa.others n) (i:Int))).length:=Cl.2 y;rw[decide_eq_true (by omega:((dS (dr (aa.others n) (i:Int))).length:Int)>0)];simp only[cond_true];cases H:aT .i64 d 4==0 with
     |false =>
      refine u _ ?_;rw[jc,H,DR];rfl
     |true =>
      simp only[cond_true];rw[decide_eq_false (by omega:¬ ((dS (dr (aa.others n) (i:Int))).length:Int)=0),(eT y).1,(eT y).2.1];simp only[cond_false,BU];refine u _ ?_;rw[jc,H,decide_eq_true y];rfl
  ·intro rec r Z;simp only[Q107.s0];rfl
def nc (n:aa)(f:af):Bool:=f.2.2.1 != 4&&f.1 != n.1
def ci (n:aa):List Int:=((aa.table n).filter (nc n)).map (·.1)
def nd (n:aa)(to:Int):List ar:=match aa.others n with
 |[]=>[]
 |x::_=>[(1,6,n.1,to,0,n.1,aa.coord n,x.2)]
def ff (n:aa)(r:Int):List ar :=
 bif aT .i64 r 3==1 then iw n (CK r (2 ^ 2)) else
 bif aT .i64 r 3==3||decide (ci n=[]) then [] else
 bif aT .i64 r 3==0 then [nW 4 n (gV (ci n) (CK r (2 ^ 2)))] else nd n (gV (ci n) (CK r (2 ^ 2)))
theorem and3 (a:Int):aT .i64 a 3=0\/aT .i64 a 3=1\/aT .i64 a 3=2\/aT .i64 a 3=3:=by
 obtain⟨r,u⟩:=lQ (a:=a) (m:=3) (by omega);have r:0<=aT .i64 a 3:=r;have u:aT .i64 a 3<=3:=u;omega
theorem xJ {n:aa}(y:az (aa.table n)){v:Int}(u:v∈ci n):0<=v:=by
 obtain⟨f,r,rfl⟩:=CG.1 u;exact (y.1 f (B4.1 r).1).1.1
theorem Bt (K:Nat)(n:aa)(d:Int)(I:(aa.table n).length<=1048576)(H:1048577<K):Q202.f K (n,d,())=some ((bif decide (ci n=[]) then -1 else gV (ci n) d,()),()):=by
 refine (pK (step:=λrec a=>Q202.s0 K (n,d,()) rec a) (aa.table n) (nc n) (λf=>f.1) (λy=>some ((bif decide (y=[]) then -1 else gV y d,()),())) ?_ ?_ (by omega)).trans rfl
 ·intro rec r i z J;simp only[Q202.s0];rw[show decide ((i:Int)<(BV n.2.2.2.2.2.2.2.2.1:Int))=true from bG (by omega:(i:Int)<(BV (aa.table n):Int)),show idx n.2.2.2.2.2.2.2.2.1 (i:Int)=some (aa.table n)[i] from ag z,aq i (by omega)];simp only[cond_true,BU,nc];rw[szb _ _ _ (by omega) (by simp;omega)];cases (aa.table n)[i].1 != n.1 <;> cases (aa.table n)[i].2.2.1 != 4 <;> rfl
 ·intro rec r _;simp only[Q202.s0];rw[show decide ((BV (aa.table n):Int)<(BV n.2.2.2.2.2.2.2.2.1:Int))=false from aZ _];simp only[cond_false];by_cases u:r=[]
  ·subst u;rfl
  ·have M:0<r.length:=Cl.2 u;rw[show ((r.length:Int)==0)=false by simp;exact u,decide_eq_false (by omega:¬ (r.length:Int)=0),decide_eq_false u,(eT u).1,(eT u).2.1];rfl
theorem xK (K:Nat)(n:aa)(r:Int)(h:ig n)(J:az (aa.table n))(z:(aa.table n).length<=1048576)(I:1048577<K):Q207.f K (n,r,())=some ((ff n r,()),()):=by
 simp only[Q207.f];rw[Bt K n _ z I];simp only[BU];rw[wan_s K n _ h z I];simp only[BU,ff];by_cases u:ci n=[]
 ·rw[decide_eq_true u];simp only[cond_true,Dh,show decide ((-1:Int)>=0)=false from rfl,cond_false];rcases and3 r with e|e|e|e <;> rw[e] <;> rfl
 ·have O:=xJ J (eT (d:=CK r (2 ^ 2)) u).2.2;rw[decide_eq_false u];simp only[cond_false,Bool.or_false];rw[decide_eq_true (by omega:gV (ci n) (CK r (2 ^ 2))>=0)];simp only[cond_true];rw[show Q153.f K (n,4,gV (ci n) (CK r (2 ^ 2)),0,n.1,n.2.2.2.2.2.2.2.2.1,())=_ from nX K n 4 _ z];simp only[BU];rcases and3 r with e|e|e|e
  ·rw[e];rfl
  ·rw[e];rfl
  ·rw[e];simp only[show ((2:Int)==0)=false from rfl,show ((2:Int)==1)=false from rfl,show ((2:Int)==2)=true from rfl,show ((2:Int)==3)=false from rfl,cond_false,cond_true];unfold nd
   match y:aa.others n with
   |[] =>
    rw[show decide ((BV n.2.2.2.2.2.2.2.2.2.2.2.2.2.2:Int)>0)=false by show decide (((aa.others n).length:Int)>0)=false;rw[y];rfl];rfl
   |[x] =>
    have M:=h.table x (by rw[y];simp);have H:(aa.others n).length=1:=by rw[y];rfl
    rw[show decide ((BV n.2.2.2.2.2.2.2.2.2.2.2.2.2.2:Int)>0)=true by show decide (((aa.others n).length:Int)>0)=true;rw[H];rfl,show decide ((BV n.2.2.2.2.2.2.2.2.2.2.2.2.2.2:Int)=0)=false by show decide (((aa.others n).length:Int)=0)=false;rw[H];rfl];simp only[cond_true,cond_false];rw[show idx n.2.2.2.2.2.2.2.2.2.2.2.2.2.2 (CX (aT .i64 (CK r (2 ^ 10)) 255) (BV n.2.2.2.2.2.2.2.2.2.2.2.2.2.2:Int))=some x by
     show idx (aa.others n) (CX (aT .i64 (CK r (2 ^ 10)) 255) ((aa.others n).length:Int))=some x;rw[H,y,show ((1:Nat):Int)=1 from rfl,Int.tmod_one];rfl]
    simp only[BU,Q153.f];rw[szb _ _ _ (by omega) (by have:=M.2;simp;omega)];rfl
   |_::_::_=>exact absurd h.short (by rw[y];simp)
  ·rw[e];rfl
theorem Ay (K:Nat)(n:aa)(r:Int)(J:NB n)(h:ig n)(R:az (aa.table n))(I:1048577<K):Q109.f K (n,r,())=some ((ff n r,()),()):=by
 have M:=J.table;simp only[Q109.f,zcp4];rw[zm K n _ J h R I];simp only[BU,ff];cases aT .i64 r 3==1 with
 |true=>rfl
 |false =>
  simp only[cond_false];rw[show Q77.f K (n.2.2.2.2.2.2.2.2.1,(λX=>(Q108.f K (X.1,n,())).map λy=>y.1.1),())=_ from qE K (aa.table n) _ (nc n) M I (λf _=>by
   simp only[Q108.f,nc];cases f.2.2.1 != 4 <;> cases f.1 != n.1 <;> rfl)]
  simp only[BU];show (bif aT .i64 r 3==3 then some (([],()),()) else (bif ((ci n).length:Int)==0 then _ else _))=_;cases aT .i64 r 3==3 with
  |true=>rfl
  |false =>
   simp only[cond_false,C8];by_cases u:ci n=[]
   ·rw[decide_eq_true u,show (((ci n).length:Int)==0)=true by rw[u];rfl];rfl
   ·have Y:0<(ci n).length:=Cl.2 u;rw[decide_eq_false u,show (((ci n).length:Int)==0)=false by simp;exact u];simp only[cond_false];show (bif decide (((ci n).length:Int)=0) then none else ((idx (ci n) (CX (aT .i64 (CK r (2 ^ 2)) 255) ((ci n).length:Int))).bind λ_=>(idx (ci n) ((BX (CX (aT .i64 (CK r (2 ^ 2)) 255) ((ci n).length:Int)):Nat):Int)).bind λZ=>_))=_;rw[decide_eq_false (by omega:¬ ((ci n).length:Int)=0),(eT u).1,(eT u).2.1];simp only[cond_false,BU];cases aT .i64 r 3==0 with
    |true =>
     simp only[cond_true];rw[uW K n 4 _ M];rfl
    |false =>
     simp only[cond_false,Q81.f,BU,Q0.f];unfold nd
     match H:aa.others n with
     |[] =>
      rw[show ((BV n.2.2.2.2.2.2.2.2.2.2.2.2.2.2:Int)==0)=true by show (((aa.others n).length:Int)==0)=true;rw[H];rfl];rfl
     |[x] =>
      have O:=h.table x (by rw[H];simp);have z:(aa.others n).length=1:=by rw[H];rfl
      rw[show ((BV n.2.2.2.2.2.2.2.2.2.2.2.2.2.2:Int)==0)=false by show (((aa.others n).length:Int)==0)=false;rw[z];rfl,show decide ((BV n.2.2.2.2.2.2.2.2.2.2.2.2.2.2:Int)=0)=false by show decide (((aa.others n).length:Int)=0)=false;rw[z];rfl];simp only[cond_false];rw[show idx n.2.2.2.2.2.2.2.2.2.2.2.2.2.2 (CX (aT .i64 (CK (CK r (2 ^ 2)) (2 ^ 10)) 255) (BV n.2.2.2.2.2.2.2.2.2.2.2.2.2.2:Int))=some x by
       show idx (aa.others n) (CX (aT .i64 (CK (CK r (2 ^ 2)) (2 ^ 10)) 255) ((aa.others n).length:Int))=some x;rw[z,H,show ((1:Nat):Int)=1 from rfl,Int.tmod_one];rfl]
      simp only[BU];rw[d9 (by have:=O.2;omega)];rfl
     |_::_::_=>exact absurd h.short (by rw[H];simp)
def rk (f:af):Int:=f.2.1*16+f.2.2.1*2+(if f.2.2.2=true then 1 else 0)
theorem qI {f g:af}(r:bD f)(u:bD g):bO f g<->rk g<rk f:=by
 obtain⟨_,_,y,z⟩:=r;obtain⟨_,_,I,H⟩:=u;unfold bO rk;by_cases a:f.2.1=g.2.1
 ·rw[if_neg (by simpa using a)];by_cases c:f.2.2.1=g.2.2.1
  ·rw[if_neg (by simpa using c),a,c];cases f.2.2.2 <;> cases g.2.2.2 <;> simp <;> omega
  ·rw[if_pos c];cases f.2.2.2 <;> cases g.2.2.2 <;> simp <;> omega
 ·rw[if_pos a];cases f.2.2.2 <;> cases g.2.2.2 <;> simp <;> omega
theorem ox {t:List af}(H:Asc (λg:af=>g.1) t)(f:af):bW t f=(t,false)\/(bW t f=(bL (λg=>g.1) f t,true)/\∀ g∈t,g.1=f.1->bO f g):=by
 by_cases h:∃ g∈t,g.1=f.1
 ·obtain⟨g,r,e⟩:=h;obtain⟨i,I,rfl⟩:=B5 r;rw[ky H I e];by_cases y:bO f t[i]
  ·rw[if_pos y];refine .inr ⟨rfl,λM u J=>?_⟩;rw[fK H u r (by rw[e,J])];exact y
  ·rw[if_neg y];exact .inl rfl
 ·have z:∀ g∈t,g.1≠f.1:=λg r e=>h ⟨g,r,e⟩
  exact .inr ⟨is z,λg r e=>absurd e (z g r)⟩
theorem oy {n:aa}(Y:az (aa.table n)):iK n<->(∀ d∈aa.doubts n,lK n d)/\Asc (λd:aY=>d.1) (aa.doubts n)/\∀ f∈aa.table n,f.2.2.1=2->∃ d∈aa.doubts n,d.1=f.1:=by
 have J:((aW (aa.table n)).map (λf:af=>f.1)).Pairwise (·<·):=by
  rw[CM];exact Ct _ Y.2
 constructor
 ·rintro⟨h1,h2,h3⟩;refine⟨h1,h2,λf H u=>?_⟩;have r:((aa.doubts n).map (λd:aY=>d.1)).Pairwise (·<·):=by rw[CM];exact h2
  have:=(jn _ _ r J (λx y=>by
   obtain⟨d,r,rfl⟩:=CG.1 y;obtain⟨⟨g,I,e,M,_⟩,_⟩:=h1 d r;exact CG.2 ⟨g,B4.2 ⟨I,by simpa using M⟩,e⟩)).2 (by rw[CB,CB,h3])
  have O:f.1∈(aW (aa.table n)).map (λf:af=>f.1):=CG.2 ⟨f,B4.2 ⟨H,by simpa using u⟩,rfl⟩;rw[<- this]at O;obtain⟨d,r,e⟩:=CG.1 O;exact⟨d,r,e⟩
 ·rintro⟨h1,h2,h3⟩;refine⟨h1,h2,?_⟩;have r:((aa.doubts n).map (λd:aY=>d.1)).Pairwise (·<·):=by rw[CM];exact h2
  have X:=(jn _ _ r J (λx y=>by
   obtain⟨d,r,rfl⟩:=CG.1 y;obtain⟨⟨g,I,e,M,_⟩,_⟩:=h1 d r;exact CG.2 ⟨g,B4.2 ⟨I,by simpa using M⟩,e⟩)).1
  have R:=(jn _ _ J r (λx y=>by
   obtain⟨f,H,rfl⟩:=CG.1 y;obtain⟨z,u⟩:=B4.1 H;obtain⟨d,r,e⟩:=h3 f z (by simpa using u);exact CG.2 ⟨d,r,e⟩)).1
  rw[CB,CB]at X R;omega
def aL (n:aa):Int:=n.2.2.2.2.2.1
def ft (n:aa)(b:Int):Prop:=InP b 0 7/\ao b=ao n.1
theorem lk {n:aa}(r:Asc (λg:af=>g.1) (aa.table n))(f:af)(b:Int):sayOf n f b=n \/
  (sayOf n f b=iZ n (bL (λg=>g.1) f (aa.table n)) (dx (aa.cast n) f) (bif i8 n f then aa.doubts n else cB (aL n) (aa.doubts n) f b)/\∀ g∈aa.table n,g.1=f.1->bO f g):=by
 rcases ox r f with h|⟨h,u⟩
 ·left;unfold sayOf;rw[h];rfl
 ·right;refine⟨?_,u⟩;unfold sayOf;rw[h];rfl
theorem vX {n:aa}{f:af}{b:Int}(R:az (aa.table n))(hD:iK n)(hf:bD f)(hb:ft n b)(hn:0<=aL n)(c:List aN) :
  iK (iZ n (bL (λg=>g.1) f (aa.table n)) c (bif i8 n f then aa.doubts n else cB (aL n) (aa.doubts n) f b)):=by
 obtain⟨h1,h2,h3⟩:=(oy R).1 hD;have a0:az (bL (λg:af=>g.1) f (aa.table n)):=⟨λg y=>by
  rcases bd.1 y with rfl|⟨y,_⟩
  ·exact hf
  ·exact R.1 g y,fy R.2⟩
 refine (oy (n:=iZ n _ c _) a0).2 ?_;have I:∀ d∈aa.doubts n,d.1≠f.1->∀ ds,lK (iZ n (bL (λg:af=>g.1) f (aa.table n)) c ds) d:=λd z u ds=>by
  obtain⟨⟨g,y,X,Y,O⟩,r⟩:=h1 d z;exact⟨⟨g,bd.2 (.inr ⟨y,by rw[X];exact u⟩),X,Y,O⟩,r⟩
 have J:∀ g∈bL (λg:af=>g.1) f (aa.table n),g.1≠f.1->g.2.2.1=2->∃ d∈aa.doubts n,d.1=g.1:=λg y u h=>by
  rcases bd.1 y with rfl|⟨y,_⟩
  ·exact absurd rfl u
  ·exact h3 g y h
 cases hs:i8 n f with
 |true =>
  obtain⟨g0,M,s1,s2,s3⟩:=of_decide_eq_true hs;refine⟨λd z=>?_,h2,λg y h=>?_⟩
  ·by_cases u:d.1=f.1
   ·obtain⟨⟨g,y,X,Y,O⟩,r⟩:=h1 d z;rw[fK R.2 y M (by rw[X,s1,u])]at Y O;exact⟨⟨f,bd.2 (.inl rfl),u.symm,by rw[<- s3];exact Y,by rw[<- s2];exact O⟩,r⟩
   ·exact I d z u _
  ·by_cases u:g.1=f.1
   ·have a1:g=f:=by
     rcases bd.1 y with h|⟨_,h⟩
     ·exact h
     ·exact absurd u h
    rw[a1]at h ⊢;obtain⟨d,z,e⟩:=h3 g0 M (by rw[s3];exact h);exact⟨d,z,by rw[e,s1]⟩
   ·exact J g y u h
 |false =>
  by_cases H:f.2.2.1=2
  ·have e:cB (aL n) (aa.doubts n) f b=bL (λd=>d.1) (mkD (aL n) f b) (aa.doubts n):=by unfold cB;rw[if_pos H]
   simp only[cond_false];rw[e];refine⟨λd z=>?_,fy h2,λg y h=>?_⟩
   ·rcases bd.1 z with rfl|⟨z,u⟩
    ·exact⟨⟨f,bd.2 (.inl rfl),rfl,H,rfl⟩,⟨hn,Ca _⟩,List.cons_ne_nil _ _,λx hx=>by rw[CU.1 hx];exact hb,DI _ _⟩
    ·exact I d z u _
   ·by_cases u:g.1=f.1
    ·exact⟨mkD (aL n) f b,bd.2 (.inl rfl),u.symm⟩
    ·obtain⟨d,z,e⟩:=J g y u h;exact⟨d,bd.2 (.inr ⟨z,λe'=>u (e.symm.trans e')⟩),e⟩
  ·have e:cB (aL n) (aa.doubts n) f b=(aa.doubts n).filter (λd=>!(d.1==f.1)):=by unfold cB;rw[if_neg H]
   simp only[cond_false];rw[e];refine⟨λd z=>?_,mj h2 _,λg y h=>?_⟩
   ·obtain⟨z,u⟩:=B4.1 z;exact I d z (by simpa using u) _
   ·have u:g.1≠f.1:=λu=>by
     rcases bd.1 y with Z|⟨_,Z⟩
     ·rw[Z]at h;exact H h
     ·exact Z u
    obtain⟨d,z,e⟩:=J g y u h;exact⟨d,B4.2 ⟨z,by rw[e];simpa using u⟩,e⟩
theorem vY {n:aa}{f:af}(X:az (aa.table n))(O:cV (aa.cast n))(Y:hZ (aa.table n) (aa.cast n))(M:bD f)(R:∀ g∈aa.table n,g.1=f.1->bO f g) :
  hZ (bL (λg=>g.1) f (aa.table n)) (dx (aa.cast n) f):=by
 have H:∀ x∈aa.cast n,∃ g∈bL (λg:af=>g.1) f (aa.table n),g.1=x.1.1/\¬ bO x.1 g:=λx r=>by
  obtain⟨g,J,e,y⟩:=Y x r;by_cases u:g.1=f.1
  ·refine⟨f,bd.2 (.inl rfl),by rw[<- e,u],λh=>y ?_⟩;have I:=(O.1 x r).1;have z:=X.1 g J;have:=R g J u;rw[qI M z]at this;rw[qI I M]at h;rw[qI I z];omega
  ·exact⟨g,bd.2 (.inr ⟨J,u⟩),e,y⟩
 intro x r;unfold dx at r;split at r
 ·exact H x r
 ·rcases bd.1 r with rfl|⟨r,_⟩
  ·exact⟨f,bd.2 (.inl rfl),rfl,xH f⟩
  ·exact H x r
structure UpX (n:aa):Prop where
 me:InP n.1 0 7
 now0:0<=aL n
 table:az (aa.table n)
 site:cj (aa.table n) (ao n.1)
 cast:cV (aa.cast n)
 vs:hZ (aa.table n) (aa.cast n)
 probe:c5 n
 doubts:iK n
 coord:cJ (aa.coord n)
 places:eK n.1 (aa.places n)
 others:dg n.1 (aa.others n)
theorem UpX.of {n:aa}(h:UpP n)(R:InP n.1 0 7)(J:0<=aL n):UpX n:=by
 obtain⟨M,H,_,⟨X,z⟩,I,O,u,y,r⟩:=h;exact⟨R,J,M,H,X,z,I,O,u,y,r⟩
theorem UpX.up {n:aa}(h:UpX n)(r:dk n):UpP n:=⟨h.table,h.site,r,⟨h.cast,h.vs⟩,h.probe,h.doubts,h.coord,h.places,h.others⟩
theorem UpX.say {n:aa}(h:UpX n):cf n:=by
 refine cf.mk' h.table h.cast h.doubts.2.1 λd u=>?_
 obtain⟨f,r,e,_⟩:=(h.doubts.1 d u).1;rw[<- e];exact (h.table.1 f r).1
theorem ft.me {n:aa}(h:InP n.1 0 7):ft n n.1:=⟨h,rfl⟩
theorem ru {n m:aa}(h:c5 n)(I:m.1=n.1)(hp:aa.probe m=aa.probe n)(ht:∀ g∈aa.table n,∃ y∈aa.table m,y.1=g.1)(X:aL n<=aL m)(O:n.2.2.2.2.2.2.1<=m.2.2.2.2.2.2.1):c5 m:=by
 unfold c5 at h ⊢;rw[hp,I];split at h
 ·rename_i r;rw[if_pos r];exact h
 ·rename_i r;rw[if_neg r];obtain⟨R,⟨g,M,H⟩,⟨J,Z⟩,⟨z,p5⟩⟩:=h;obtain⟨y,u,Y⟩:=ht g M;exact⟨R,⟨y,u,Y.trans H⟩,⟨J,DA Z X⟩,⟨z,DA p5 O⟩⟩
theorem UpX.said {n:aa}{f:af}{b:Int}(h:UpX n)(u:bD f)(z:ao f.1=ao n.1)(H:ft n b):UpX (sayOf n f b):=by
 rcases lk h.table.2 f b with e|⟨e,I⟩
 ·rw[e];exact h
 ·have y:=λg r=>iO (n:=n) (f:=f) (b:=b) (g:=g) r
  rw[e]at y ⊢;refine⟨h.me,h.now0,⟨λg r=>?_,fy h.table.2⟩,λg r=>?_,pQ h.cast u,vY h.table h.cast h.vs u I,ru h.probe rfl rfl y (Ca _) (Ca _),vX h.table h.doubts u H h.now0 _,h.coord,h.places,h.others⟩
  ·rcases bd.1 r with rfl|⟨r,_⟩
   ·exact u
   ·exact h.table.1 g r
  ·rcases bd.1 r with rfl|⟨r,_⟩
   ·exact z
   ·exact h.site g r
theorem rv {n:aa}(u:Asc (λg:af=>g.1) (aa.table n)){f g:af}{b:Int}(r:g.1≠f.1):g∈aa.table (sayOf n f b)<->g∈aa.table n:=by
 rcases lk u f b with e|⟨e,_⟩
 ·rw[e]
 ·rw[e];exact bd.trans ⟨λh=>h.elim (λh=>absurd (by rw[h]) r) (·.1),λh=>.inr ⟨h,r⟩⟩
theorem ne {n:aa}(y:Asc (λg:af=>g.1) (aa.table n)){f:af}{b:Int}(h:∀ g∈aa.table n,g.1=f.1->bO f g):f∈aa.table (sayOf n f b):=by
 have I:bW (aa.table n) f=(bL (λg=>g.1) f (aa.table n),true):=by
  rcases ox y f with e|⟨e,_⟩
  ·by_cases u:∃ g∈aa.table n,g.1=f.1
   ·obtain⟨g,r,z⟩:=u;obtain⟨i,H,rfl⟩:=B5 r;rw[ky y H z,if_pos (h _ r z)]
   ·exact is λg r e=>u ⟨g,r,e⟩
  ·exact e
 unfold Go.Proofs.YtaegajachoklkaaGreatEv.sayOf;rw[I];exact bd.2 (.inl rfl)
def OnN (n m:aa):Prop:=∃ t c r,m=iZ n t c r
theorem OnN.refl (n:aa):OnN n n:=⟨_,_,_,rfl⟩
theorem OnN.say {n m:aa}(h:OnN n m)(f:af)(b:Int):OnN n (Go.Proofs.YtaegajachoklkaaGreatEv.sayOf m f b):=by
 obtain⟨t,c,y,rfl⟩:=h;obtain⟨u,z,r,e,_⟩:=iN (iZ n t c y) f b;exact⟨u,z,r,e⟩
def mq (n:aa):af:=(n.1,n.2.2.2.2.1,(if n.2.2.1=true then 4 else 1),n.2.2.2.1)
theorem pe {n m:aa}(I:Asc (λg:af=>g.1) (aa.table m))(y:OnN n m){f:af}{b:Int}(r:f.1≠n.1)(h:dk m):dk (sayOf m f b):=by
 obtain⟨t,c,M,e⟩:=y.say f b;obtain⟨R,O,J,H⟩:=y;have z:mq n∈aa.table m:=by rw[H]at h ⊢;exact h
 have u:=(rv I (f:=f) (b:=b) (g:=mq n) (λh=>r h.symm)).2 z;rw[e]at u ⊢;exact u
theorem zn {n:aa}(h:UpX n)(y:dk n){d:aY}(H:d∈aa.doubts n):d.1≠n.1:=by
 obtain⟨⟨g,I,e,r,_⟩,_⟩:=h.doubts.1 d H;intro z;have u:mq n∈aa.table n:=y;have:=fK h.table.2 I u (by rw[e,z];rfl);rw[this]at r;revert r;show (if n.2.2.1=true then (4:Int) else 1)=2->False;split <;> omega
theorem jP {n:aa}(h:UpX n)(Z:dk n):UpX (cl n)/\dk (cl n)/\OnN n (cl n):=by
 have:=kD (st:=aQ) (Inv:=λm=>(UpX m/\dk m/\OnN n m)/\∀ g∈aa.table n,∃ X∈aa.table m,X.1=g.1) (ds:=aa.doubts n) (n:=n) ⟨⟨h,Z,OnN.refl n⟩,λg u=>⟨g,u,rfl⟩⟩ ?_
 ·exact this.1
 ·rintro m d hd ⟨⟨r,y,O⟩,R⟩;have I:=zn h Z hd;unfold aQ;cases eR m.2.2.2.2.2.1 d.2.2.1 d.2.2.2.length with
  |false=>exact⟨⟨r,y,O⟩,R⟩
  |true =>
   obtain⟨⟨g,u,e,_⟩,_⟩:=h.doubts.1 d hd;obtain⟨X,M,e'⟩:=R g u;obtain⟨h1,h2,h3⟩:=cm r.table ⟨X,M,e'.trans e⟩;have z:ao (fU (aB (aa.table m) d.1)).1=ao m.1:=by
    show ao (aB (aa.table m) d.1).1=ao m.1;exact r.site _ h3
   have H:(fU (aB (aa.table m) d.1)).1≠n.1:=by rw[show (fU (aB (aa.table m) d.1)).1=_ from h2];exact I
   refine⟨⟨r.said (lO h1) z (ft.me r.me),pe r.table.2 O H y,O.say _ _⟩,λg u=>?_⟩;obtain⟨g1,Y,e1⟩:=R g u;obtain⟨g2,J,e2⟩:=iO (f:=fU (aB (aa.table m) d.1)) (b:=m.1) Y;exact⟨g2,J,e2.trans e1⟩
theorem UpX.setProbe {n:aa}(h:UpX n){p:af}(r:c5 (setP n p)):UpX (setP n p):=⟨h.me,h.now0,h.table,h.site,h.cast,h.vs,r,h.doubts,h.coord,h.places,h.others⟩
theorem xL (n:aa):c5 (setP n noP):=by
 unfold c5;exact (if_pos rfl).mpr rfl
theorem xM {n:aa}(h:UpX n)(z:dk n):UpX (aS n).1/\dk (aS n).1/\∃ p,OnN (setP n p) (aS n).1:=by
 have r:UpX n/\dk n/\∃ p,OnN (setP n p) n:=⟨h,z,aa.probe n,OnN.refl n⟩;have y:UpX (setP n noP):=h.setProbe (xL n);unfold aS;cases X:(aa.probe n).1==-1 with
 |true=>exact r
 |false =>
  have H:(aa.probe n).1≠-1:=by simpa using X
  have u:=h.probe;unfold c5 at u;rw[if_neg H]at u;simp only[cond_false];cases O:cK (aB (aa.table n) (aa.probe n).1) with
  |false=>exact⟨y,z,_,OnN.refl _⟩
  |true =>
   obtain⟨J,M,R⟩:=cm h.table (eC O);simp only[B6,cond_false];cases decide (n.2.2.2.2.2.1-(aa.probe n).2.1>=4) with
   |true =>
    simp only[cond_true];cases (aB (aa.table n) (aa.probe n).1).2.2.1==1 with
    |true =>
     have I:ao (ml (aB (aa.table n) (aa.probe n).1)).1=ao (setP n noP).1:=by
      show ao (aB (aa.table n) (aa.probe n).1).1=ao n.1;exact h.site _ R
     refine⟨y.said (qF J) I (ft.me (n:=setP n noP) h.me),pe (n:=setP n noP) (m:=setP n noP) h.table.2 (OnN.refl (setP n noP)) ?_ z,noP,(OnN.refl (setP n noP)).say _ _⟩;rw[show (ml (aB (aa.table n) (aa.probe n).1)).1=_ from M];exact u.1
    |false=>exact⟨y,z,_,OnN.refl _⟩
   |false =>
    simp only[cond_false];cases decide (n.2.2.2.2.2.1-(aa.probe n).2.1>=2) with
    |false=>exact r
    |true =>
     simp only[cond_true];cases (aa.probe n).2.2.2 with
     |true=>exact r
     |false =>
      refine⟨h.setProbe ?_,z,_,OnN.refl _⟩;show c5 (jO n);unfold c5;rw[if_neg (show ¬ (aa.probe (jO n)).1=-1 from H)];exact u
def gE (n:aa):Option Int:=((List.range 8).map (bo n)).find? λx=>x != n.1&&cK (aB (aa.table n) x)
def dm (n:aa):Int:=n.2.2.2.2.2.2.1
def dF (n:aa):aa×List ar:=bif decide (dm n>=999999) then (n,[]) else match gE n with
 |some to=>(qH n to,[sr n to])
 |none=>(n,[])
theorem rx {n:aa}{to:Int}(h:gE n=some to):to≠n.1/\cK (aB (aa.table n) to)=true:=by
 have:=DM h;simpa using this
theorem xN {l:List aN}{T:List Int}{x:aN}(h:x∈dE l T l.length):∃ y∈l,x.1=y.1:=by
 unfold dE at h;obtain⟨u,_⟩:=B4.1 h;obtain⟨i,r,rfl⟩:=B5 u;rw[eS]at r;rw[fA l T r];refine⟨l[i],BW r,?_⟩;unfold dV;rw[cC r];cases decide ((i:Int)∈T) <;> rfl
theorem UpX.way {n:aa}(h:UpX n):UpX (iv n):=⟨h.me,h.now0,h.table,h.site,tq h.cast _,λx H=>by
 obtain⟨y,u,e⟩:=xN H;obtain⟨g,I,z,r⟩:=h.vs y u;exact⟨g,I,by rw[e,z],by rw[e];exact r⟩,h.probe,h.doubts,h.coord,h.places,h.others⟩
structure tr (n:aa):Prop where
 seq:InP (dm n) 0 999999
 turn:InP n.2.2.2.2.2.2.2.1 0 8
theorem Bu {n:aa}(h:UpX n)(u:dk n)(z:tr n):UpX (dF n).1/\dk (dF n).1/\tr (dF n).1/\(dF n).1.1=n.1/\aL (dF n).1=aL n/\(dF n).1.2.2.2.2.1=n.2.2.2.2.1:=by
 unfold dF;by_cases J:dm n>=999999
 ·rw[decide_eq_true J];exact⟨h,u,z,rfl,rfl,rfl⟩
 ·rw[decide_eq_false J];simp only[cond_false];cases O:gE n with
  |none=>exact⟨h,u,z,rfl,rfl,rfl⟩
  |some to =>
   obtain⟨y,X⟩:=rx O;obtain⟨M,I,R⟩:=cm h.table (eC X);obtain⟨⟨Z,Y⟩,_⟩:=z;have r:InP to 0 7:=I ▸ M.1;have H:=h.way;refine⟨⟨h.me,h.now0,h.table,h.site,H.cast,H.vs,?_,h.doubts,h.coord,h.places,h.others⟩,u,⟨⟨show 0<=dm n+1 by omega,show dm n+1<=999999 by omega⟩,show 0<=to+1 by have:=r.1;omega,show to+1<=8 by have:=r.2;omega⟩,rfl,rfl,rfl⟩;show c5 (qH n to);unfold c5;rw[if_neg (show ¬ (aa.probe (qH n to)).1=-1 by have:=r.1;show ¬ to=-1;omega)];exact⟨y,⟨_,R,I⟩,⟨h.now0,Ca _⟩,show 1<=dm n+1 by omega,Ca _⟩
def cq (n:aa):aa:=(n.1,n.2.1,n.2.2.1,n.2.2.2.1,n.2.2.2.2.1,n.2.2.2.2.2.1+1,n.2.2.2.2.2.2)
def cZ (m:aa):aa×List ar:=bif (aa.probe m).1==-1 then dF m else (m,[])
def dY (n:aa):aa×List ar:=aS (cl (cq n))
def dG (n:aa):aa:=(cZ (dY n).1).1
def nY (n:aa)(r:Int):List ar:=(dY n).2++(cZ (dY n).1).2++ff (dG n) r
theorem UpX.later {n:aa}(h:UpX n):UpX (cq n):=by
 have M:aL (cq n)=aL n+1:=rfl;have J:=h.now0;refine⟨h.me,by omega,h.table,h.site,h.cast,h.vs,ru h.probe rfl rfl (λg I=>⟨g,I,rfl⟩) (by omega) (Ca _),⟨λd H=>?_,h.doubts.2⟩,h.coord,h.places,h.others⟩;obtain⟨r,⟨u,z⟩,y⟩:=h.doubts.1 d H;exact⟨r,⟨u,DA z (show aL n<=aL (cq n) by omega)⟩,y⟩
structure UpN (n:aa):Prop where
 x:UpX n
 self:dk n
 now1:aL n<=999999
 seq:tr n
 inc:InP n.2.2.2.2.1 0 999
 up:n.2.1=true
theorem UpN.of {n:aa}(h:gn n)(y:n.2.1=true):UpN n:=by
 obtain⟨z,u,J,I,H,r⟩:=h;rw[if_pos y]at r;exact⟨UpX.of r z u.1,r.2.2.1,u.2,⟨J,I⟩,H,y⟩
theorem UpN.ok {n:aa}(h:UpN n):gn n:=⟨h.x.me,⟨h.x.now0,h.now1⟩,h.seq.seq,h.seq.turn,h.inc,by rw[if_pos h.up];exact h.x.up h.self⟩
theorem pU {n:aa}(h:UpN n)(Y:aL n<999999):UpN (dY n).1/\(dY n).1.1=n.1/\(dY n).1.2.2.1=n.2.2.1:=by
 have J:dk (cq n):=h.self;obtain⟨H,u,I⟩:=jP h.x.later J;obtain⟨y,r,p,R⟩:=xM H u;obtain⟨t,c,X,z⟩:=I;obtain⟨t',Z,O,M⟩:=R;have e:(dY n).1=_:=M;rw[z]at e;refine⟨⟨y,r,?_,⟨?_,?_⟩,?_,?_⟩,?_,?_⟩
 ·show aL (dY n).1<=999999;rw[e];show aL n+1<=999999;omega
 ·show InP (dm (dY n).1) 0 999999;rw[e];exact h.seq.seq
 ·show InP (dY n).1.2.2.2.2.2.2.2.1 0 8;rw[e];exact h.seq.turn
 ·show InP (dY n).1.2.2.2.2.1 0 999;rw[e];exact h.inc
 ·show (dY n).1.2.1=true;rw[e];exact h.up
 ·rw[e];rfl
 ·rw[e];rfl
theorem tt {m:aa}:(dF m).1.2.1=m.2.1/\(dF m).1.2.2.1=m.2.2.1:=by
 unfold dF;cases decide (dm m>=999999) with
 |true=>exact⟨rfl,rfl⟩
 |false =>
  cases gE m with
  |none=>exact⟨rfl,rfl⟩
  |some to=>exact⟨rfl,rfl⟩
theorem vZ {m:aa}(h:UpN m):UpN (cZ m).1/\(cZ m).1.1=m.1/\(cZ m).1.2.2.1=m.2.2.1:=by
 unfold cZ;cases (aa.probe m).1==-1 with
 |false=>exact⟨h,rfl,rfl⟩
 |true =>
  obtain⟨u,z,y,r,H,I⟩:=Bu h.x h.self h.seq;refine⟨⟨u,z,?_,y,?_,?_⟩,r,tt.2⟩
  ·show aL (dF m).1<=999999;rw[H];exact h.now1
  ·show InP (dF m).1.2.2.2.2.1 0 999;rw[I];exact h.inc
  ·show (dF m).1.2.1=true;rw[tt.1];exact h.up
theorem nZ {n:aa}(h:UpN n)(I:aL n<999999):UpN (dG n)/\(dG n).1=n.1/\(dG n).2.2.1=n.2.2.1:=by
 obtain⟨r,y,H⟩:=pU h I;obtain⟨z,u,J⟩:=vZ r;exact⟨z,u.trans y,J.trans H⟩
theorem zo {f g:af}(h:g.2.1<f.2.1):bO f g:=by
 unfold bO;rw[if_pos (by omega)];exact h
theorem Az {f g:af}(h:bO f g):g.2.1<=f.2.1:=by
 unfold bO at h;split at h <;> omega
theorem UpX.inc {n:aa}(h:UpX n)(i:Int):UpX (it n i):=⟨h.me,h.now0,h.table,h.site,h.cast,h.vs,h.probe,h.doubts,h.coord,h.places,h.others⟩
theorem rz {n:aa}(h:UpX n)(r:dk n){g:af}(u:g∈aa.table n)(e:g.1=n.1):g=mq n:=fK h.table.2 u r (by rw[e];rfl)
theorem xO {n:aa}(h:UpX n)(r:dk n):aB (aa.table n) n.1=mq n:=jL h.table.2 (f:=mq n) r
theorem zp {n:aa}(h:UpN n)(H:n.2.2.1=false):UpN (mY n)/\(mY n).1=n.1:=by
 have z:bD (n.1,n.2.2.2.2.1,4,n.2.2.2.1):=⟨h.x.me,h.inc,show (1:Int)<=4 by omega,show (4:Int)<=4 by omega⟩;have r:=h.x.said z rfl (ft.me h.x.me);have y:(n.1,n.2.2.2.2.1,(4:Int),n.2.2.2.1)∈aa.table (sayOf n (n.1,n.2.2.2.2.1,4,n.2.2.2.1) n.1):=ne h.x.table.2 λg u e=>by
  rw[rz h.x h.self u e];unfold bO mq;rw[H];simp
 obtain⟨t,c,I,e⟩:=(OnN.refl n).say (n.1,n.2.2.2.2.1,4,n.2.2.2.1) n.1;unfold mY;rw[e]at r y ⊢;exact⟨⟨⟨r.me,r.now0,r.table,r.site,r.cast,r.vs,r.probe,r.doubts,r.coord,r.places,r.others⟩,y,h.now1,⟨h.seq.seq,h.seq.turn⟩,h.inc,h.up⟩,rfl⟩
theorem xP {n:aa}{f:af}(h:UpN n)(y:n.2.2.1=false)(J:bD f):UpN (fV n f)/\(fV n f).1=n.1/\(fV n f).2.2.1=false:=by
 unfold fV;cases I:decide (bO f (aB (aa.table n) n.1))&&decide (f.2.1<999) with
 |false=>exact⟨h,rfl,y⟩
 |true =>
  rw[Cb,decide_eq_true_eq,decide_eq_true_eq,xO h.x h.self]at I;obtain⟨R,X⟩:=I;have O:n.2.2.2.2.1<=f.2.1:=Az R;have r:=uY (n:=n) h.x.me J X;have z:UpX (sayOf (it n (f.2.1+1)) (n.1,f.2.1+1,1,n.2.2.2.1) n.1):=(h.x.inc (f.2.1+1)).said r rfl (ft.me (n:=it n (f.2.1+1)) h.x.me);have H:(n.1,f.2.1+1,(1:Int),n.2.2.2.1)∈aa.table (sayOf (it n (f.2.1+1)) (n.1,f.2.1+1,1,n.2.2.2.1) n.1):=ne (n:=it n (f.2.1+1)) h.x.table.2 λg u e=>by
   rw[rz h.x h.self u e];exact zo (show n.2.2.2.2.1<f.2.1+1 by omega)
  obtain⟨t,c,M,e⟩:=(OnN.refl (it n (f.2.1+1))).say (n.1,f.2.1+1,1,n.2.2.2.1) n.1;simp only[cond_true];rw[show sayOf (it n (f.2.1+1)) (n.1,f.2.1+1,1,n.2.2.2.1) n.1=iZ (it n (f.2.1+1)) t c M from e]at z H ⊢;refine⟨⟨z,?_,h.now1,⟨h.seq.seq,h.seq.turn⟩,r.2.1,h.up⟩,rfl,y⟩;show (n.1,f.2.1+1,(if n.2.2.1=true then (4:Int) else 1),n.2.2.2.1)∈_;rw[y];exact H
theorem nf (f:af)(b:Int)(d:aY):(eu f b d).1=d.1/\(eu f b d).2.1=d.2.1/\(eu f b d).2.2.1=d.2.2.1:=by
 unfold eu;cases d.1==f.1&&d.2.1==f.2.1&&f.2.2.1==2 <;> exact⟨rfl,rfl,rfl⟩
theorem UpX.conf {n:aa}(h:UpX n)(f:af){b:Int}(R:ft n b):UpX (kU n f b):=by
 refine⟨h.me,h.now0,h.table,h.site,h.cast,h.vs,h.probe,⟨λd Y=>?_,?_,?_⟩,h.coord,h.places,h.others⟩
 ·obtain⟨r,z,rfl⟩:=CG.1 Y;obtain⟨H,k2,Z⟩:=nf f b r;obtain⟨⟨g,O,X,e2,J⟩,M,I,y⟩:=h.doubts.1 r z;refine⟨⟨g,O,by rw[H];exact X,e2,by rw[k2];exact J⟩,by rw[Z];exact M,?_⟩;unfold eu;cases r.1==f.1&&r.2.1==f.2.1&&f.2.2.1==2 with
  |false=>exact⟨I,y⟩
  |true =>
   refine⟨List.ne_nil_of_mem (bd.2 (.inl rfl)),λx u=>?_,fy y.2⟩;rcases bd.1 u with rfl|⟨u,_⟩
   ·exact R
   ·exact y.1 x u
 ·show Asc _ ((aa.doubts n).map (eu f b));unfold Asc;rw[CM];exact h.doubts.2.1.imp λ {a c} h=>by show (eu f b a).1<(eu f b c).1;rw[(nf f b a).1,(nf f b c).1];exact h
 ·show _=((aa.doubts n).map (eu f b)).length;rw[CB];exact h.doubts.2.2
theorem tu {n:aa}{f:af}{b:Int}(h:UpN n)(I:n.2.2.1=false)(y:bD f)(J:ao f.1=ao n.1)(z:ft n b):UpN (eE b n f)/\(eE b n f).1=n.1/\(eE b n f).2.2.1=false:=by
 unfold eE;by_cases r:f.1=n.1
 ·rw[show (f.1==n.1)=true by simpa using r];exact xP h I y
 ·rw[show (f.1==n.1)=false by simpa using r];have H:=h.x.said y J z;have u:=pe h.x.table.2 (OnN.refl n) (b:=b) r h.self;obtain⟨t,c,M,e⟩:=(OnN.refl n).say f b;simp only[cond_false];rw[show sayOf n f b=iZ n t c M from e]at H u ⊢;exact⟨⟨H.conf f z,u,h.now1,⟨h.seq.seq,h.seq.turn⟩,h.inc,h.up⟩,rfl,I⟩
theorem mr {n:aa}{t:List af}{b:Int}(h:UpN n)(M:n.2.2.1=false)(H:az t)(I:cj t (ao n.1))(y:ft n b):UpN (jq n t b)/\(jq n t b).1=n.1/\(jq n t b).2.2.1=false:=by
 refine kD (st:=eE b) (Inv:=λm=>UpN m/\m.1=n.1/\m.2.2.1=false) (ds:=t) (n:=n) ⟨h,rfl,M⟩ λm f u ⟨z,r,J⟩=>?_
 have:=tu (b:=b) z J (H.1 f u) (by rw[r];exact I f u) ⟨y.1,by rw[r];exact y.2⟩;exact⟨this.1,this.2.1.trans r,this.2.2⟩
theorem UpN.learns {n:aa}(h:UpN n):eL n:=⟨h.x.say,h.x.me,⟨_,h.self,rfl⟩,λd y=>by
 obtain⟨_,_,_,r⟩:=h.x.doubts.1 d y;exact⟨r.2,λx u=>(r.1 x u).1⟩⟩
def setO (n:aa)(o:List cY):aa:=(n.1,n.2.1,n.2.2.1,n.2.2.2.1,n.2.2.2.2.1,n.2.2.2.2.2.1,n.2.2.2.2.2.2.1,n.2.2.2.2.2.2.2.1,n.2.2.2.2.2.2.2.2.1,n.2.2.2.2.2.2.2.2.2.1,n.2.2.2.2.2.2.2.2.2.2.1,n.2.2.2.2.2.2.2.2.2.2.2.1,n.2.2.2.2.2.2.2.2.2.2.2.2.1,n.2.2.2.2.2.2.2.2.2.2.2.2.2.1,o)
theorem UpN.setOthers {n:aa}(h:UpN n){o:List cY}(r:dg n.1 o):UpN (setO n o):=⟨⟨h.x.me,h.x.now0,h.x.table,h.x.site,h.x.cast,h.x.vs,h.x.probe,h.x.doubts,h.x.coord,h.x.places,r⟩,h.self,h.now1,⟨h.seq.seq,h.seq.turn⟩,h.inc,h.up⟩
theorem wa {u s:Int}{r:List af}{o:List cY}(I:dg u o)(M:InP s 0 1)(z:s≠ao u)(O:r≠[])(J:az r)(y:cj r s):dg u (bL (λx:cY=>x.1) (s,r) o) :=
 ⟨λx H=>by
  rcases bd.1 H with rfl|⟨H,_⟩
  ·exact⟨M,z,O,J,y⟩
  ·exact I.1 x H,fy I.2⟩
def ib (l:List Int)(t:Int):List Int:=(l++[t]).drop ((l++[t]).length-3)
def dN (l:List dR)(r:Int):List Int:=((l.find? λp=>p.1==r).map (·.2.2)).getD []
def pf (l:List dR)(r:Int)(c:dD)(t:Int):List dR:=bL (λp=>p.1) (r,c,ib (dN l r) t) l
def pV (n:aa)(c:dD)(p:List dR):aa:=(n.1,n.2.1,n.2.2.1,n.2.2.2.1,n.2.2.2.2.1,n.2.2.2.2.2.1,n.2.2.2.2.2.2.1,n.2.2.2.2.2.2.2.1,n.2.2.2.2.2.2.2.2.1,n.2.2.2.2.2.2.2.2.2.1,noP,n.2.2.2.2.2.2.2.2.2.2.2.1,c,p,n.2.2.2.2.2.2.2.2.2.2.2.2.2.2)
theorem uz {l:List dR}{r:Int}{t:Int}(h:t∈dN l r):∃ p∈l,t∈p.2.2:=by
 unfold dN at h;cases u:l.find? λp=>p.1==r with
 |none=>rw[u]at h;simp at h
 |some p =>
  rw[u]at h;exact⟨p,Cw u,h⟩
theorem xQ {l:List Int}{t:Int}(y:∀ x∈l,InP x 1 60000)(r:InP t 1 60000):InP ((ib l t).length:Int) 1 3/\∀ x∈ib l t,InP x 1 60000:=by
 unfold ib;constructor
 ·simp only[CQ,CC,B3,B7];constructor <;> omega
 ·intro x u;have:=List.mem_of_mem_drop u;rcases Ce.1 this with h|h
  ·exact y x h
  ·rw[CU.1 h];exact r
theorem wb {y r:Int}{l:List dR}{c:dD}{t:Int}(h:eK y l)(R:InP r 0 7)(I:ao r=ao y)(J:r≠y)(O:cJ c)(M:InP t 1 60000):eK y (pf l r c t):=by
 have H:=xQ (l:=dN l r) (t:=t) (λx z=>by
  obtain⟨p,u,z⟩:=uz z;exact (h.1 p u).2.2.2.2.2 x z) M
 exact⟨λp u=>by
  rcases bd.1 u with rfl|⟨u,_⟩
  ·exact⟨R,I,J,O,H.1,H.2⟩
  ·exact h.1 p u,fy h.2⟩
theorem UpN.heard {n:aa}(h:UpN n){c:dD}{p:List dR}(r:cJ c)(u:eK n.1 p):UpN (pV n c p):=⟨⟨h.x.me,h.x.now0,h.x.table,h.x.site,h.x.cast,h.x.vs,xL n,h.x.doubts,r,u,h.x.others⟩,h.self,h.now1,⟨h.seq.seq,h.seq.turn⟩,h.inc,h.up⟩
theorem UpN.way {n:aa}(h:UpN n):UpN (iv n):=⟨h.x.way,h.self,h.now1,⟨h.seq.seq,h.seq.turn⟩,h.inc,h.up⟩
def Tot {α:Type}(o:Option α)(P:α->Prop):Prop:=∃ v,o=some v/\P v
section
variable {α β:Type} {P:α->Prop} {Q:β->Prop}
theorem Tot.ret {v:α}(h:P v):Tot (some v) P:=⟨v,rfl,h⟩
theorem Tot.mono {o:Option α}{r:α->Prop}(h:Tot o P)(k:∀ v,P v->r v):Tot o r:=by obtain⟨v,e,u⟩:=h;exact⟨v,e,k v u⟩
theorem Tot.bind {o:Option α}{g:α->Option β}(h:Tot o P)(k:∀ v,P v->Tot (g v) Q):Tot (o.bind g) Q:=by obtain⟨v,e,r⟩:=h;rw[e];exact k v r
theorem Tot.vl {o:Option α}{v:α}{g:α->Option β}(e:o=some v)(k:Tot (g v) Q):Tot (o.bind g) Q:=by rw[e];exact k
theorem Tot.cnd {b:Bool}{x y:Option α}(r:b=true->Tot x P)(u:b=false->Tot y P):Tot (bif b then x else y) P:=by
 cases b
 ·exact u rfl
 ·exact r rfl
theorem Tot.must {b:Bool}{x y:Option α}(r:b=true)(h:Tot x P):Tot (bif b then x else y) P:=by rw[r];exact h
theorem Tot.not {b:Bool}{x y:Option α}(r:b=false)(h:Tot x P):Tot (bif b then y else x) P:=by rw[r];exact h
theorem Tot.ix {xs:List α}{i:Int}{g:α->Option β}(u:0<=i)(z:i<xs.length)(k:∀ y∈xs,idx xs i=some y->Tot (g y) Q):Tot ((idx xs i).bind g) Q:=by
 obtain⟨n,rfl⟩:=BZ u;have r:n<xs.length:=by omega
 have:=ag r;rw[this];exact k _ (BW r) this
theorem Tot.iter {A:Type}{step:(A->Option β)->A->Option β}(Inv:A->Prop)(m:A->Nat)(h:∀ (rec:A->Option β) (a:A),Inv a->(∀ r,Inv r->m r<m a->Tot (rec r) Q)->Tot (step rec a) Q):∀ (k:Nat) (a:A),m a<k->Inv a->Tot (ae step k a) Q:=by
 intro k;induction k with
 |zero=>intro a y;omega
 |succ k I =>
  intro a y z;exact h (ae step k) a z λr u H=>I r (by omega) u
end
theorem Ret.tot {o:Option RB}{P:Prop}(h:Ret o P):Tot o λv=>(v.1.1=true<->P):=by
 obtain⟨b,e,r⟩:=h;exact⟨_,e,r⟩
section
variable {α β:Type} {Q:β->Prop}
theorem Tot.cat {x y:ByteArray}{k:ByteArray->Option β}{a b:Nat}(H:x.size<=a)(r:y.size<=b)(h:∀ z:ByteArray,z.size<=a+b->Tot (k z) Q)(u:a+b<=4611686018427387904:=by omega):Tot (aX x y k) Q:=by
 unfold aX;rw[decide_eq_true (by omega)];exact h _ (by rw[ByteArray.size_append];omega)
theorem Tot.fit {a b c:Nat}{x y:Option β}(h:Tot x Q)(u:c<=1000:=by omega)(r:a+b<=2097152:=by omega):Tot (bif decide ((a+b)*c<=ak) then x else y) Q:=by
 have:=Cz r u;rw[decide_eq_true (by unfold ak;omega)];exact h
theorem Tot.ix2 {xs:List α}{i:Int}{g:α->Option β}(r:0<=i)(u:i<xs.length)(k:∀ y∈xs,idx xs i=some y->Tot (g y) Q):Tot ((idx xs i).bind λ_=>(idx xs ((BX i:Nat):Int)).bind g) Q :=
 Tot.ix r u λy z e=>by rw[Int.toNat_of_nonneg r,e];exact k y z e
end
theorem fX (s:ByteArray):s.data.toList.length=s.size:=Array.length_toList
theorem jd (xs:List Int):(gP xs).size=xs.length:=by
 unfold gP;show (List.toArray _).size=_;rw[List.size_toArray,CB]
theorem rA (s:ByteArray):(eJ s).length=s.size:=by
 unfold eJ;rw[CB];exact fX s
theorem dec_t:∀ (d k:Nat) (n:Int),0<=n->n<10 ^ (d+1)->n<=1000000000->d<=100->d<k->Tot (Q10.f k (n,())) λr=>r.1.1.size<=d+1:=by
 intro d;induction d with
 |zero =>
  intro k n H u J R O;obtain⟨k,rfl⟩:∃ m,k=m+1:=⟨k-1,by omega⟩;show Tot (Q10.step (Q10.f k) (n,())) _;simp only[Q10.step];refine Tot.not (decide_eq_false (show ¬ n< -9223372036854775807 by omega)) (Tot.not (decide_eq_false (show ¬ n<0 by omega)) (Tot.must (decide_eq_true (show n<10 by exact u)) (Tot.ret ?_)));show (gP _).size<=1;rw[jd];exact CD _
 |succ d Y =>
  intro k n H u J R O;obtain⟨k,rfl⟩:∃ m,k=m+1:=⟨k-1,by omega⟩;show Tot (Q10.step (Q10.f k) (n,())) _;simp only[Q10.step];refine Tot.not (decide_eq_false (show ¬ n< -9223372036854775807 by omega)) (Tot.not (decide_eq_false (show ¬ n<0 by omega)) (Tot.cnd (λ_=>Tot.ret ?_) λh=>?_))
  ·show (gP _).size<=_;rw[jd];exact Nat.succ_le_succ (CR _)
  ·have h:¬ n<10:=of_decide_eq_false h;have e:C4 n 10=n / 10:=by rw[CT H]
   have y:(10:Int) ^ (d+1+1)=10 ^ (d+1)*10:=Int.pow_succ ..;have I:n / 10<10 ^ (d+1):=Int.ediv_lt_of_lt_mul (by omega) (by rw[<- y];exact u);rw[e,aA (by omega) (by omega)];refine Tot.bind (Y k (n / 10) (by omega) I (by omega) (by omega) (by omega)) λv X=>Tot.cat X (b:=1) (by rw[jd];exact CD _) (λz M=>Tot.ret M) (by omega)
theorem ll (K:Nat)(n:Int)(u:0<=n)(z:n<=999999)(y:1048577<K):Tot (Q10.f K (n,())) λr=>r.1.1.size<=6 :=
 dec_t 5 K n u (by show n<1000000;omega) (by omega) (by omega) (by omega)
theorem tv (K:Nat)(i:Int)(y:0<=i)(u:i<=4):Tot (Q137.f K (i,())) λr=>r.1.1.size<=7:=by
 have:i=0\/i=1\/i=2\/i=3\/i=4:=by omega
 rcases this with rfl|rfl|rfl|rfl|rfl <;> exact⟨_,rfl,by decide⟩
theorem tw (K:Nat)(i:Int)(y:0<=i)(u:i<=6):Tot (Q134.f K (i,())) λr=>r.1.1.size<=4:=by
 have:i=0\/i=1\/i=2\/i=3\/i=4\/i=5\/i=6:=by omega
 rcases this with rfl|rfl|rfl|rfl|rfl|rfl|rfl <;> exact⟨_,rfl,by decide⟩
theorem zq (K:Nat)(t:List af)(R:az t)(hK:1048577<K):Tot (Q140.f K (t,())) λr=>r.1.1.size<=240:=by
 have hl:=i9 R.2 (λg hg=>(R.1 g hg).1);refine Tot.iter (step:=λrec a=>Q140.s0 K (t,()) rec a) (λa=>0<=a.2/\a.2<=t.length/\(a.1.size:Int)<=30*a.2) (λa=>t.length-a.2.toNat) ?_ K _ (by show t.length-BX 0<K;omega) ⟨by show (0:Int)<=0;omega,by show (0:Int)<=_;omega,by show (0:Int)<=30*0;omega⟩;rintro rec ⟨s,i⟩ ⟨h0,h1,h2⟩ ih;simp only at h0 h1 h2 ih ⊢;simp only[Q140.s0];refine Tot.cnd (λh=>?_) λh=>?_
 ·have h:=of_decide_eq_true h;obtain⟨n,rfl⟩:=BZ h0;have hn:n<t.length:=by omega
  obtain⟨⟨f1,f2⟩,⟨f3,f4⟩,f5,f6⟩:=R.1 t[n] (BW hn);rw[ag hn,aq n (by omega)];simp only[BU];have go:∀ z:ByteArray,z.size<=s.size+29->Tot (rec (z,((n+1:Nat):Int))) λr=>r.1.1.size<=240:=λz hz=>ih _ ⟨by show (0:Int)<=((n+1:Nat):Int);omega,by show ((n+1:Nat):Int)<=_;omega,by show (z.size:Int)<=30*((n+1:Nat):Int);omega⟩ (by show t.length-BX ((n+1:Nat):Int)<t.length-BX (n:Int);omega)
  have body:∀ Y:ByteArray,Y.size<=s.size+1->Tot ((Q10.f K (t[n].1,())).bind λy3=>aX Y y3.1.1 λy4=>aX y4 (ByteArray.mk #[58]) λy5=>(Q10.f K (t[n].2.1,())).bind λy7=>aX y5 y7.1.1 λy8=>aX y8 (ByteArray.mk #[58]) λy9=>(Q137.f K (t[n].2.2.1,())).bind λy=>aX y9 y.1.1 λu=>bif t[n].2.2.2 then (aX u (ByteArray.mk #[42]) λJ=>rec (J,((n+1:Nat):Int))) else (rec (u,((n+1:Nat):Int)))) λr=>r.1.1.size<=240:=λY H =>
   Tot.bind (ll K _ f1 (by omega) hK) λv1 s1=>Tot.cat H s1 λz1 Z=>Tot.cat Z (b:=1) (by decide) λz2 X =>
   Tot.bind (ll K _ f3 (by omega) hK) λv2 s2=>Tot.cat X s2 λz3 M=>Tot.cat M (b:=1) (by decide) λz4 O =>
   Tot.bind (tv K _ (by omega) f6) λv3 s3=>Tot.cat O s3 λz5 I =>
   Tot.cnd (λ_=>Tot.cat I (b:=1) (by decide) λz6 a0=>go z6 (by omega)) λ_=>go z5 (by omega)
  exact Tot.cnd (λ_=>Tot.cat (CD _) (b:=1) (by decide) λz hz=>body z hz) λ_=>body s (by omega)
 ·have h:=of_decide_eq_false h;exact Tot.ret (by show s.size<=240;omega)
theorem oz (K:Nat)(t:List af)(z:t.length<=1048576)(u:1048577<K):Tot (Q141.f K (t,())) λr=>r.1.1.size<=240:=by
 simp only[Q141.f];refine Tot.bind (gB K t z u).tot λv y=>Tot.cnd (λ_=>Tot.ret (by show (0:Nat)<=240;omega)) λh=>?_
 have H:=y.1 (by simpa using h);exact Tot.cnd (λ_=>Tot.ret (by show (1:Nat)<=240;omega)) λ_=>Tot.bind (zq K t H u) λv h=>Tot.ret h
theorem pW (K:Nat)(n:Int)(I:-999999<=n)(H:n<=999999)(y:1048577<K):Tot (Q144.f K (n,())) λr=>r.1.1.size<=7:=by
 simp only[Q144.f];refine Tot.cnd (λh=>?_) λh=>?_
 ·have h:n<0:=of_decide_eq_true h;rw[aA (by omega) (by omega)];exact Tot.bind (ll K _ (by omega) (by omega) y) λv s=>Tot.cat (a:=1) (by decide) s λz u=>Tot.ret u
 ·have h:¬ n<0:=of_decide_eq_false h;exact Tot.bind (ll K _ (by omega) (by omega) y) λv s=>Tot.cat (a:=1) (by decide) s λz u=>Tot.ret u
theorem zr (K:Nat)(w:ar)(z:iY w)(y:1048577<K):Tot (Q145.f K (w,())) λr=>r.1.1.size<=400:=by
 obtain⟨_,⟨Z,Y⟩,⟨M,b2⟩,⟨J,c2⟩,⟨I,d2⟩,⟨R,e2⟩,⟨⟨x1,x2⟩,⟨y1,y2⟩,⟨H,z2⟩,⟨u1,u2⟩⟩,O,_⟩:=z;have X:=cM O;simp only[Q145.f];have u:(ByteArray.mk #[32]).size<=1:=by decide
 refine Tot.cnd (λ_=>?_) λ_=>?_ <;>
 exact Tot.cat (a:=3) (by decide) u λ_ h=>Tot.bind (tw K _ (by omega) Y) λ_ s=>Tot.cat h s λ_ h=>Tot.cat h u λ_ h =>
  Tot.bind (ll K _ M (by omega) y) λ_ s=>Tot.cat h s λ_ h=>Tot.cat h u λ_ h =>
  Tot.bind (ll K _ J (by omega) y) λ_ s=>Tot.cat h s λ_ h=>Tot.cat h u λ_ h =>
  Tot.bind (ll K _ I (by omega) y) λ_ s=>Tot.cat h s λ_ h=>Tot.cat h u λ_ h =>
  Tot.bind (ll K _ R (by omega) y) λ_ s=>Tot.cat h s λ_ h=>Tot.cat h u λ_ h =>
  Tot.bind (pW K _ (by show -999999<=(ar.coord w).1;omega) (by show (ar.coord w).1<=999999;omega) y) λ_ s=>Tot.cat h s λ_ h=>Tot.cat h u λ_ h =>
  Tot.bind (pW K _ (by show -999999<=(ar.coord w).2.1;omega) (by show (ar.coord w).2.1<=999999;omega) y) λ_ s=>Tot.cat h s λ_ h=>Tot.cat h u λ_ h =>
  Tot.bind (ll K _ H (by show (ar.coord w).2.2.1<=999999;omega) y) λ_ s=>Tot.cat h s λ_ h=>Tot.cat h u λ_ h =>
  Tot.bind (ll K _ (by show 0<=(ar.coord w).2.2.2;omega) (by show (ar.coord w).2.2.2<=999999;omega) y) λ_ s=>Tot.cat h s λ_ h=>Tot.cat h u λ_ h =>
  Tot.bind (oz K _ X y) λ_ s=>Tot.cat h s λ_ h=>Tot.ret (CF h (by decide))
theorem zt (K:Nat)(n:Int)(I:1048577<K):Tot (Q147.f K (n,())) λ_=>True:=by
 refine Tot.iter (step:=λrec a=>Q147.s0 K (n,()) rec a) (λa=>0<=a.2/\a.2<=8) (λa=>8-a.2.toNat) ?_ K _ (by show 8-BX 0<K;omega) ⟨by show (0:Int)<=0;omega,by show (0:Int)<=8;omega⟩;rintro rec ⟨s,i⟩ ⟨r,H⟩ u;simp only at r H u ⊢;simp only[Q147.s0];obtain⟨i,rfl⟩:=BZ r;refine Tot.cnd (λh=>?_) λ_=>Tot.ret trivial
 have h:=of_decide_eq_true h;rw[aq i (by omega)];have y:∀ z:Int,Tot (rec (z,((i+1:Nat):Int))) λ_=>True:=λz=>u _ ⟨by show (0:Int)<=((i+1:Nat):Int);omega,by show ((i+1:Nat):Int)<=8;omega⟩ (by show 8-BX ((i+1:Nat):Int)<8-BX (i:Int);omega)
 exact Tot.cnd (λ_=>y _) λ_=>y _
theorem AA (K:Nat)(s:ByteArray)(J:s.size<=1000000)(H:1048577<K):Tot (Q148.f K (s,())) λ_=>True:=by
 refine Tot.iter (step:=λrec a=>Q148.s0 K (s,()) rec a) (λa=>0<=a.2/\a.2<=s.size) (λa=>s.size-a.2.toNat) ?_ K _ (by show s.size-BX 0<K;omega) ⟨by show (0:Int)<=0;omega,by show (0:Int)<=_;omega⟩;rintro rec ⟨z,i⟩ ⟨r,I⟩ u;simp only at r I u ⊢;simp only[Q148.s0];obtain⟨i,rfl⟩:=BZ r;refine Tot.cnd (λh=>?_) λ_=>Tot.ret trivial
 have h:=of_decide_eq_true h;rw[aq i (by omega)];exact Tot.ix r (by rw[fX];exact h) λy _ _=>Tot.bind (zt K _ H) λv _=>u _ ⟨by show (0:Int)<=((i+1:Nat):Int);omega,by show ((i+1:Nat):Int)<=_;omega⟩ (by show s.size-BX ((i+1:Nat):Int)<s.size-BX (i:Int);omega)
theorem hex_t (K:Nat)(n:Int)(R:1048577<K):Tot (Q146.f K (n,())) λr=>r.1.1.size<=8:=by
 refine Tot.iter (step:=λrec a=>Q146.s0 K (n,()) rec a) (λa=>-1<=a.2/\a.2<=7/\a.1.length=7-a.2) (λa=>(a.2+1).toNat) ?_ K _ (by show BX 8<K;omega) ⟨by show (-1:Int)<=7;omega,by show (7:Int)<=7;omega,by show (0:Int)=7-7;omega⟩;rintro rec ⟨z,i⟩ ⟨M,H,I⟩ u;simp only at M H I u ⊢;simp only[Q146.s0];refine Tot.cnd (λh=>?_) λh=>?_
 ·have h:=of_decide_eq_true h;rw[aA (n:=4*i) (by omega) (by omega),aA (n:=i-1) (by omega) (by omega)];obtain⟨O,J⟩:=lQ (a:=CK n (2 ^ min (BX (4*i)) 64)) (m:=15) (by omega);refine Tot.not (decide_eq_false (by omega)) (Tot.ix O (Int.lt_of_le_of_lt J (by decide)) λy _ _=>Tot.fit ?_ (by omega) (by simp only[B3,B7];omega));exact u _ ⟨by show -1<=i-1;omega,by show i-1<=7;omega,by show ((z++[_]).length:Int)=7-(i-1);rw[CC,Cq];omega⟩ (by show BX (i-1+1)<BX (i+1);omega)
 ·have h:=of_decide_eq_false h;refine Tot.ret ?_;show (gP z).size<=8;rw[jd];omega
theorem oA (K:Nat)(w:ar)(I:(ar.table w).length<=1048576)(u:1048577<K):Tot (Q149.f K (w,())) λr=>r.1.1.size<=409/\(¬ iY w->r.1.1=ByteArray.mk #[]):=by
 simp only[Q149.f];refine Tot.bind (sY K w I u).tot λv J=>Tot.cnd (λ_=>Tot.ret ⟨by show (0:Nat)<=409;omega,λ_=>rfl⟩) λh=>?_
 have H:=J.1 (by simpa using h);exact Tot.bind (zr K w H u) λb M=>Tot.cat M (b:=1) (by decide) λz y=>Tot.bind (AA K _ (by omega) u) λs _=>Tot.bind (hex_t K _ u) λx O=>Tot.cat y O λz y=>Tot.ret ⟨y,λh=>absurd H h⟩
theorem wc (K:Nat)(s:ByteArray)(c:Int)(hs:s.size<=100000)(hK:1048577<K):Tot (Q133.f K (s,c,())) λr=>r.1.1.length<=s.size+1/\∀ p∈r.1.1,p.size<=s.size:=by
 have I:∀ i j:Nat,(s.extract i j).size<=s.size:=λi j=>by rw[C5];omega
 refine Tot.iter (step:=λrec a=>Q133.s0 K (s,c,()) rec a) (λa=>0<=a.2.1/\a.2.1<=a.2.2/\a.2.2<=s.size/\a.1.length<=a.2.2/\∀ p∈a.1,p.size<=s.size) (λa=>s.size-a.2.2.toNat) ?_ K _ (by show s.size-BX 0<K;omega) ⟨by show (0:Int)<=0;omega,by show (0:Int)<=0;omega,by show (0:Int)<=_;omega,by show (0:Int)<=0;omega,λp O=>by cases O⟩;rintro rec ⟨u,from_,i⟩ ⟨z,J,X,Y,M⟩ R;simp only at z J X Y M R ⊢;simp only[Q133.s0];obtain⟨i,rfl⟩:=BZ (DA z J);have H:∀ x:ByteArray,x.size<=s.size->∀ p∈u++[x],p.size<=s.size:=λx Z p O=>by
  rcases Ce.1 O with h|h
  ·exact M p h
  ·rw[CU.1 h];exact Z
 refine Tot.cnd (λh=>?_) λh=>?_
 ·have h:=of_decide_eq_true h;rw[aq i (by omega)];refine Tot.ix (DA z J) (by rw[fX];exact h) λy _ _=>Tot.cnd (λ_=>Tot.must (by rw[decide_eq_true z,decide_eq_true J,decide_eq_true X];rfl) (Tot.fit (R _ ⟨?_,?_,?_,?_,H _ (I _ _)⟩ ?_) (by omega) (by simp only[B3,B7];omega))) λ_=>R _ ⟨z,?_,?_,?_,M⟩ ?_
  ·show (0:Int)<=((i+1:Nat):Int);omega
  ·show ((i+1:Nat):Int)<=((i+1:Nat):Int);omega
  ·show ((i+1:Nat):Int)<=s.size;omega
  ·show ((u++[_]).length:Int)<=((i+1:Nat):Int);rw[CC,Cq];omega
  ·show s.size-BX ((i+1:Nat):Int)<s.size-BX (i:Int);omega
  ·show from_<=((i+1:Nat):Int);omega
  ·show ((i+1:Nat):Int)<=s.size;omega
  ·show (u.length:Int)<=((i+1:Nat):Int);omega
  ·show s.size-BX ((i+1:Nat):Int)<s.size-BX (i:Int);omega
 ·refine Tot.must (by rw[decide_eq_true z,decide_eq_true (by omega),decide_eq_true (Ca _)];rfl) (Tot.fit (Tot.ret ⟨?_,H _ (I _ _)⟩) (by omega) (by simp only[B3,B7];omega));show (u++[_]).length<=_;rw[CC,Cq];omega
theorem kg (K:Nat)(s:ByteArray)(Y:s.size<=100000)(X:1048577<K):Tot (Q135.f K (s,())) λ_=>True:=by
 simp only[Q135.f,Q135.pre];have r:((s.size:Int)<=6)->Tot (Q135.l0 K (s,()) (0,0)) λ_=>True:=λR=>by
  refine Tot.iter (step:=λrec a=>Q135.s0 K (s,()) rec a) (λa=>0<=a.2/\a.2<=s.size) (λa=>s.size-a.2.toNat) ?_ K _ (by show s.size-BX 0<K;omega) ⟨by show (0:Int)<=0;omega,by show (0:Int)<=_;omega⟩;rintro rec ⟨z,i⟩ ⟨u,M⟩ J;simp only at u M J ⊢;simp only[Q135.s0];obtain⟨i,rfl⟩:=BZ u;refine Tot.cnd (λh=>?_) λ_=>Tot.ret trivial
  have h:=of_decide_eq_true h;have I:((i:Nat):Int)<s.data.toList.length:=by rw[fX];exact h
  rw[aq i (by omega)];exact Tot.ix u I λy _ _=>Tot.cnd (λ_=>Tot.ret trivial) λ_=>Tot.ix u I λy _ _=>Tot.cnd (λ_=>Tot.ret trivial) λ_=>Tot.ix u I λy _ _=>J _ ⟨by show (0:Int)<=((i+1:Nat):Int);omega,by show ((i+1:Nat):Int)<=_;omega⟩ (by show s.size-BX ((i+1:Nat):Int)<s.size-BX (i:Int);omega)
 refine Tot.bind (cI K _ _ _).tot λv O=>Tot.cnd (λ_=>Tot.ret trivial) λh=>?_
 have H:=O.1 (by simpa using h);exact Tot.cnd (λh=>Tot.ix (by omega) (by rw[fX];have:=of_decide_eq_true h;omega) λy _ _=>Tot.cnd (λ_=>Tot.ret trivial) λ_=>r H.2) λ_=>r H.2
theorem u9 (K:Nat)(s:ByteArray)(J:s.size<=100000)(H:1048577<K):Tot (Q136.f K (s,())) λ_=>True:=by
 simp only[Q136.f];refine Tot.cnd (λ_=>Tot.ret trivial) λh=>?_
 have h:=of_decide_eq_false h;have z:(0:Int)<s.data.toList.length:=by rw[fX];omega
 have r:Tot (bif decide ((0:Int)<=1)&&decide ((1:Int)<=(s.size:Int))&&decide ((s.size:Int)<=(s.size:Int)) then ((Q135.f K (s.extract (BX 1) (BX (s.size:Int)),())).bind λu=>bif decide (u.1.1<0) then (some (((-1),false,()),())) else (bif s.toList==(ByteArray.mk #[45,48]).toList then (some (((-1),false,()),())) else ((idx s.data.toList 0).bind λI=>bif (I.toNat:Int)==45 then (some ((wr .i64 (0-u.1.1),true,()),())) else (some ((u.1.1,true,()),()))))) else none) λ (_:(Int×Bool×Unit)×Unit)=>True :=
  Tot.must (by rw[decide_eq_true (by omega:(0:Int)<=1),decide_eq_true (by omega:(1:Int)<=s.size),decide_eq_true (Ca _)];rfl) (Tot.bind (kg K _ (by rw[C5];omega) H) λv _=>Tot.cnd (λ_=>Tot.ret trivial) λ_=>Tot.cnd (λ_=>Tot.ret trivial) λ_=>Tot.ix (by omega) z λy _ _=>Tot.cnd (λ_=>Tot.ret trivial) λ_=>Tot.ret trivial)
 exact Tot.ix (by omega) z λy _ _=>Tot.cnd (λ_=>Tot.ix (by omega) z λy _ _=>Tot.cnd (λ_=>Tot.ret trivial) λ_=>r) λ_=>r
theorem AB (K:Nat)(s:ByteArray)(hs:s.size<=100000)(X:1048577<K):Tot (Q138.f K (s,())) λ_=>True:=by
 simp only[Q138.f,Q138.pre];have H:∀ (Y:List ByteArray) (n1 n2:Int) (b:Bool),Y.length=3->Tot (Q138.l0 K (s,()) (Y,1,n1,n2,0,b)) λ_=>True:=λY n1 n2 b hx=>by
  refine Tot.iter (step:=λrec a=>Q138.s0 K (s,()) rec a) (λa=>a.1.length=3/\1<=a.2.1/\a.2.1<=5) (λa=>5-a.2.1.toNat) ?_ K _ (by show 5-BX 1<K;omega) ⟨hx,by show (1:Int)<=1;omega,by show (1:Int)<=5;omega⟩;rintro rec ⟨ys,i,m1,m2,m3,m4⟩ ⟨Z,h1,h2⟩ ih;simp only at Z h1 h2 ih ⊢;simp only[Q138.s0];refine Tot.cnd (λh=>?_) λ_=>Tot.bind (oZ K _).tot λ_ _=>Tot.ret trivial
  have h:=of_decide_eq_true h;rw[aA (n:=i+1) (by omega) (by omega)];have go:∀ m:Int,Tot (rec (ys,i+1,m1,m2,m,m4)) λ_=>True:=λm=>ih _ ⟨Z,by show 1<=i+1;omega,by show i+1<=5;omega⟩ (by show 5-BX (i+1)<5-BX i;omega)
  exact Tot.bind (tv K i (by omega) h) λv _=>Tot.ix2 (by omega) (by omega) λy _ _=>Tot.cnd (λ_=>go _) λ_=>go _
 have u:∀ (z:ByteArray) (b:Bool),z.size<=s.size->Tot ((Q133.f K (z,58,())).bind λr=>bif (BV r.1.1:Int) != 3 then (some (((0,(0,(0,b))),false,()),())) else ((idx r.1.1 0).bind λ_=>(idx r.1.1 (BX 0:Nat)).bind λO=>(Q135.f K (O,())).bind λI=>(idx r.1.1 1).bind λ_=>(idx r.1.1 (BX 1:Nat)).bind λM=>(Q135.f K (M,())).bind λR=>Q138.l0 K (s,()) (r.1.1,1,I.1.1,R.1.1,0,b))) λ_=>True:=λz b hz =>
  Tot.bind (wc K z 58 (by omega) X) λv ⟨_,hp⟩=>Tot.cnd (λ_=>Tot.ret trivial) λh=>by
   have h3:(v.1.1.length:Int)=3:=by simpa using h
   exact Tot.ix2 (by omega) (by omega) λy J _=>Tot.bind (kg K y (by have:=hp y J;omega) X) λ_ _=>Tot.ix2 (by omega) (by omega) λy J _=>Tot.bind (kg K y (by have:=hp y J;omega) X) λ_ _=>H _ _ _ _ (by omega)
 refine Tot.cnd (λh=>?_) λ_=>u s false (CD _)
 have h:=of_decide_eq_true h;rw[aA (n:=(s.size:Int)-1) (by omega) (by omega)];exact Tot.ix (by omega) (by rw[fX];omega) λy _ _=>Tot.cnd (λ_=>Tot.must (by simp only[Cb,decide_eq_true_eq];omega) (u _ true (by rw[C5];omega))) λ_=>u s false (CD _)
theorem AC (K:Nat)(s:ByteArray)(X:s.size<=100000)(I:1048577<K):Tot (Q139.f K (s,())) λr=>r.1.1.length<=100001:=by
 simp only[Q139.f,Q139.pre];refine Tot.cnd (λ_=>Tot.ret (by show (0:Nat)<=_;omega)) λ_=>Tot.bind (wc K s 44 X I) ?_
 rintro⟨⟨xs,⟨⟩⟩,⟨⟩⟩ ⟨hl,hp⟩;dsimp only at hl hp ⊢;refine Tot.iter (step:=λrec a=>Q139.s0 K (s,()) rec a) (λa=>a.2.1=xs/\0<=a.2.2/\a.2.2<=xs.length/\(a.1.length:Int)<=a.2.2) (λa=>xs.length-a.2.2.toNat) ?_ K _ (by show xs.length-BX 0<K;omega) ⟨rfl,by show (0:Int)<=0;omega,by show (0:Int)<=_;omega,by show (0:Int)<=0;omega⟩;rintro rec ⟨u,H,i⟩ ⟨rfl,z,M,R⟩ J;simp only at z M R hl hp J ⊢;simp only[Q139.s0];obtain⟨i,rfl⟩:=BZ z;refine Tot.cnd (λh=>?_) λ_=>Tot.ret (by show u.length<=_;omega)
 have h:=of_decide_eq_true h;rw[aq i (by omega)];exact Tot.ix2 z h λy O _=>Tot.bind (AB K y (by have:=hp y O;omega) I) λv _=>Tot.cnd (λ_=>Tot.ret (by show (0:Nat)<=_;omega)) λ_=>Tot.fit (J _ ⟨rfl,by show (0:Int)<=((i+1:Nat):Int);omega,by show ((i+1:Nat):Int)<=_;omega,by show ((u++[_]).length:Int)<=((i+1:Nat):Int);rw[CC,Cq];omega⟩ (by show H.length-BX ((i+1:Nat):Int)<H.length-BX (i:Int);omega)) (by omega) (by simp only[B3,B7];omega)
theorem AD (K:Nat)(s:ByteArray)(z:s.size<=100000)(u:1048577<K):Tot (Q142.f K (s,())) λr=>r.1.1.length<=100001:=by
 simp only[Q142.f];exact Tot.bind (AC K s z u) λv y=>Tot.cnd (λ_=>Tot.ret (by show (0:Nat)<=_;omega)) λ_=>Tot.bind (oz K _ (by omega) u) λx _=>Tot.cnd (λ_=>Tot.ret (by show (0:Nat)<=_;omega)) λ_=>Tot.ret y
theorem pX (K:Nat)(s:ByteArray)(X:s.size<=100000)(H:1048577<K):Tot (Q150.f K (s,())) λr=>r.1.2.1=true->iY r.1.1:=by
 simp only[Q150.f,Q150.pre];refine Tot.bind (wc K s 32 X H) ?_;rintro⟨⟨xs,⟨⟩⟩,⟨⟩⟩ ⟨hl,hp⟩;dsimp only at hl hp ⊢;refine Tot.cnd (λ_=>Tot.ret λh=>by cases h) λ_=>Tot.cnd (λ_=>Tot.ret λh=>by cases h) λh=>?_
 have M:(xs.length:Int)=12:=by simpa using h
 have u:∀ y∈xs,y.size<=100000:=λy z=>CF (hp y z) X
 have I:∀ p:Int,Tot (Q150.l0 K (s,()) (xs,1,p,0)) λr=>r.1.2.1=true->iY r.1.1:=λp=>by
  refine Tot.iter (step:=λrec a=>Q150.s0 K (s,()) rec a) (λa=>a.1=xs/\1<=a.2.1/\a.2.1<=7) (λa=>7-a.2.1.toNat) ?_ K _ (by show 7-BX 1<K;omega) ⟨rfl,by show (1:Int)<=1;omega,by show (1:Int)<=7;omega⟩;rintro rec ⟨ys,i,p,k⟩ ⟨rfl,O,h2⟩ Y;simp only at O h2 hl M u Y ⊢;simp only[Q150.s0];refine Tot.cnd (λh=>?_) λ_=>?_
  ·have h:=of_decide_eq_true h;rw[aA (n:=i+1) (by omega) (by omega)];have R:∀ m:Int,Tot (rec (ys,i+1,p,m)) λr=>r.1.2.1=true->iY r.1.1:=λm=>Y _ ⟨rfl,by show 1<=i+1;omega,by show i+1<=7;omega⟩ (by show 7-BX (i+1)<7-BX i;omega)
   exact Tot.bind (tw K i (by omega) h) λv _=>Tot.ix2 (by omega) (by omega) λy _ _=>Tot.cnd (λ_=>R _) λ_=>R _
  ·refine Tot.ix2 (by omega) (by omega) λy z _=>Tot.bind (kg K y (u y z) H) λ_ _=>Tot.ix2 (by omega) (by omega) λy z _=>Tot.bind (kg K y (u y z) H) λ_ _=>Tot.ix2 (by omega) (by omega) λy z _=>Tot.bind (kg K y (u y z) H) λ_ _=>Tot.ix2 (by omega) (by omega) λy z _=>Tot.bind (kg K y (u y z) H) λ_ _ =>
    Tot.ix2 (by omega) (by omega) λy z _=>Tot.bind (u9 K y (u y z) H) λ_ _=>Tot.ix2 (by omega) (by omega) λy z _=>Tot.bind (u9 K y (u y z) H) λ_ _=>Tot.ix2 (by omega) (by omega) λy z _=>Tot.bind (AD K y (u y z) H) λt ht=>Tot.ix2 (by omega) (by omega) λy z _=>Tot.bind (kg K y (u y z) H) λ_ _=>Tot.ix2 (by omega) (by omega) λy z _=>Tot.bind (kg K y (u y z) H) λ_ _ =>
    Tot.cnd (λ_=>Tot.ret λh=>by cases h) λ_=>Tot.cnd (λ_=>Tot.ret λh=>by cases h) λ_=>Tot.cnd (λ_=>Tot.ret λh=>by cases h) λ_=>Tot.bind (oA K _ (by show t.1.1.length<=1048576;omega) H) λx ⟨_,hx⟩=>Tot.cnd (λ_=>Tot.ret λh=>by cases h) λJ=>Tot.ret λ_=>?_
   refine Classical.byContradiction λhn=>?_
   rw[hx hn]at J;have Z:(ByteArray.mk #[]).toList=s.toList:=by
    have:((ByteArray.mk #[]).toList != s.toList)=false:=J;simpa using this
   rw[DT,DT]at Z;have h0:=congrArg BV Z;rw[fX,fX]at h0;have O:(ByteArray.mk #[]).size=0:=rfl;omega
 exact Tot.ix2 (by omega) (by omega) λy _ _=>Tot.cnd (λ_=>I 2) λ_=>I 1
def Rt (v r:Nat):Prop:=r*r<=v/\v<(r+1)*(r+1)
theorem Bv (K:Nat)(v:Nat)(hv:v<1500000001*1500000001)(hK:1048577<K):∃ r,Rt v r/\Q173.f K ((v:Int),())=some (((r:Int),()),()):=by
 have H:∀ (e k l h:Nat),h-l<2 ^ e->e<k->l<=h->h<=1500000000->l*l<=v->v<(h+1)*(h+1)->∃ r,Rt v r/\ae (λrec a=>Q173.s0 K ((v:Int),()) rec a) k ((l:Int),(h:Int))=some (((r:Int),()),()):=by
  intro e;induction e with
  |zero =>
   intro k l h M hk z X y u;obtain⟨k,rfl⟩:∃ I,k=I+1:=⟨k-1,by omega⟩;have:l=h:=by omega
   subst this;refine⟨l,⟨y,u⟩,?_⟩;show Q173.s0 K _ _ _=_;simp only[Q173.s0];rw[decide_eq_false (by omega)];rfl
  |succ e Y =>
   intro k l h M hk z X y u;obtain⟨k,rfl⟩:∃ I,k=I+1:=⟨k-1,by omega⟩;show ∃ r,Rt v r/\Q173.s0 K _ _ _=_;simp only[Q173.s0];by_cases hl:l<h
   ·rw[decide_eq_true (show (l:Int)<(h:Int) by omega)];have e1:wr .i64 ((l:Int)+(h:Int))=(l:Int)+h:=aA (by omega) (by omega);have e2:wr .i64 ((l:Int)+(h:Int)+1)=((l+h+1:Nat):Int):=(aA (by omega) (by omega)).trans (by omega);have e3:C4 ((l+h+1:Nat):Int) 2=(((l+h+1) / 2:Nat):Int):=by
     rw[CT (by omega)];omega
    rw[e1,e2,e3];have hm:l<(l+h+1) / 2/\(l+h+1) / 2<=h:=by omega
    have J:h-(l+h+1) / 2<2 ^ e/\(l+h+1) / 2-1-l<2 ^ e:=by
     rw[Nat.pow_succ]at M;omega
    generalize (l+h+1) / 2=m at *;have Z:wr .i64 (m:Int)=m:=aA (by omega) (by omega);have e5:C4 (v:Int) (m:Int)=((v / m:Nat):Int):=by
     rw[CT (by omega)];rfl
    have a0:v / m<=v:=Nat.div_le_self _ _;have R:m<=v / m<->m*m<=v:=Nat.le_div_iff_mul_le (by omega);generalize v / m=q at *;have e6:wr .i64 (q:Int)=(q:Int):=aA (by omega) (by omega);rw[Z,e5,e6,decide_eq_false (show ¬ (m:Int)=0 by omega)];simp only[cond_true,cond_false];by_cases O:m<=q
    ·rw[decide_eq_true (by omega)];exact Y k m h J.1 (by omega) (by omega) X (R.1 O) u
    ·rw[decide_eq_false (by omega)];have a1:¬ m*m<=v:=λh4=>O (R.2 h4)
     have e7:wr .i64 ((m:Int)-1)=((m-1:Nat):Int):=fe m (by omega) (by omega);rw[e7];exact Y k l (m-1) J.2 (by omega) (by omega) (by omega) y (by rw[show m-1+1=m by omega];omega)
   ·have:l=h:=by omega
    subst this;refine⟨l,⟨y,u⟩,?_⟩;rw[decide_eq_false (by omega)];rfl
 exact H 31 K 0 1500000000 (by decide) (by omega) (by omega) (by omega) (by omega) hv
def je (x:Int):Int:=if x< -1000000000 then -1000000000 else if x>1000000000 then 1000000000 else x
theorem qJ (K:Nat)(x:Int):Q172.f K (x,())=some ((je x,()),()):=by
 simp only[Q172.f,Q169.f,je];by_cases h:x< -1000000000
 ·rw[decide_eq_true h,if_pos h];rfl
 ·rw[decide_eq_false h,if_neg h];by_cases r:x>1000000000
  ·rw[decide_eq_true r,if_pos r];rfl
  ·rw[decide_eq_false r,if_neg r];rfl
theorem tx (x:Int):-1000000000<=je x/\je x<=1000000000:=by
 unfold je;split
 ·omega
 ·split <;> omega
theorem zZ {a:Int}(h:-1000000000<=a/\a<=1000000000):0<=a*a/\a*a<=1000000000000000000:=by
 have e:∃ b:Nat,b<=1000000000/\a*a=((b*b:Nat):Int):=by
  refine⟨a.natAbs,by omega,?_⟩;exact (Int.natAbs_mul_self).symm
 obtain⟨b,r,u⟩:=e;have:=Cz r r;omega
theorem xR (K:Nat)(x y:Int)(H:1048577<K):Tot (Q174.f K (x,y,())) λ_=>True:=by
 simp only[Q174.f];rw[qJ K x,qJ K y];simp only[BU];have M:=zZ (tx x);have O:=zZ (tx y);generalize je x*je x=a at *;generalize je y*je y=b at *;have J:wr .i64 a=a:=aA (by omega) (by omega);have I:wr .i64 b=b:=aA (by omega) (by omega);have z:wr .i64 (a+b)=(((a+b).toNat:Nat):Int):=(aA (by omega) (by omega)).trans (by omega);rw[J,I,z];obtain⟨r,_,u⟩:=Bv K (a+b).toNat (by omega) H;rw[u];simp only[BU];rw[qJ K r];exact⟨_,rfl,trivial⟩
theorem Bw (K:Nat)(c d:dD)(r:1048577<K):Tot (Q175.f K (c,d,())) λ_=>True:=by
 simp only[Q175.f];exact Tot.bind (iJ K c).tot λ_ _=>Tot.cnd (λ_=>Tot.ret trivial) λ_=>Tot.bind (iJ K d).tot λ_ _=>Tot.cnd (λ_=>Tot.ret trivial) λ_=>Tot.bind (xR K _ _ r) λ_ _=>Tot.ret trivial
theorem kV (K:Nat)(n u y:Int)(h:u<=y):Tot (Q169.f K (n,u,y,())) λr=>InP r.1.1 u y:=by
 simp only[Q169.f];exact Tot.cnd (λ_=>Tot.ret ⟨Ca _,h⟩) λz=>Tot.cnd (λ_=>Tot.ret ⟨h,Ca _⟩) λH=>Tot.ret ⟨Int.not_lt.1 (of_decide_eq_false z),Int.not_lt.1 (of_decide_eq_false H)⟩
theorem Bx (K:Nat)(c b:dD)(t s:Int)(H:cJ c)(R:1048577<K):Tot (Q180.f K (c,b,t,s,())) λr=>cJ r.1.1:=by
 simp only[Q180.f];refine Tot.bind (iJ K c).tot λv O=>Tot.cnd (λh=>?_) λ_=>Tot.bind (iJ K b).tot λv O=>Tot.cnd (λ_=>Tot.ret H) λy=>Tot.bind (cI K _ _ _).tot λv' I=>Tot.cnd (λ_=>Tot.ret H) λu=>?_
 ·rw[O.2 H]at h;cases h
 have Z:=O.1 (by simpa using y);have ht:=I.1 (by simpa using u);obtain⟨_,_,_,⟨c1,c2⟩⟩:=H;obtain⟨_,_,_,⟨b1,b2⟩⟩:=Z;obtain⟨t1,t2⟩:=ht;have X:¬ wr .i64 (c.2.2.2+b.2.2.2)=0:=by rw[aA (by omega) (by omega)];omega
 have z:∀ w:Int,Tot (Q179.f K (c,b,w,t,())) λr=>InP r.1.1 1 1500:=λw=>by
  simp only[Q179.f,Q178.f];refine Tot.bind (P:=λ_=>True) (Tot.cnd (λ_=>Tot.ret trivial) λ_=>Tot.ret trivial) λ_ _=>Tot.not (decide_eq_false (show ¬ t=0 by omega)) (Tot.bind (kV K _ _ _ (by omega)) λ_ _=>Tot.not (decide_eq_false X) (Tot.bind (kV K _ _ _ (by omega)) λ_ h=>Tot.ret h))
 refine Tot.bind (Bw K c b R) λ_ _=>?_
 simp only[Q176.f];refine Tot.bind (P:=λ_=>True) (Tot.not (decide_eq_false X) (Tot.ret trivial)) λ_ _=>Tot.bind (xR K _ _ R) λn _=>Tot.cnd (λ_=>?_) λh=>?_
 ·simp only[Q177.f];refine Tot.bind (P:=λ_=>True) (Tot.cnd (λ_=>Tot.ret trivial) λ_=>Tot.cnd (λ_=>Tot.ret trivial) λ_=>Tot.cnd (λ_=>Tot.ret trivial) λ_=>Tot.ret trivial) λ_ _=>Tot.cnd (λ_=>?_) λ_=>?_ <;>
  exact Tot.bind (kV K _ _ _ (by omega)) λ_ J=>Tot.bind (kV K _ _ _ (by omega)) λ_ y=>Tot.bind (kV K _ _ _ (by omega)) λ_ u=>Tot.bind (z _) λ_ M=>Tot.ret ⟨J,y,u,M⟩
 ·have Y:¬ n.1.1=0:=by simpa using h
  refine Tot.cnd (λ_=>?_) λ_=>?_ <;>
  exact Tot.not (decide_eq_false Y) (Tot.bind (kV K _ _ _ (by omega)) λ_ J=>Tot.not (decide_eq_false Y) (Tot.bind (kV K _ _ _ (by omega)) λ_ y=>Tot.bind (kV K _ _ _ (by omega)) λ_ u=>Tot.bind (z _) λ_ M=>Tot.ret ⟨J,y,u,M⟩))
noncomputable def pY (K:Nat)(c b:dD)(t s:Int):dD:=((Q180.f K (c,b,t,s,())).getD (((0,0,0,0),()),())).1.1
noncomputable def su (K:Nat)(l:List Int):Int:=((Q181.f K (l,())).getD ((0,()),())).1.1
theorem xS (K:Nat)(c b:dD)(t s:Int)(u:cJ c)(r:1048577<K):Q180.f K (c,b,t,s,())=some ((pY K c b t s,()),())/\cJ (pY K c b t s):=by
 obtain⟨⟨⟨v,⟨⟩⟩,⟨⟩⟩,e,h⟩:=Bx K c b t s u r;unfold pY;rw[e];exact⟨rfl,h⟩
theorem med_t (K:Nat)(l:List Int)(hl:l.length<=100)(hK:1048577<K):Tot (Q181.f K (l,())) λ_=>True:=by
 simp only[Q181.f,Q181.pre];have z:∀ I:List Int,I.length<=100->Tot (Q181.l0 K (l,()) (I,[],0)) λ_=>True:=λI hx=>by
  refine Tot.iter (step:=λrec a=>Q181.s0 K (l,()) (Q181.l1 K (l,()) rec) rec a) (λa=>a.1=I/\0<=a.2.2/\a.2.2<=I.length/\(a.2.1.length:Int)=a.2.2) (λa=>I.length-a.2.2.toNat) ?_ K _ (by show I.length-BX 0<K;omega) ⟨rfl,by show (0:Int)<=0;omega,by show (0:Int)<=_;omega,rfl⟩;rintro rec ⟨ys,H,i⟩ ⟨rfl,X,h1,h2⟩ ih;simp only at X h1 h2 hx ih ⊢;simp only[Q181.s0];obtain⟨i,rfl⟩:=BZ X;refine Tot.cnd (λh=>?_) λ_=>Tot.cnd (λ_=>Tot.ret trivial) λh=>?_
  ·have J:=of_decide_eq_true h;clear h;refine Tot.iter (step:=λu a=>Q181.s1 K (l,()) rec u a) (λa=>a.1=ys/\a.2.1=H/\a.2.2.1=i/\0<=a.2.2.2/\a.2.2.2<=H.length) (λa=>H.length-a.2.2.2.toNat) ?_ K _ (by show H.length-BX 0<K;omega) ⟨rfl,rfl,rfl,by show (0:Int)<=0;omega,by show (0:Int)<=_;omega⟩;rintro u ⟨M,r,j,k⟩ ⟨rfl,rfl,e,k0,k1⟩ R;simp only at e k0 k1 J h1 h2 hx R ih ⊢;subst e;simp only[Q181.s1];obtain⟨k,rfl⟩:=BZ k0;have Z:∀ y:Int,Tot (rec (M,(([]++((r.take (BX (k:Int))).drop (BX 0)))++([y]))++((r.take (BX (BV r:Int))).drop (BX (k:Int))),wr .i64 ((i:Int)+1))) λ_=>True:=λy=>by
    rw[aq i (by omega)];refine ih _ ⟨rfl,by show (0:Int)<=((i+1:Nat):Int);omega,by show ((i+1:Nat):Int)<=_;omega,?_⟩ (by show M.length-BX ((i+1:Nat):Int)<M.length-BX (i:Int);omega);simp only[BY,Cr,CH,CA,CC,CE,CQ,B3,B7];omega
   have O:Tot (bif decide (0<=0)&&decide ((0:Int)<=(k:Int))&&decide ((k:Int)<=(BV r:Int))&&true then (bif decide ((BV ([]:List (Ty.den (.int .i64)))+BV ((r.take (BX (k:Int))).drop (BX 0)))*8<=ak) then ((idx M (i:Int)).bind λY=>bif decide ((BV ([]++((r.take (BX (k:Int))).drop (BX 0)))+BV ([Y]))*8<=ak) then (bif decide ((0:Int)<=(k:Int))&&decide ((k:Int)<=(BV r:Int))&&decide ((BV r:Int)<=(BV r:Int))&&true then (bif decide ((BV (([]++((r.take (BX (k:Int))).drop (BX 0)))++([Y]))+BV ((r.take (BX (BV r:Int))).drop (BX (k:Int))))*8<=ak) then (rec (M,(([]++((r.take (BX (k:Int))).drop (BX 0)))++([Y]))++((r.take (BX (BV r:Int))).drop (BX (k:Int))),wr .i64 ((i:Int)+1))) else none) else none) else none) else none) else none) λ_=>True:=by
    refine Tot.must (by simp only[Cb,decide_eq_true_eq,DG];omega) (Tot.fit (Tot.ix X J λy _ _=>Tot.fit (Tot.must (by simp only[Cb,decide_eq_true_eq,DG];omega) (Tot.fit (Z y) (by omega) ?_)) (by omega) ?_) (by omega) ?_) <;>
    simp only[BY,Cr,CH,CA,CC,CE,CQ,B3,B7] <;> omega
   refine Tot.cnd (λh4=>?_) λ_=>O
   have h4:=of_decide_eq_true h4;refine Tot.ix k0 h4 λy1 _ _=>Tot.ix X J λy2 _ _=>Tot.cnd (λ_=>?_) λ_=>O
   rw[aq k (by omega)];exact R _ ⟨rfl,rfl,rfl,by show (0:Int)<=((k+1:Nat):Int);omega,by show ((k+1:Nat):Int)<=_;omega⟩ (by show r.length-BX ((k+1:Nat):Int)<r.length-BX (k:Int);omega)
  ·have h:¬ (H.length:Int)=0:=by simpa using h
   rw[aA (n:=(H.length:Int)-1) (by omega) (by omega)];have e:C4 ((H.length:Int)-1) 2=((H.length:Int)-1) / 2:=by rw[CT (by omega)]
   rw[e,aA (by omega) (by omega)];exact Tot.ix (by omega) (by omega) λy _ _=>Tot.ret trivial
 refine Tot.cnd (λh=>?_) λ_=>z l hl
 have h:=of_decide_eq_true h;rw[aA (n:=(l.length:Int)-3) (by omega) (by omega)];exact Tot.must (by simp only[Cb,decide_eq_true_eq,DG];omega) (z _ (by simp only[CQ,CE];omega))
theorem med_s (K:Nat)(l:List Int)(u:l.length<=100)(r:1048577<K):Q181.f K (l,())=some ((su K l,()),()):=by
 obtain⟨⟨⟨v,⟨⟩⟩,⟨⟩⟩,e,_⟩:=med_t K l u r;unfold su;rw[e];rfl
end Go.Proofs.YtaegajachoklkaaGreatEv
