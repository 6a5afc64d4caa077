/- The marks that a law writes into what was answered, and the look whether they still stand. -/
import Derived.Test.YtaegajachoklkaaGreatP1
import Derived.Test.YtaegajachoklkaaGreatE0
import Derived.Laws.Strings
set_option linter.unusedVariables false
set_option linter.unusedSimpArgs false
open Bool renaming not_true->BT,not_false->CF,and_eq_true->CR,eq_iff_iff->CV,true_and->CZ,and_self->Ce,false_and->Ci,false_or->Cx,and_true->C7,true_or->DB,and_false->DI,or_true->DY
open ByteArray renaming size_extract->Ct
open Classical renaming not_not->Cq
open Eq renaming trans->C0
open Go.ByteArray renaming toList_eq->DK
open Go.IntKind renaming wrap_i64->DT
open Int renaming toNat->BN,toNat_natCast->BO,eq_ofNat_of_zero_le->BP,fdiv->CB,tdiv_eq_ediv_of_nonneg->CJ,tmod->CN,le_refl->CQ,toNat_zero->Ch,tdiv->Cs,le_trans->Cz,tmod_lt_of_pos->C3,tmod_eq_emod_of_nonneg->C4,le_of_lt->DA,tmod_nonneg->DF,tdiv_le_self->DU,tdiv_nonneg->DW
open List renaming length->BL,getElem_mem->BM,length_cons->BQ,mem_filter->BR,getElem_of_mem->BS,length_nil->BU,append_nil->BV,getElem?_eq_getElem->BW,nil_append->BX,length_map->BY,length_append->BZ,length_take->B5,mem_map->B7,drop_zero->B8,pairwise_cons->B9,reverse_reverse->CA,drop_eq_getElem_cons->CC,pairwise_map->CD,length_filter_le->CE,filter_cons->CG,length_drop->CH,take_of_length_le->CI,mem_singleton->CK,append_assoc->CL,filter_eq_self->CM,mem_cons->CO,pairwise_iff_getElem->CT,mem_append->CU,pairwise_append->CW,take_succ_eq_append_getElem->CX,reverse_cons->CY,length_take_le->Ca,length_pos_iff->Cb,filter_append->Cc,filter_eq_nil_iff->Cd,getElem?_eq_none->Cf,length_singleton->Cg,replicate->Ck,take_length->Cl,mem_of_find?_eq_some->Cm,length_reverse->Cn,getElem_take->Co,length_replicate->Cu,not_mem_nil->Cv,ext_getElem->Cw,map_append->Cy,filter_congr->C5,map_cons->C6,drop_length->C8,pairwise_singleton->C9,find?_cons->DC,find?_some->DD,length_set->DE,take_append_drop->DG,set_append_right->DH,mem_of_mem_take->DJ,find?_eq_none->DL,mem_cons_self->DM,getElem_drop->DN,getElem_map->DO,perm_middle->DP,cons_append->DQ,getElem_set->DR,mem_range->DX,map_nil->DZ
open List.Pairwise renaming filter->Cj
open Nat renaming le_refl->B3,zero_le->B4,le_trans->B6,lt_or_eq_of_le->CS,mul_le_mul->Cp,lt_trichotomy->Cr
open Option renaming bind_some->BK,bind->CP,getD_some->DS,map_some->DV
namespace Go.Proofs.YtaegajachoklkaaGreatEv
open Go
theorem lg {α β R:Type}(t:List α)(p:α->Bool)(g:α->β)(n:Nat)(y:List β->Option R){step:(List β×Int->Option R)->List β×Int->Option R}
  (h:∀ (rec:List β×Int->Option R) (r:List β) (i:Nat) (M:i<t.length),r.length<=i->r.length<n->step rec (r,(i:Int))=rec (bif p t[i] then r++[g t[i]] else r,((i+1:Nat):Int)))
  (hn:∀ (rec:List β×Int->Option R) (r:List β) (i:Nat),i<t.length->r.length<=i->n<=r.length->step rec (r,(i:Int))=y r)
  (z:∀ (rec:List β×Int->Option R) (r:List β),r.length<=t.length->step rec (r,(t.length:Int))=y r) :
  ∀ (d i k:Nat) (r:List β),i+d=t.length->d<k->r.length<=i->r.length<=n->ae step k (r,(i:Int))=y (r++(((t.drop i).filter p).map g).take (n-r.length)):=by
 intro d;induction d with
 |zero =>
  intro i k r M X H _;obtain⟨k,rfl⟩:∃ I,k=I+1:=⟨k-1,by omega⟩;have:i=t.length:=by omega
  subst this;show step (ae step k) _=_;rw[z _ _ H];simp
 |succ d J =>
  intro i k r M X H Z;obtain⟨k,rfl⟩:∃ I,k=I+1:=⟨k-1,by omega⟩;have u:i<t.length:=by omega
  show step (ae step k) _=_;by_cases O:r.length<n
  ·rw[h _ _ _ u H O,CC u,CG];cases hp:p t[i] with
   |true =>
    simp only[cond_true,if_true,C6];rw[J (i+1) k _ (by omega) (by omega) (by simp;omega) (by simp;omega)];congr 1;obtain⟨m,Y⟩:∃ m,n-r.length=m+1:=⟨n-r.length-1,by omega⟩;rw[Y,List.take_succ_cons,CL];simp only[BZ,BQ,BU];rw[show n-(r.length+(0+1))=m by omega];rfl
   |false =>
    simp only[cond_false];rw[J (i+1) k _ (by omega) (by omega) (by omega) (by omega)];rfl
  ·rw[hn _ _ _ u H (by omega)];rw[show n-r.length=0 by omega];simp
theorem pD {α β R:Type}(t:List α)(p:α->Bool)(g:α->β)(u:List β->Option R){step:(List β×Int->Option R)->List β×Int->Option R}
  (h:∀ (rec:List β×Int->Option R) (r:List β) (i:Nat) (z:i<t.length),r.length<=i->step rec (r,(i:Int))=rec (bif p t[i] then r++[g t[i]] else r,((i+1:Nat):Int)))
  (y:∀ (rec:List β×Int->Option R) (r:List β),r.length<=t.length->step rec (r,(t.length:Int))=u r) {k:Nat} (I:t.length<k) :
  ae step k ([],0)=u ((t.filter p).map g):=by
 have:=lg t p g (t.length+1) u (λrec r i z H _=>h rec r i z H) (λrec r i z H J=>by omega) y t.length 0 k [] (by omega) I (B3 _) (by simp);refine this.trans ?_;congr 1;simp only[BX,BU,B8];exact CI (by have:=CE p t;simp;omega)
theorem dY {e:Ty}{b:Nat}{xs:List e.den}(h:xs.length*b<=140737488355328):e9 e b xs=some ((xs,()),()):=by
 unfold e9;rw[decide_eq_true (by simpa[ak]using h)];rfl
theorem xi {α β:Type}{xs r:List α}{b:Nat}{x y:β}(h:(xs.length+r.length)*b<=140737488355328):(bif decide ((BL xs+BL r)*b<=ak) then x else y)=x:=by
 rw[decide_eq_true (by simpa[ak]using h)];rfl
theorem qw (K:Nat)(xs:List Int)(n:Int)(H:xs.length<=1048576):Q76.f K (xs,n,())=some ((xs.take n.toNat,()),()):=by
 simp only[Q76.f,Q75.f,BK,Q8.f];obtain⟨c,y,u,z,r⟩:∃ c:Int,(bif decide (0<(bif decide ((xs.length:Int)<n) then (xs.length:Int) else n)) then bif decide ((xs.length:Int)<n) then (xs.length:Int) else n else 0)=c/\0<=c/\c<=xs.length/\xs.take c.toNat=xs.take n.toNat:=by
  by_cases h:(xs.length:Int)<n
  ·rw[decide_eq_true h];simp only[cond_true];by_cases r:0<(xs.length:Int)
   ·rw[decide_eq_true r];refine⟨_,rfl,by simp,by simp,?_⟩;simp only[cond_true];rw[CI (by omega),CI (by omega)]
   ·rw[decide_eq_false r];refine⟨_,rfl,by simp,by simp,?_⟩;have:xs=[]:=List.eq_nil_of_length_eq_zero (by omega);subst this;simp
  ·rw[decide_eq_false h];simp only[cond_false];by_cases r:0<n
   ·rw[decide_eq_true r];exact⟨_,rfl,by simp;omega,by simp;omega,rfl⟩
   ·rw[decide_eq_false r];refine⟨_,rfl,by simp,by simp,?_⟩;simp only[cond_false];rw[show n.toNat=0 by omega];rfl
 rw[y,decide_eq_true u,decide_eq_true z];simp only[Ch,B8,decide_true,Ce,cond_true];rw[dY (by
  have:=Ca c.toNat xs;have I:(List.take c.toNat xs).length<=1048576:=by omega
  omega)]
 simp only[BK];rw[r];rfl
theorem qx (K:Nat)(t:List ag)(r:ag×Unit->Option Bool)(p:ag->Bool)(H:t.length<=1048576)(I:1048577<K)(hφ:∀ f∈t,r (f,())=some (p f)) :
  Q77.f K (t,r,())=some (((t.filter p).map (·.1),()),()):=by
 refine pD (step:=λrec a=>Q77.s0 K (t,r,()) rec a) t p (λf=>f.1) (λz=>some ((z,()),())) ?_ ?_ (by omega)
 ·intro rec u i y J;simp only[Q77.s0];rw[bk (by omega:(i:Int)<(BL t:Int)),af y,ar i (by omega)];simp only[cond_true,BK];rw[hφ _ (BM y)];simp only[BK];cases p t[i] with
  |true=>simp only[cond_true];rw[xi (by simp;omega)]
  |false=>rfl
 ·intro rec u _;simp only[Q77.s0,aP];rfl
def iH (f:ag):Bool:=f.2.2.2&&f.2.2.1==1
def dJ (t:List ag):List Int:=((t.filter iH).map (·.1)).take 2
theorem uT (K:Nat)(t:List ag)(J:t.length<=1048576)(I:1048577<K):Q206.f K (t,2,())=some ((dJ t,()),()):=by
 have:=lg (step:=λrec a=>Q206.s0 K (t,2,()) rec a) t iH (λf=>f.1) 2 (λy=>some ((y,()),())) ?_ ?_ ?_ t.length 0 K [] (by omega) (by omega) (B3 _) (by simp)
 ·exact this
 ·intro rec r i u z H;simp only[Q206.s0];rw[bk (by omega:(i:Int)<(BL t:Int)),af u,ar i (by omega),decide_eq_true (by omega:(BL r:Int)<2)];simp only[cond_true,BK,iH];cases t[i].2.2.2 with
  |true =>
   simp only[cond_true,CZ];cases t[i].2.2.1==1 with
   |true=>simp only[cond_true];rw[xi (by simp;omega)]
   |false=>rfl
  |false=>rfl
 ·intro rec r i u z H;simp only[Q206.s0];rw[bk (by omega:(i:Int)<(BL t:Int)),decide_eq_false (by omega:¬ (BL r:Int)<2)];rfl
 ·intro rec r _;simp only[Q206.s0,aP];rfl
theorem uU (K:Nat)(t:List ag)(u:t.length<=1048576)(r:1048577<K)(y:ax t):Q103.f K (t,2,())=some ((dJ t,()),()):=by
 obtain⟨b,H,z⟩:=jI K t u r;simp only[Q103.f];rw[H];simp only[BK,z.2 y,BT,cond_false];rw[qx K t _ iH u r (λf _=>by
  simp only[Q102.f,iH];cases f.2.2.2 <;> rfl)]
 simp only[BK];rw[qw K _ 2 (by have:=CE iH t;simp;omega)];rfl
theorem q8 (t:List ag):(dJ t).length<=2:=by
 unfold dJ;exact Ca _ _
def di (l:List cU)(s:Int):List ag:=((l.find? λx=>x.1==s).map (·.2)).getD []
theorem pE {R:Type}(l:List cU)(s:Int)(r:List ag->Option R){step:(Int->Option R)->Int->Option R}
  (h:∀ (rec:Int->Option R) (i:Nat) (H:i<l.length),step rec (i:Int)=bif l[i].1==s then r l[i].2 else rec ((i+1:Nat):Int))
  (y:∀ rec:Int->Option R,step rec (l.length:Int)=r []) :
  ∀ (d i k:Nat),i+d=l.length->d<k->ae step k (i:Int)=r (di (l.drop i) s):=by
 intro d;induction d with
 |zero =>
  intro i k H I;obtain⟨k,rfl⟩:∃ z,k=z+1:=⟨k-1,by omega⟩;have:i=l.length:=by omega
  subst this;show step (ae step k) _=_;rw[y];simp[di]
 |succ d J =>
  intro i k H I;obtain⟨k,rfl⟩:∃ z,k=z+1:=⟨k-1,by omega⟩;have u:i<l.length:=by omega
  show step (ae step k) _=_;rw[h _ _ u,CC u];simp only[di,DC];cases l[i].1==s with
  |true=>rfl
  |false=>exact J (i+1) k (by omega) (by omega)
theorem Ac (K:Nat)(n:aa)(s:Int)(u:NB n)(z:1048577<K):Q104.f K (n,s,())=some ((di (aa.others n) s,()),()):=by
 have y:=u.others;refine pE (step:=λrec a=>Q104.s0 K (n,s,()) rec a) (aa.others n) s (λt=>some ((t,()),())) ?_ ?_ (aa.others n).length 0 K (by omega) (by omega)
 ·intro rec i r;simp only[Q104.s0];rw[bk (by omega:(i:Int)<(BL (aa.others n):Int)),af r,ar i (by omega)];rfl
 ·intro rec;simp only[Q104.s0,aP];rfl
theorem mU {l:List cU}{s:Int}:di l s=[]\/∃ x∈l,x.1=s/\di l s=x.2:=by
 unfold di;cases h:l.find? λx=>x.1==s with
 |none=>exact .inl rfl
 |some x=>exact .inr ⟨x,Cm h,by simpa using DD h,rfl⟩
def bE {α:Type}(k:α->Int)(x:α)(xs:List α):List α:=xs.filter (λy=>decide (k y<k x))++x::xs.filter (λy=>decide (k x<k y))
theorem q9 {α:Type}{k:α->Int}{xs:List α}{v:Int}{m:Nat}(J:m<=xs.length)(I:∀ i,(z:i<xs.length)->i<m->k xs[i]<v)(z:∀ i,(h:i<xs.length)->m<=i->v<=k xs[i]):xs.filter (λy=>decide (k y<v))=xs.take m:=by
 conv=>lhs;rw[<- DG m xs]
 rw[Cc];have r:(xs.take m).filter (λy=>decide (k y<v))=xs.take m:=by
  rw[CM];intro y u;obtain⟨i,r,rfl⟩:=BS u;rw[B5]at r;rw[Co];exact decide_eq_true (I i (by omega) (by omega))
 have H:(xs.drop m).filter (λy=>decide (k y<v))=[]:=by
  rw[Cd];intro y u;obtain⟨i,r,rfl⟩:=BS u;rw[CH]at r;rw[DN];have:=z (m+i) (by omega) (by omega);simp only[decide_eq_true_eq];omega
 rw[r,H,BV]
theorem ra {α:Type}{k:α->Int}{xs:List α}{v:Int}{m:Nat}(J:m<=xs.length)(I:∀ i,(z:i<xs.length)->i<m->k xs[i]<=v)(z:∀ i,(h:i<xs.length)->m<=i->v<k xs[i]):xs.filter (λy=>decide (v<k y))=xs.drop m:=by
 conv=>lhs;rw[<- DG m xs]
 rw[Cc];have r:(xs.take m).filter (λy=>decide (v<k y))=[]:=by
  rw[Cd];intro y u;obtain⟨i,r,rfl⟩:=BS u;rw[B5]at r;rw[Co];have:=I i (by omega) (by omega);simp only[decide_eq_true_eq];omega
 have H:(xs.drop m).filter (λy=>decide (v<k y))=xs.drop m:=by
  rw[CM];intro y u;obtain⟨i,r,rfl⟩:=BS u;rw[CH]at r;rw[DN];exact decide_eq_true (z (m+i) (by omega) (by omega))
 rw[r,H,BX]
theorem kw {α:Type}{k:α->Int}{xs:List α}{x:α}{m:Nat}(h:Asc k xs)(H:m<xs.length)(e:k xs[m]=k x):xs.set m x=bE k x xs:=by
 have M:=dn.1 h;have J:∀ i,(r:i<xs.length)->i<m->k xs[i]<k x:=λi r z=>by rw[<- e];exact M i m r H z
 have I:∀ i,(r:i<xs.length)->m<i->k x<k xs[i]:=λi r z=>by rw[<- e];exact M m i H r z
 rw[bE,q9 (m:=m) (by omega) J (λi r u=>by
   rcases CS u with y|y
   ·exact DA (I i r y)
   ·subst y;omega),
  ra (m:=m+1) (by omega) (λi r u=>by
   rcases CS (Nat.le_of_lt_succ u) with y|y
   ·exact DA (J i r y)
   ·subst y;omega) (λi r u=>I i r u),
  List.set_eq_take_append_cons_drop,if_pos H]
theorem jk {α:Type}{k:α->Int}{xs:List α}{x:α}{m:Nat}(z:m<=xs.length)(H:∀ i,(u:i<xs.length)->i<m->k xs[i]<k x)(u:∀ i,(h:i<xs.length)->m<=i->k x<k xs[i]):xs.take m++[x]++xs.drop m=bE k x xs:=by
 rw[bE,q9 z H (λi r y=>DA (u i r y)),ra z (λi r y=>DA (H i r y)) u,CL];rfl
theorem aZ {α:Type}{k:α->Int}{xs:List α}{x y:α}:y∈bE k x xs<->y=x\/(y∈xs/\k y≠k x):=by
 simp only[bE,CU,CO,BR,decide_eq_true_eq];constructor
 ·rintro (⟨r,z⟩|rfl|⟨r,z⟩)
  ·exact .inr ⟨r,by omega⟩
  ·exact .inl rfl
  ·exact .inr ⟨r,by omega⟩
 ·rintro (rfl|⟨r,z⟩)
  ·exact .inr (.inl rfl)
  ·rcases Int.lt_or_gt_of_ne z with u|u
   ·exact .inl ⟨r,u⟩
   ·exact .inr (.inr ⟨r,u⟩)
theorem fk {α:Type}{k:α->Int}{xs:List α}{x:α}(h:Asc k xs):Asc k (bE k x xs):=by
 unfold Asc bE;rw[CW,B9];refine⟨h.filter _,⟨λy r=>?_,h.filter _⟩,λy r z u=>?_⟩
 ·simpa using (BR.1 r).2
 ·have H:k y<k x:=by simpa using (BR.1 r).2
  rcases CO.1 u with rfl|u
  ·exact H
  ·have I:k x<k z:=by simpa using (BR.1 u).2
   omega
theorem yN {α:Type}{k:α->Int}{xs:List α}{x:α}:(bE k x xs).length<=xs.length+1:=by
 have:∀ l:List α,(l.filter (λy=>decide (k y<k x))).length+(l.filter (λy=>decide (k x<k y))).length<=l.length:=by
  intro l;induction l with
  |nil=>simp
  |cons y l u =>
   simp only[CG,BQ];by_cases r:k y<k x
   ·rw[if_pos (decide_eq_true r),if_neg (by simp;omega)];simp only[BQ];omega
   ·rw[if_neg (by simpa using r)];split <;> (try simp only[BQ]) <;> omega
 have:=this xs;simp only[bE,BZ,BQ];omega
theorem oY {α:Type}{k:α->Int}{xs:List α}(h:Asc k xs){i:Nat}(u:i<xs.length){v:Int}(e:k xs[i]=v):xs.find? (λy=>k y==v)=some xs[i]:=by
 cases r:xs.find? (λy=>k y==v) with
 |none =>
  have:=DL.1 r xs[i] (BM u);simp[e]at this
 |some y =>
  have H:k y=v:=by simpa using DD r
  obtain⟨j,z,rfl⟩:=BS (Cm r);have:=md h z u (by rw[H,e]);subst this;rfl
theorem nR {α:Type}{k:α->Int}{xs:List α}{v:Int}(h:∀ y∈xs,k y≠v):xs.find? (λy=>k y==v)=none:=by
 rw[DL];intro y r;simpa using h y r
def ke {α:Type}(k:α->Int)(x:α):Bool->List α->List α
 |d,[]=>bif d then [] else [x]
 |d,y::r=>(bif !d&&decide (k x<=k y) then [x] else [])++((bif k y != k x then [y] else [])++ke k x (d||decide (k x<=k y)) r)
theorem pF {α:Type}{k:α->Int}{x:α}:∀ {r:List α},(∀ y∈r,k x<k y)->ke k x true r=r
 |[],_=>rfl
 |y::r,h=>by
  have H:=h y (by simp);simp only[ke,BT,Ci,cond_false,DB,BX];rw[pF (λz u=>h z (by simp[u])),show (k y != k x)=true by simp;omega];rfl
theorem lh {α:Type}{k:α->Int}{x:α}:∀ {xs:List α},Asc k xs->ke k x false xs=bE k x xs
 |[],_=>rfl
 |y::u,h=>by
  have O:Asc k u:=(B9.1 h).2;have H:∀ z∈u,k y<k z:=(B9.1 h).1;simp only[ke,CF,CZ,Cx];by_cases J:k x<=k y
  ·rw[decide_eq_true J,pF (λz r=>by have:=H z r;omega)];simp only[cond_true,bE,CG];have R:u.filter (λz=>decide (k z<k x))=[]:=by
    rw[Cd];intro z r;have:=H z r;simp;omega
   have M:u.filter (λz=>decide (k x<k z))=u:=by
    rw[CM];intro z r;have:=H z r;simp;omega
   rw[R,M,if_neg (by simp;omega)];by_cases I:k y=k x
   ·rw[if_neg (by simp;omega),show (k y != k x)=false by simpa using I];rfl
   ·rw[if_pos (by simp;omega),show (k y != k x)=true by simpa using I];rfl
  ·rw[decide_eq_false J,lh O,show (k y != k x)=true by simp;omega];simp only[cond_false,cond_true,bE,CG,BX];rw[if_pos (by simp;omega),if_neg (by simp;omega)];rfl
theorem sO {α A R:Type}(k:α->Int)(x:α)(t:List α)(q:α->Bool)(X:Option R)(H:List α->Option R)(S:List α->Bool->Nat->A){step:(A->Option R)->A->Option R}
  (h:∀ (rec:A->Option R) (r:List α) (d:Bool) (i:Nat) (Y:i<t.length),r.length<=i+1->(d=false->r.length<=i)->step rec (S r d i)=bif q t[i] then X else rec (S ((r++(bif !d&&decide (k x<=k t[i]) then [x] else []))++(bif k t[i] != k x then [t[i]] else [])) (d||decide (k x<=k t[i])) (i+1)))
  (I:∀ (rec:A->Option R) (r:List α) (d:Bool),r.length<=t.length+1->(d=false->r.length<=t.length)->step rec (S r d t.length)=H (r++(bif d then [] else [x]))) :
  ∀ (n i K:Nat) (r:List α) (d:Bool),i+n=t.length->n<K->r.length<=i+1->(d=false->r.length<=i)->ae step K (S r d i)=bif (t.drop i).any q then X else H (r++ke k x d (t.drop i)):=by
 intro n;induction n with
 |zero =>
  intro i K r d Y hK M z;obtain⟨K,rfl⟩:∃ J,K=J+1:=⟨K-1,by omega⟩;have:i=t.length:=by omega
  subst this;show step (ae step K) _=_;rw[I _ _ _ M z,C8];rfl
 |succ n Z =>
  intro i K r d Y hK M z;obtain⟨K,rfl⟩:∃ J,K=J+1:=⟨K-1,by omega⟩;have u:i<t.length:=by omega
  show step (ae step K) _=_;rw[h _ _ _ _ u M z,CC u,List.any_cons];cases hq:q t[i] with
  |true=>rfl
  |false =>
   simp only[cond_false,Cx,ke];rw[Z (i+1) K _ _ (by omega) (by omega) ?_ ?_]
   ·simp only[CL]
   ·cases d with
    |true =>
     simp only[BT,Ci,cond_false,BV];cases k t[i] != k x <;> simp <;> omega
    |false =>
     have:=z rfl;cases O:decide (k x<=k t[i]) <;> cases k t[i] != k x <;> simp <;> omega
   ·intro y;rw[Bool.or_eq_false_iff]at y;obtain⟨rfl,O⟩:=y;have:=z rfl;rw[O];cases k t[i] != k x <;> simp <;> omega
theorem jA (K:Nat)(n:aa)(u:NB n)(r:1048577<K):∃ b,Q26.f K (n,())=rb b/\Q64.f K (n,())=rb b/\(b=true<->gb n):=by
 obtain⟨b,I,y⟩:=yM K n u r;obtain⟨J,z,H⟩:=sN K n u r;have:b=J:=by rw[CV,y,H]
 subst this;exact⟨b,I,z,y⟩
theorem gb.up {n:aa}(h:gb n)(r:n.2.1=true):UpP n:=by
 have:=h.2.2.2.2.2
 rwa [if_pos r]at this
abbrev aq:=Int×Int×Int×Int×Int×Int×dw×List ag
abbrev aq.table (w:aq):List ag:=w.2.2.2.2.2.2.2
abbrev aq.coord (w:aq):dw:=w.2.2.2.2.2.2.1
def pG:List ag->Prop
 |[]=>False
 |f::l=>cf (f::l) (ao f.1)
def iU (w:aq):Prop:=InP w.1 1 2/\InP w.2.1 1 6/\InP w.2.2.1 0 7/\InP w.2.2.2.1 0 7/\InP w.2.2.2.2.1 0 999999/\InP w.2.2.2.2.2.1 0 7/\cD (aq.coord w)/\ax (aq.table w) /\
 (if w.2.1=6 then pG (aq.table w) else cf (aq.table w) (ao w.2.2.1))
theorem sP (K:Nat)(w:aq)(u:(aq.table w).length<=1048576)(r:1048577<K):Ret (Q146.f K (w,())) (iU w):=by
 refine Ret.nx (cC K _ _ _) λ_=>Ret.nx (cC K _ _ _) λ_=>Ret.nx (cC K _ _ _) λ_=>Ret.nx (cC K _ _ _) λ_=>Ret.nx (cC K _ _ _) λ_=>Ret.nx (cC K _ _ _) λ_=>Ret.nx (iF K _) λ_=>Ret.nx (gr K _ u r) λ_=>?_
 dsimp only;by_cases h:w.2.1=6
 ·rw[show (w.2.1==6)=true by simpa using h,if_pos h];obtain⟨w1,w2,w3,w4,w5,y,z,t⟩:=w;cases t with
  |nil=>exact Ret.no (λh=>h)
  |cons f l =>
   rw[show decide ((BL (f::l):Int)>0)=true from decide_eq_true (by simp only[BQ];omega)];simp only[cond_true];exact Ret.vl (af (xs:=f::l) (i:=0) (by simp)) (gu K _ _ u r).id
 ·rw[show (w.2.1==6)=false by simpa using h,if_neg h];exact (gu K _ _ u r).id
theorem iI {α A R:Type}(xs:List α)(S:List α->Nat->A)(r:Option R){step:(A->Option R)->A->Option R}
  (h:∀ (rec:A->Option R) (u:List α) (i:Nat) (z:i<xs.length),u.length=i->step rec (S u i)=rec (S (u++[xs[i]]) (i+1))) (y:∀ rec:A->Option R,step rec (S xs xs.length)=r) {k:Nat} (H:xs.length<k):ae step k (S [] 0)=r:=by
 refine ez (step:=step) xs.length (λi=>S (xs.take i) i) r ?_ ?_ H
 ·intro rec i z;show step rec (S (xs.take i) i)=rec (S (xs.take (i+1)) (i+1));rw[h rec (xs.take i) i z (by simp;omega),CX z]
 ·intro rec;show step rec (S (xs.take xs.length) xs.length)=r;rw[Cl];exact y rec
theorem szb (a b c:Nat)(r:c<=64)(h:a+b<=2097152):decide ((a+b)*c<=ak)=true:=by
 have:=Cp h r;exact decide_eq_true (by unfold ak;omega)
theorem jK (K:Nat)(n:aa)(y:NB n)(M:1048577<K):Q121.f K (n,())=some ((n,()),()):=by
 have R:=y.table;have I:=y.cast;have H:=y.doubts;have J:=y.places;have O:=y.others;simp only[Q121.f,Q121.pre];rw[szb _ _ _ (by omega) (by show (BL ([]:List ag))+(aa.table n).length<=_;simp;omega),szb _ _ _ (by omega) (by show (BL ([]:List aM))+(aa.cast n).length<=_;simp;omega)];simp only[cond_true];refine iI (aa.doubts n) (step:=λrec a=>Q121.s0 K (n,()) (Q121.l1 K (n,())) rec a) (λr i=>((i:Int),r)) _ ?_ ?_ (by omega)
 ·intro rec r i u z;have:=y.by_ _ (BM u);simp only[Q121.s0];rw[bk (by omega:(i:Int)<(BL (aa.doubts n):Int)),af u,ar i (by omega)];simp only[cond_true,BK];rw[szb _ _ _ (by omega) (by simp;omega),szb _ _ _ (by omega) (by simp;omega)];rfl
 ·intro rec;simp only[Q121.s0,aP,cond_false];refine iI (aa.places n) (step:=λrec a=>Q121.s1 K (n,()) (Q121.l2 K (n,())) rec a) (λr i=>((i:Int),aa.doubts n,r)) _ ?_ ?_ (by omega)
  ·intro rec r i u z;have:=y.trips _ (BM u);simp only[Q121.s1];rw[bk (by omega:(i:Int)<(BL (aa.places n):Int)),af u,ar i (by omega)];simp only[cond_true,BK];rw[szb _ _ _ (by omega) (by simp;omega),szb _ _ _ (by omega) (by simp;omega)];rfl
  ·intro rec;simp only[Q121.s1,aP,cond_false];refine iI (aa.others n) (step:=λrec a=>Q121.s2 K (n,()) rec a) (λr i=>((i:Int),aa.doubts n,aa.places n,r)) _ ?_ ?_ (by omega)
   ·intro rec r i u z;have:=y.facts _ (BM u);simp only[Q121.s2,zcp8];rw[bk (by omega:(i:Int)<(BL (aa.others n):Int)),af u,ar i (by omega)];simp only[cond_true,BK];rw[szb _ _ _ (by omega) (by simp;omega),szb _ _ _ (by omega) (by simp;omega)];rfl
   ·intro rec;simp only[Q121.s2,zcp8,aP,cond_false];rfl
theorem yO (K:Nat)(n:aa)(y:NB n)(M:1048577<K):Q112.f K (n,())=some ((n,()),()):=by
 have R:=y.table;have I:=y.cast;have H:=y.doubts;have J:=y.places;have O:=y.others;simp only[Q112.f,Q112.pre];refine iI (aa.doubts n) (step:=λrec a=>Q112.s0 K (n,()) (Q112.l1 K (n,())) rec a) (λr i=>(r,(i:Int))) _ ?_ ?_ (by omega)
 ·intro rec r i u z;have:=y.by_ _ (BM u);simp only[Q112.s0,Q8.f];rw[bk (by omega:(i:Int)<(BL (aa.doubts n):Int)),af u,ar i (by omega)];simp only[cond_true,BK];rw[dY (by omega)];simp only[BK];rw[szb _ _ _ (by omega) (by simp;omega)];rfl
 ·intro rec;simp only[Q112.s0,aP,cond_false];refine iI (aa.places n) (step:=λrec a=>Q112.s1 K (n,()) (Q112.l2 K (n,())) rec a) (λr i=>(aa.doubts n,r,(i:Int))) _ ?_ ?_ (by omega)
  ·intro rec r i u z;have:=y.trips _ (BM u);simp only[Q112.s1,Q8.f];rw[bk (by omega:(i:Int)<(BL (aa.places n):Int)),af u,ar i (by omega)];simp only[cond_true,BK];rw[dY (by omega)];simp only[BK];rw[szb _ _ _ (by omega) (by simp;omega)];rfl
  ·intro rec;simp only[Q112.s1,aP,cond_false];refine iI (aa.others n) (step:=λrec a=>Q112.s2 K (n,()) rec a) (λr i=>(aa.doubts n,aa.places n,r,(i:Int))) _ ?_ ?_ (by omega)
   ·intro rec r i u z;have:=y.facts _ (BM u);simp only[Q112.s2,zcp8,Q0.f];rw[bk (by omega:(i:Int)<(BL (aa.others n):Int)),af u,ar i (by omega)];simp only[cond_true,BK];rw[dY (by omega)];simp only[BK];rw[szb _ _ _ (by omega) (by simp;omega)];rfl
   ·intro rec;simp only[Q112.s2,zcp8,aP,cond_false,Q0.f,Q2.f];rw[dY (by show (aa.table n).length*_<=_;omega),dY (by show (aa.cast n).length*_<=_;omega)];rfl
instance (f g:ag):Decidable (bR f g):=by unfold bR;infer_instance
theorem pH (K:Nat)(f g:ag):Q19.f K (f,g,())=rb (decide (bR f g)):=by
 obtain⟨b,r,u⟩:=sM K f g;rw[r,show b=decide (bR f g) by rw[CV,u];simp]
def bS (t:List ag)(f:ag):List ag×Bool :=
 match t.find? (λg=>g.1==f.1) with
 |some g=>if bR f g then (bE (λg=>g.1) f t,true) else (t,false)
 |none=>(bE (λg=>g.1) f t,true)
theorem kx {t:List ag}{f:ag}(u:Asc (λg:ag=>g.1) t){i:Nat}(r:i<t.length)(e:t[i].1=f.1):bS t f=if bR f t[i] then (bE (λg=>g.1) f t,true) else (t,false):=by
 unfold bS;rw[show t.find? (λg=>g.1==f.1)=some t[i] from oY u r e]
theorem ip {t:List ag}{f:ag}(h:∀ g∈t,g.1≠f.1):bS t f=(bE (λg=>g.1) f t,true):=by
 unfold bS;rw[show t.find? (λg=>g.1==f.1)=none from nR h]
theorem mV {e:Ty}{b:Nat}{xs:List e.den}{m:Nat}{v:e.den}(y:m<=xs.length)(r:b<=64)(u:xs.length<=1048576):iB e b xs (m:Int) [v]=some ((xs.take m++[v]++xs.drop m,()),()):=by
 unfold iB;have:(xs.length+[v].length)*b<=140737488355328:=B6 (Cp (show xs.length+[v].length<=1048577 by simp;omega) r) (by decide);rw[if_pos ⟨by omega,by omega,by simp,by simpa only[ak]using this⟩,BO]
theorem re {e:Ty}{xs:List e.den}{u:e.den×Unit->Option Bool}(p:e.den->Bool)(z:xs.length<=1048576)(h:∀ x∈xs,u (x,())=some (p x)):gK e xs u=some ((xs.filter (λx=>!p x),()),()):=by
 have:∀ r:List e.den,(∀ x∈r,u (x,())=some (p x))->l7 u r=some (r.filter (λx=>!p x)):=by
  intro r;induction r with
  |nil=>intro _;rfl
  |cons y r H =>
   intro h;simp only[l7,h y (by simp),BK,H (λx z=>h x (by simp[z])),DV,CG];cases p y <;> rfl
 unfold gK;rw[if_pos z,this xs h];rfl
theorem put_s (K:Nat)(t:List ag)(f:ag)(Y:t.length<=1048576)(O:Asc (λg:ag=>g.1) t)(hK:1048577<K):Q157.f K (t,f,())=some (((bS t f).1,(bS t f).2,()),()):=by
 simp only[Q157.f,Q157.pre];obtain⟨o,z,J⟩:=fC K t f.1 Y hK;rw[J];simp only[BK];cases z with
 |at_ i r e =>
  simp only;rw[kx O r e,decide_eq_true (by omega:((i:Nat):Int)>=0),af r];simp only[cond_true,BK];rw[show Q19.f K (f,t[i],())=_ from pH K f t[i]];simp only[BK];by_cases z:bR f t[i]
  ·rw[decide_eq_true z,if_pos z];simp only[BT,cond_false];rw[szb _ _ _ (by omega) (by show (BL ([]:List ag))+t.length<=_;simp;omega)];simp only[cond_true,BX,af r,BK,BO];rw[kw (k:=λg:ag=>g.1) O r e]
  ·rw[decide_eq_false z,if_neg z];rfl
 |no h =>
  simp only;rw[ip h,decide_eq_false (by omega:¬ (-1:Int)>=0)];simp only[cond_false];have I:∀ m:Nat,m<=t.length->(bif decide ((0:Int)<=0)&&decide ((0:Int)<=(m:Int))&&decide ((m:Int)<=(BL t:Int))&&true then (bif decide ((BL ([]:List ag)+BL ((t.take (BN (m:Int))).drop (BN 0)))*32<=ak) then (bif decide ((BL ([]++((t.take (BN (m:Int))).drop (BN 0)))+BL ([f]))*32<=ak) then (bif decide ((0:Int)<=(m:Int))&&decide ((m:Int)<=(BL t:Int))&&decide ((BL t:Int)<=(BL t:Int))&&true then (bif decide ((BL (([]++((t.take (BN (m:Int))).drop (BN 0)))++([f]))+BL ((t.take (BN (BL t:Int))).drop (BN (m:Int))))*32<=ak) then (some (((([]++((t.take (BN (m:Int))).drop (BN 0)))++([f]))++((t.take (BN (BL t:Int))).drop (BN (m:Int))),true,()),())) else none) else none) else none) else none) else (none:Option ((List ag×Bool×Unit)×Unit)))=some ((t.take m++[f]++t.drop m,true,()),()):=by
   intro m X;rw[decide_eq_true (by omega:(0:Int)<=0),decide_eq_true (by omega:(0:Int)<=(m:Int)),decide_eq_true (by omega:(m:Int)<=(BL t:Int)),decide_eq_true (by omega:(BL t:Int)<=(BL t:Int))];simp only[BO,Ch,B8,BX,Cl,Ce,cond_true];have J:(t.take m).length=m:=by rw[B5];omega
   have H:(t.drop m).length=t.length-m:=CH;rw[szb _ _ _ (by omega) (by simp only[BU];omega),szb _ _ _ (by omega) (by simp only[BQ,BU];omega),szb _ _ _ (by omega) (by simp only[BZ,BQ,BU];omega)];rfl
  have:=b7 (step:=λrec a=>Q157.s0 K (t,f,()) rec a) t.length (λi=>(i:Int)) (λj=>∃ h:j<t.length,¬ t[j].1<f.1) (some ((t.take t.length++[f]++t.drop t.length,true,()),())) (λj=>some ((t.take j++[f]++t.drop j,true,()),())) ?_ ?_ t.length K 0 (by omega) (by omega)
  ·have M:∀ m,m<=t.length->(∀ i,(r:i<t.length)->i<m->t[i].1<f.1)->(∀ i,(r:i<t.length)->m<=i->f.1<t[i].1)->t.take m++[f]++t.drop m=bE (λg=>g.1) f t:=λm X lo r=>jk (k:=λg:ag=>g.1) X lo r
   rcases this with ⟨J,H⟩|⟨j,_,J,⟨h3,h4⟩,Z,H⟩
   ·rw[M t.length (B3 _) (λi r _=>by
     have:=J i (B4 _) r;exact Cq.1 λh=>this ⟨r,h⟩) (λi r h=>by omega)]at H
    exact H
   ·rw[M j (by omega) (λi r y=>by
     have:=Z i (B4 _) y;exact Cq.1 λh=>this ⟨r,h⟩) (λi r y=>by
     have a0:=h t[i] (BM r);rcases CS y with R|R
     ·have:=dn.1 O j i h3 r R;omega
     ·subst R;omega)]at H
    exact H
  ·intro rec i r;simp only[Q157.s0];rw[bk (by omega:(i:Int)<(BL t:Int)),af r,ar i (by omega)];simp only[cond_true,BK];by_cases u:t[i].1<f.1
   ·exact .inl ⟨λ⟨_,h⟩=>h u,by rw[decide_eq_true u];rfl⟩
   ·exact .inr ⟨⟨r,u⟩,by rw[decide_eq_false u];exact I i (by omega)⟩
  ·intro rec;simp only[Q157.s0,aP,cond_false];exact I t.length (B3 _)
theorem zN (K:Nat)(t:List ag)(f:ag)(R:t.length<=1048576)(z:Asc (λg:ag=>g.1) t)(X:1048577<K):Q67.f K (t,f,())=some (((bS t f).1,(bS t f).2,()),()):=by
 simp only[Q67.f,Q0.f,Q1.f];rw[dY (by omega)];simp only[BK];obtain⟨m,r,h1⟩:=sL K t f.1 R z X;rw[h1];simp only[BK];by_cases M:∃ h:m<t.length,t[m].1=f.1
 ·obtain⟨J,H⟩:=M;rw[decide_eq_true ⟨J,H⟩,kx z J H];simp only[BT,cond_false,af J,BK,BO];rw[mT K f t[m] X];simp only[BK];by_cases I:bR f t[m]
  ·rw[decide_eq_true ((jJ H.symm).2 I),if_pos I,kw (k:=λg:ag=>g.1) z J H];rfl
  ·rw[decide_eq_false (λh=>I ((jJ H.symm).1 h)),if_neg I];rfl
 ·rw[decide_eq_false M,ip (λg Y e=>by
   obtain⟨i,u,rfl⟩:=BS Y;rcases Cr i m with h|h|h
   ·have:=r.lo i u h;omega
   ·subst h;exact M ⟨u,e⟩
   ·have Z:=r.hi m (by omega) (B3 _);have O:=dn.1 z m i (by omega) u h;omega)]
  simp only[CF,cond_true];rw[mV r.le (by omega) R];simp only[BK];rw[jk (k:=λg:ag=>g.1) r.le r.lo (λi u y=>by
   have:=r.hi i u y;rcases CS y with O|O
   ·have Z:=r.hi m (by omega) (B3 _);have h7:=dn.1 z m i (by omega) u O;omega
   ·subst O;have:t[m].1≠f.1:=λe=>M ⟨u,e⟩
    omega)]
def dp (l:List aM)(f:ag):List aM:=if ∃ x∈l,x.1.1=f.1/\¬ bR f x.1 then l else bE (λx=>x.1.1) (f,4) l
theorem ui {l:List aM}{f:ag}:dp l f=bif l.any (λx=>x.1.1==f.1&&!decide (bR f x.1)) then l else bE (λx=>x.1.1) (f,4) l:=by
 unfold dp;have:(∃ x∈l,x.1.1=f.1/\¬ bR f x.1)<->l.any (λx=>x.1.1==f.1&&!decide (bR f x.1))=true:=by
  rw[List.any_eq_true];simp
 by_cases h:∃ x∈l,x.1.1=f.1/\¬ bR f x.1
 ·rw[if_pos h,this.1 h];rfl
 ·rw[if_neg h,show l.any (λx=>x.1.1==f.1&&!decide (bR f x.1))=false by rw[Bool.eq_false_iff];exact λr=>h (this.2 r)];rfl
theorem Ad (K:Nat)(l:List aM)(f:ag)(X:l.length<=1048576)(M:Asc (λx:aM=>x.1.1) l)(Y:1048577<K):Q158.f K (l,f,())=some ((dp l f,()),()):=by
 have:=sO (step:=λrec a=>Q158.s0 K (l,f,()) rec a) (λx:aM=>x.1.1) (f,4) l (λx=>x.1.1==f.1&&!decide (bR f x.1)) (some ((l,()),())) (λJ=>some ((J,()),())) (λr d i=>(r,d,(i:Int))) ?_ ?_ l.length 0 K [] false (by omega) (by omega) (by simp) (by simp)
 ·refine C0 (this:Q158.f K (l,f,())=_) ?_;rw[B8,ui,lh M];cases l.any (λx=>x.1.1==f.1&&!decide (bR f x.1)) <;> rfl
 ·intro rec r d i R O H;simp only[Q158.s0];rw[bk (by omega:(i:Int)<(BL l:Int)),af R,ar i (by omega)];simp only[cond_true,BK];have y:decide ((r.length+[((f,4):ag×Nat)].length)*40<=ak)=true:=szb _ _ _ (by omega) (by simp;omega);have I:decide (((r++[((f,4):aM)]).length+[l[i]].length)*40<=ak)=true:=szb _ _ _ (by omega) (by simp;omega);have z:decide ((r.length+[l[i]].length)*40<=ak)=true:=szb _ _ _ (by omega) (by simp;omega);by_cases u:l[i].1.1=f.1
  ·rw[show (l[i].1.1==f.1)=true by simpa using u,show (l[i].1.1 != f.1)=false by simpa using u,show decide (f.1<=l[i].1.1)=true from decide_eq_true (by omega)];simp only[cond_true,cond_false,CZ,C7,DY,BV];rw[show Q19.f K (f,l[i].1,())=_ from pH K f l[i].1];simp only[BK];cases decide (bR f l[i].1) with
   |false=>rfl
   |true =>
    simp only[BT,cond_false];cases d with
    |true=>simp only[BT,cond_false,BV]
    |false =>
     simp only[CF,cond_true];rw[y];rfl
  ·rw[show (l[i].1.1==f.1)=false by simpa using u,show (l[i].1.1 != f.1)=true by simpa using u];simp only[cond_true,cond_false,Ci];cases d with
   |true =>
    simp only[BT,cond_false,Ci,BV,DB];rw[z];rfl
   |false =>
    simp only[CF,cond_true,CZ,Cx];cases decide (f.1<=l[i].1.1) with
    |true =>
     simp only[cond_true];rw[y];simp only[cond_true];rw[I];rfl
    |false =>
     simp only[cond_false,BV];rw[z];rfl
 ·intro rec r d O H;simp only[Q158.s0,aP];cases d with
  |true=>simp only[BT,cond_false,cond_true,BV]
  |false =>
   have:=H rfl;have y:decide ((r.length+[((f,4):ag×Nat)].length)*40<=ak)=true:=szb _ _ _ (by omega) (by simp;omega);simp only[CF,cond_true,cond_false];rw[y];rfl
theorem xj (K:Nat)(l:List aM)(f:ag)(Z:l.length<=1048576)(X:cQ l)(hf:bA f)(hK:1048577<K):Q68.f K (l,f,())=some ((dp l f,()),()):=by
 simp only[Q68.f,Q2.f,Q3.f];obtain⟨b1,e1,e2⟩:=oW K l Z hK;have a3:=e2.2 X;subst a3;obtain⟨b2,e3,e4⟩:=mf K f;have a2:=e4.2 hf;subst a2;rw[e1];simp only[BK,BT,cond_false];rw[e3];simp only[BK,BT,cond_false];rw[dY (by omega)];simp only[BK];rw[uS K l Z hK];simp only[BK];have hA:Asc (λg:ag=>g.1) (l.map (·.1)):=by
  have:=X.2;unfold Asc at this ⊢;rw[CD];exact this
 have r:(l.map (·.1)).length=l.length:=BY _;obtain⟨m,hm,h1⟩:=sL K (l.map (·.1)) f.1 (by rw[r];exact Z) hA hK;rw[h1];simp only[BK];have y:∀ i (h:i<l.length),(l.map (·.1))[i]'(by rw[r];exact h)=l[i].1:=λi h=>DO _
 have M:=hm.le;rw[r]at M;have lo:∀ i,(u:i<l.length)->i<m->l[i].1.1<f.1:=λi u J=>by have:=hm.lo i (by rw[r];exact u) J;rwa [y i u]at this
 have R:∀ i,(u:i<l.length)->m<=i->f.1<=l[i].1.1:=λi u J=>by have:=hm.hi i (by rw[r];exact u) J;rwa [y i u]at this
 by_cases he:∃ h:m<l.length,l[m].1.1=f.1
 ·obtain⟨z,H⟩:=he;rw[decide_eq_true ⟨by rw[r];exact z,by rw[y m z];exact H⟩];simp only[BT,cond_false,af z,BK,BO];rw[show Q50.f K (f,l[m].1,())=_ from mT K f l[m].1 hK];simp only[BK];have a1:∀ x∈l,x.1.1=f.1->x=l[m]:=λx I e=>by
   obtain⟨i,u,rfl⟩:=BS I;have:=md X.2 u z (by show l[i].1.1=l[m].1.1;rw[e,H]);subst this;rfl
  by_cases Y:bR f l[m].1
  ·rw[decide_eq_true ((jJ H.symm).2 Y),dp,if_neg (λ⟨x,I,e,hn⟩=>hn (by rw[a1 x I e];exact Y)),kw (k:=λx:aM=>x.1.1) (x:=(f,4)) X.2 z H];rfl
  ·rw[decide_eq_false (λh=>Y ((jJ H.symm).1 h)),dp,if_pos ⟨l[m],BM z,H,Y⟩];rfl
 ·have O:∀ x∈l,x.1.1≠f.1:=λx I e=>by
   obtain⟨i,u,rfl⟩:=BS I;rcases Cr i m with h|h|h
   ·have:=lo i u h;omega
   ·subst h;exact he ⟨u,e⟩
   ·have h5:=R m (by omega) (B3 _);have h6:l[m].1.1<l[i].1.1:=dn.1 X.2 m i (by omega) u h;omega
  rw[decide_eq_false (λ⟨z,H⟩=>he ⟨by rw[r]at z;exact z,by rw[y m (by rw[r]at z;exact z)]at H;exact H⟩),dp,if_neg (λ⟨x,I,e,_⟩=>O x I e)];simp only[CF,cond_true];rw[mV M (by omega) Z];simp only[BK];rw[jk (k:=λx:aM=>x.1.1) (x:=(f,4)) M lo (λi u a0=>by
   have h1:=R i u a0;have z:=O l[i] (BM u);show f.1<l[i].1.1;omega)]
theorem oi {α:Type}{k:α->Int}{x:α}:∀ {r:List α},ke k x true r=r.filter (λy=>k y != k x)
 |[]=>rfl
 |y::r=>by
  simp only[ke,BT,Ci,cond_false,DB,BX,CG];rw[oi];cases k y != k x <;> rfl
theorem uj {α:Type}{k:α->Int}{x:α}{xs:List α}:bE k x (xs.filter λy=>!(k y==k x))=bE k x xs:=by
 simp only[bE,List.filter_filter];congr 1
 ·refine C5 λy _=>?_
  by_cases h:k y<k x
  ·rw[decide_eq_true h];simp;omega
  ·rw[decide_eq_false h];rfl
 ·congr 1;refine C5 λy _=>?_
  by_cases h:k x<k y
  ·rw[decide_eq_true h];simp;omega
  ·rw[decide_eq_false h];rfl
def mkD (r:Int)(f:ag)(b:Int):bB:=(f.1,f.2.1,r,[b])
def cM (r:Int)(ds:List bB)(f:ag)(b:Int):List bB:=if f.2.2.1=2 then bE (λd=>d.1) (mkD r f b) ds else ds.filter (λd=>!(d.1==f.1))
theorem Ae (K:Nat)(n:aa)(f:ag)(b:Int)(X:(aa.doubts n).length<=1048576)(M:Asc (λd:bB=>d.1) (aa.doubts n))(Y:1048577<K) :
  Q159.f K (n,f,b,())=some ((cM n.2.2.2.2.2.1 (aa.doubts n) f b,()),()):=by
 have:=sO (step:=λrec a=>Q159.s0 K (n,f,b,()) rec a) (λd:bB=>d.1) (mkD n.2.2.2.2.2.1 f b) (aa.doubts n) (λ_=>false) none (λI=>some ((I,()),())) (λr d i=>(r,d,(i:Int))) ?_ ?_ (aa.doubts n).length 0 K [] (f.2.2.1 != 2) (by omega) (by omega) (by simp) (by simp)
 ·refine C0 (this:Q159.f K (n,f,b,())=_) ?_;rw[B8,show (aa.doubts n).any (λ_=>false)=false by simp,cM];by_cases u:f.2.2.1=2
  ·rw[if_pos u,show (f.2.2.1 != 2)=false by simpa using u,lh M];rfl
  ·rw[if_neg u,show (f.2.2.1 != 2)=true by simpa using u,oi];rfl
 ·intro rec r d i R O z;simp only[Q159.s0];rw[bk (by omega:(i:Int)<(BL (aa.doubts n):Int)),af R,ar i (by omega)];simp only[cond_true,cond_false,BK];have y:decide ((r.length+[mkD n.2.2.2.2.2.1 f b].length)*48<=ak)=true:=szb _ _ _ (by omega) (by simp;omega);have H:decide (((r++[mkD n.2.2.2.2.2.1 f b]).length+[(aa.doubts n)[i]].length)*48<=ak)=true:=szb _ _ _ (by omega) (by simp;omega);have J:decide ((r.length+[(aa.doubts n)[i]].length)*48<=ak)=true:=szb _ _ _ (by omega) (by simp;omega);show (bif !d then (bif decide (f.1<=(aa.doubts n)[i].1) then (bif decide ((r.length+[mkD n.2.2.2.2.2.1 f b].length)*48<=ak) then (bif (aa.doubts n)[i].1 != f.1 then (bif decide (((r++[mkD n.2.2.2.2.2.1 f b]).length+[(aa.doubts n)[i]].length)*48<=ak) then (rec ((r++[mkD n.2.2.2.2.2.1 f b])++[(aa.doubts n)[i]],true,((i+1:Nat):Int))) else none) else (rec (r++[mkD n.2.2.2.2.2.1 f b],true,((i+1:Nat):Int)))) else none) else (bif (aa.doubts n)[i].1 != f.1 then (bif decide ((r.length+[(aa.doubts n)[i]].length)*48<=ak) then (rec (r++[(aa.doubts n)[i]],d,((i+1:Nat):Int))) else none) else (rec (r,d,((i+1:Nat):Int))))) else (bif (aa.doubts n)[i].1 != f.1 then (bif decide ((r.length+[(aa.doubts n)[i]].length)*48<=ak) then (rec (r++[(aa.doubts n)[i]],d,((i+1:Nat):Int))) else none) else (rec (r,d,((i+1:Nat):Int)))))=rec ((r++(bif !d&&decide (f.1<=(aa.doubts n)[i].1) then [mkD n.2.2.2.2.2.1 f b] else []))++(bif (aa.doubts n)[i].1 != f.1 then [(aa.doubts n)[i]] else []),d||decide (f.1<=(aa.doubts n)[i].1),((i+1:Nat):Int));rw[y,H,J];cases d <;> cases decide (f.1<=(aa.doubts n)[i].1) <;> cases (aa.doubts n)[i].1 != f.1 <;> simp only[BT,CF,CZ,Ci,DB,Cx,cond_true,cond_false,BV]
 ·intro rec r d O z;simp only[Q159.s0,aP];cases d with
  |true=>simp only[BT,cond_false,cond_true,BV]
  |false =>
   have:=z rfl;have y:decide ((r.length+[mkD n.2.2.2.2.2.1 f b].length)*48<=ak)=true:=szb _ _ _ (by omega) (by simp;omega);show (bif decide ((r.length+[mkD n.2.2.2.2.2.1 f b].length)*48<=ak) then some ((r++[mkD n.2.2.2.2.2.1 f b],()),()) else none)=some ((r++[mkD n.2.2.2.2.2.1 f b],()),());rw[y];rfl
theorem Af (K:Nat)(t:List bB)(r:Int)(Z:t.length<=1048576)(J:Asc (λd:bB=>d.1) t)(h7:∀ d∈t,InP d.1 0 7)(Y:InP r 0 7)(hK:1048577<K) :
  ∃ m,m<=t.length/\(∀ i,(h:i<t.length)->i<m->t[i].1<r)/\(∀ i,(h:i<t.length)->m<=i->r<=t[i].1)/\∃ b,Q71.f K (t,r,(λz=>(Q72.f K (z.1,z.2.1,())).map λy=>y.1.1),())=some ((((m:Nat):Int),b,()),()):=by
 let ks:Nat->Int:=λi=>if h:i<t.length then t[i].1 else 0
 have u:∀ i (h:i<t.length),ks i=t[i].1:=λi h=>by simp[ks,h]
 let H:Nat->Option ((Int×Bool×Unit)×Unit):=λm=>some ((((m:Nat):Int),decide (∃ h:m<t.length,t[m].1=r),()),())
 have R:∀ d∈t,((Q72.f K (d,r,())).map λy=>y.1.1)=some (d.1-r):=λd hd=>by
  obtain⟨a1,a2⟩:=h7 d hd;obtain⟨a3,a4⟩:=Y;simp only[Q72.f];rw[aA (by omega) (by omega)];rfl
 have:=xc (step:=λrec a=>Q71.s0 K (t,r,(λz=>(Q72.f K (z.1,z.2.1,())).map λy=>y.1.1),()) rec a) (ks:=ks) (n:=t.length) (t:=r) H Z
  (λi j O X=>by
   rw[u i (by omega),u j X];exact dn.1 J i j (by omega) X O) ?_ ?_ t.length K 0 t.length (by omega) (B4 _) (B3 _) (by omega) (λi I=>by omega) (λi I Y=>by omega)
 ·obtain⟨m,h1,h2,h3,h4⟩:=this;exact⟨m,h1,λi h I=>by rw[<- u i h];exact h2 i I,λi h I=>by rw[<- u i h];exact h3 i I h,_,h4⟩
 ·intro rec a b a0 hb;have M:(a+b) / 2<t.length:=by omega
  simp only[Q71.s0];rw[decide_eq_true (by omega:(a:Int)<(b:Int)),uP (by omega)];simp only[cond_true];rw[af M];simp only[BK,R _ (BM M)];rw[u _ M,ar _ (by omega)];by_cases h:t[(a+b) / 2].1<r
  ·rw[if_pos h,decide_eq_true (by omega:t[(a+b) / 2].1-r<0)];rfl
  ·rw[if_neg h,decide_eq_false (by omega:¬ t[(a+b) / 2].1-r<0)];rfl
 ·intro rec a ha;simp only[Q71.s0];rw[decide_eq_false (by omega)];simp only[cond_false];by_cases h:a<t.length
  ·rw[decide_eq_true (by omega:(a:Int)<(BL t:Int)),af h];simp only[cond_true,BK,R _ (BM h)];have:(t[a].1-r==0)=decide (∃ h:a<t.length,t[a].1=r):=by
    rw[CV];simp only[beq_iff_eq,decide_eq_true_eq];exact⟨λe=>⟨h,by omega⟩,λ⟨_,e⟩=>by omega⟩
   rw[this]
  ·rw[decide_eq_false (by omega:¬ (a:Int)<(BL t:Int))];simp only[cond_false,H];rw[decide_eq_false (λ⟨h',_⟩=>h h')]
def iV (n:aa)(t:List ag)(c:List aM)(ds:List bB):aa :=
 (n.1,n.2.1,n.2.2.1,n.2.2.2.1,n.2.2.2.2.1,n.2.2.2.2.2.1,n.2.2.2.2.2.2.1,n.2.2.2.2.2.2.2.1,t,c,n.2.2.2.2.2.2.2.2.2.2.1,ds,n.2.2.2.2.2.2.2.2.2.2.2.2)
def kf (n:aa)(f:ag):Bool:=decide (∃ g∈aa.table n,g.1=f.1/\g.2.1=f.2.1/\g.2.2.1=f.2.2.1)
def sayOf (n:aa)(f:ag)(b:Int):aa :=
 bif (bS (aa.table n) f).2 then iV n (bS (aa.table n) f).1 (dp (aa.cast n) f) (bif kf n f then aa.doubts n else cM n.2.2.2.2.2.1 (aa.doubts n) f b) else n
structure b8 (n:aa):Prop where
 table:ax (aa.table n)
 cast:cQ (aa.cast n)
 asc:Asc (λd:bB=>d.1) (aa.doubts n)
 inp:∀ d∈aa.doubts n,InP d.1 0 7
 lt:(aa.table n).length<=1048576
 lc:(aa.cast n).length<=1048576
 ld:(aa.doubts n).length<=1048576
theorem sQ {n:aa}{f g:ag}(u:Asc (λg:ag=>g.1) (aa.table n))(r:g∈aa.table n)(e:g.1=f.1):kf n f=(g.2.1==f.2.1&&g.2.2.1==f.2.2.1):=by
 rw[CV,kf,decide_eq_true_eq,CR,beq_iff_eq,beq_iff_eq];constructor
 ·rintro⟨x,hx,h1,h2,h3⟩;have:=gw u hx r (by rw[h1,e]);subst this;exact⟨h2,h3⟩
 ·rintro⟨h1,h2⟩;exact⟨g,r,e,h1,h2⟩
theorem sR {n:aa}{f:ag}(h:∀ g∈aa.table n,g.1≠f.1):kf n f=false :=
 decide_eq_false λ⟨g,r,e,_⟩=>h g r e
theorem pI (K:Nat)(n:aa)(f:ag)(b:Int)(h:b8 n)(r:1048577<K):Q197.f K (n,f,b,())=some ((sayOf n f b,()),()):=by
 simp only[Q197.f,zcp8];rw[show Q157.f K (n.2.2.2.2.2.2.2.2.1,f,())=_ from put_s K (aa.table n) f h.lt h.table.2 r];simp only[BK];cases z:(bS (aa.table n) f).2 with
 |false =>
  simp only[sayOf,z];rfl
 |true =>
  simp only[sayOf,z,BT,cond_false,cond_true];obtain⟨o,M,J⟩:=fC K (aa.table n) f.1 h.lt r;rw[show Q16.f K (n.2.2.2.2.2.2.2.2.1,f.1,())=_ from J];simp only[BK];have y:=Ae K (n.1,n.2.1,n.2.2.1,n.2.2.2.1,n.2.2.2.2.1,n.2.2.2.2.2.1,n.2.2.2.2.2.2.1,n.2.2.2.2.2.2.2.1,(bS (aa.table n) f).1,dp (aa.cast n) f,n.2.2.2.2.2.2.2.2.2.2) f b h.ld h.asc r;have I:=Ad K (aa.cast n) f h.lc h.cast.2 r;cases M with
  |at_ i H e =>
   simp only;rw[sQ h.table.2 (BM H) e,decide_eq_true (by omega:((i:Nat):Int)>=0)];simp only[cond_true];rw[show idx n.2.2.2.2.2.2.2.2.1 (i:Int)=some (aa.table n)[i] from af H];simp only[BK];rw[show Q158.f K (n.2.2.2.2.2.2.2.2.2.1,f,())=_ from I];simp only[BK];rw[y];cases (aa.table n)[i].2.1==f.2.1 with
   |true =>
    cases (aa.table n)[i].2.2.1==f.2.2.1 <;> rfl
   |false=>rfl
  |no u =>
   simp only;rw[sR u,decide_eq_false (by omega:¬ (-1:Int)>=0)];simp only[cond_false];rw[show Q158.f K (n.2.2.2.2.2.2.2.2.2.1,f,())=_ from I];simp only[BK];rw[y];rfl
theorem mg {α:Type}{k:α->Int}{xs:List α}(h:Asc k xs)(p:α->Bool):Asc k (xs.filter p):=Cj p h
theorem Ag {R:Type}(K:Nat)(r:Int)(ds:List bB)(f:ag)(b:Int)(G:List bB->Option R)(X:ds.length<=1048576)(hA:Asc (λd:bB=>d.1) ds)(Z:∀ d∈ds,InP d.1 0 7)(hf:bA f)(hK:1048577<K) :
  ((Q4.f K (ds,(λH=>(Q70.f K (H.1,f,())).map λy=>y.1.1),())).bind λJ=>bif f.2.2.1==2 then ((Q71.f K (J.1.1,f.1,(λO=>(Q72.f K (O.1,O.2.1,())).map λy=>y.1.1),())).bind λy7=>(Q5.f K (J.1.1,y7.1.1,[mkD r f b],())).bind λY=>G Y.1.1) else G J.1.1)=G (cM r ds f b):=by
 rw[show Q4.f K (ds,(λH=>(Q70.f K (H.1,f,())).map λy=>y.1.1),())=some ((ds.filter (λd=>!(d.1==f.1)),()),()) by
  simp only[Q4.f];exact re _ X (λd _=>rfl)]
 simp only[BK,cM];by_cases z:f.2.2.1=2
 ·rw[if_pos z,show (f.2.2.1==2)=true by simpa using z];simp only[cond_true];have u:(ds.filter (λd=>!(d.1==f.1))).length<=1048576:=B6 (CE _ _) X;obtain⟨m,M,lo,hi,b',e⟩:=Af K (ds.filter (λd=>!(d.1==f.1))) f.1 u (mg hA _) (λd hd=>Z d (BR.1 hd).1) hf.1 hK;rw[e];simp only[BK];rw[show Q5.f K (ds.filter (λd=>!(d.1==f.1)),(m:Int),[mkD r f b],())=some (((ds.filter (λd=>!(d.1==f.1))).take m++[mkD r f b]++(ds.filter (λd=>!(d.1==f.1))).drop m,()),()) by
   simp only[Q5.f];exact mV M (by omega) u]
  simp only[BK];have:=jk (k:=λd:bB=>d.1) (x:=mkD r f b) M lo (λi h I=>by
   have h1:=hi i h I;have h3:(!((ds.filter (λd=>!(d.1==f.1)))[i].1==f.1))=true:=(BR.1 (BM h)).2;have h4:(ds.filter (λd=>!(d.1==f.1)))[i].1≠f.1:=by simpa using h3
   show f.1<_;omega)
  rw[this];exact congrArg G (uj (k:=λd:bB=>d.1) (x:=mkD r f b))
 ·rw[if_neg z,show (f.2.2.1==2)=false by simpa using z];rfl
theorem zO (K:Nat)(n:aa)(f:ag)(b:Int)(h:b8 n)(y:bA f)(u:1048577<K):Q73.f K (n,f,b,())=some ((),(sayOf n f b,())):=by
 simp only[Q73.f,zcp8];have X:∃ g:ag,∃ z,Q37.f K (aa.table n,f.1,())=some ((g,z,()),())/\kf n f=(g.2.2.1==f.2.2.1&&g.2.1==f.2.1):=by
  rcases gv K (aa.table n) f.1 h.lt u with ⟨r,_⟩|⟨_,⟨g,O,e,r⟩|⟨J,r⟩⟩
  ·exact absurd h.table r
  ·exact⟨g,_,r,by rw[sQ h.table.2 O e,Bool.and_comm]⟩
  ·refine⟨_,_,r,?_⟩;rw[sR J,show ((0:Int)==f.2.2.1)=false by have:=y.2.2.1;simp;omega];rfl
 obtain⟨g,z,r,R⟩:=X;rw[show Q37.f K (n.2.2.2.2.2.2.2.2.1,f.1,())=_ from r];simp only[BK];rw[show Q67.f K (n.2.2.2.2.2.2.2.2.1,f,())=_ from zN K (aa.table n) f h.lt h.table.2 u];simp only[BK];cases H:(bS (aa.table n) f).2 with
 |false =>
  simp only[sayOf,H];rfl
 |true =>
  simp only[sayOf,H,BT,cond_false,cond_true];rw[show Q68.f K (n.2.2.2.2.2.2.2.2.2.1,f,())=_ from xj K (aa.cast n) f h.lc h.cast y u];simp only[BK];have I:=Ag K n.2.2.2.2.2.1 (aa.doubts n) f b (λM=>some ((),(iV n (bS (aa.table n) f).1 (dp (aa.cast n) f) M,()))) h.ld h.asc h.inp y u;rw[R];cases g.2.2.1==f.2.2.1 with
  |true =>
   cases g.2.1==f.2.1 with
   |true=>rfl
   |false=>exact I
  |false=>exact I
theorem iW {α:Type}{k:α->Int}{xs:List α}(h:Asc k xs)(u:∀ x∈xs,InP (k x) 0 7):xs.length<=8:=by
 have:=(jj (xs.map k) [0,1,2,3,4,5,6,7] (by unfold Asc at h;rw[CD];exact h) (by decide) (λy z=>by
  obtain⟨x,r,rfl⟩:=B7.1 z;obtain⟨I,H⟩:=u x r;simp only[CO,Cv,or_false];omega)).1
 rw[BY]at this;exact this
theorem hM (t:List ag)(f:ag):(bS t f).1=t\/(bS t f).1=bE (λg=>g.1) f t:=by
 unfold bS;split
 ·split
  ·exact .inr rfl
  ·exact .inl rfl
 ·exact .inr rfl
theorem ky {t:List ag}{f:ag}(h:ax t)(u:bA f):ax (bS t f).1:=by
 rcases hM t f with e|e
 ·rw[e];exact h
 ·rw[e];refine⟨λg y=>?_,fk h.2⟩;rcases aZ.1 y with rfl|⟨r,_⟩
  ·exact u
  ·exact h.1 g r
theorem pJ {l:List aM}{f:ag}(h:cQ l)(u:bA f):cQ (dp l f):=by
 unfold dp;split
 ·exact h
 ·refine⟨λx r=>?_,fk h.2⟩;rcases aZ.1 r with rfl|⟨y,_⟩
  ·exact⟨u,show (1:Int)<=4 by omega,show (4:Int)<=4 by omega⟩
  ·exact h.1 x y
theorem kz {r:Int}{ds:List bB}{f:ag}{b:Int}{d:bB}(h:d∈cM r ds f b):d=mkD r f b\/d∈ds:=by
 unfold cM at h;split at h
 ·rcases aZ.1 h with h|h
  ·exact .inl h
  ·exact .inr h.1
 ·exact .inr (BR.1 h).1
theorem sS {r:Int}{ds:List bB}{f:ag}{b:Int}(h:Asc (λd:bB=>d.1) ds):Asc (λd:bB=>d.1) (cM r ds f b):=by
 unfold cM;split
 ·exact fk h
 ·exact mg h _
theorem iJ (n:aa)(f:ag)(b:Int):∃ t c r,sayOf n f b=iV n t c r/\(t=aa.table n\/t=(bS (aa.table n) f).1)/\(c=aa.cast n\/c=dp (aa.cast n) f)/\(r=aa.doubts n\/r=cM n.2.2.2.2.2.1 (aa.doubts n) f b):=by
 unfold sayOf;cases (bS (aa.table n) f).2 with
 |false=>exact⟨aa.table n,aa.cast n,aa.doubts n,rfl,.inl rfl,.inl rfl,.inl rfl⟩
 |true =>
  cases kf n f with
  |true=>exact⟨_,_,_,rfl,.inr rfl,.inr rfl,.inl rfl⟩
  |false=>exact⟨_,_,_,rfl,.inr rfl,.inr rfl,.inr rfl⟩
theorem b8.mk' {n:aa}(r:ax (aa.table n))(u:cQ (aa.cast n))(z:Asc (λd:bB=>d.1) (aa.doubts n))(y:∀ d∈aa.doubts n,InP d.1 0 7):b8 n where
 table:=r
 cast:=u
 asc:=z
 inp:=y
 lt:=B6 (iW r.2 (λg I=>(r.1 g I).1)) (by decide)
 lc:=B6 (iW u.2 (λx H=>(u.1 x H).1.1)) (by decide)
 ld:=B6 (iW z y) (by decide)
theorem jl {n:aa}{f:ag}{b:Int}(h:b8 n)(u:bA f):b8 (sayOf n f b):=by
 obtain⟨t,c,z,e,I,H,y⟩:=iJ n f b;rw[e];refine b8.mk' ?_ ?_ ?_ ?_
 ·show ax t;rcases I with rfl|rfl
  ·exact h.table
  ·exact ky h.table u
 ·show cQ c;rcases H with rfl|rfl
  ·exact h.cast
  ·exact pJ h.cast u
 ·show Asc _ z;rcases y with rfl|rfl
  ·exact h.asc
  ·exact sS h.asc
 ·show ∀ d∈z,InP d.1 0 7;rcases y with rfl|rfl
  ·exact h.inp
  ·intro d r;rcases kz r with rfl|r
   ·exact u.1
   ·exact h.inp d r
theorem yP {n:aa}{f:ag}{b:Int}(h:∀ d∈aa.doubts n,d.2.2.2.length<=1048576):∀ d∈aa.doubts (sayOf n f b),d.2.2.2.length<=1048576:=by
 obtain⟨t,c,y,e,_,_,u⟩:=iJ n f b;rw[e];show ∀ d∈y,_;rcases u with rfl|rfl
 ·exact h
 ·intro d r;rcases kz r with rfl|r
  ·exact Nat.succ_le_of_lt (by decide)
  ·exact h d r
theorem UpP.say {n:aa}(h:UpP n):b8 n:=by
 obtain⟨u,_,_,⟨H,_⟩,_,r,_⟩:=h;refine b8.mk' u H r.2.1 λd y=>?_
 obtain⟨f,z,e,_⟩:=(r.1 d y).1;rw[<- e];exact (u.1 f z).1
theorem lJ {α β A R:Type}(t:List α)(p:α->Bool)(g:α->β)(S:List β->Nat->A)(u:List β->Option R){step:(A->Option R)->A->Option R}
  (h:∀ (rec:A->Option R) (r:List β) (i:Nat) (O:i<t.length),r.length<=i->step rec (S r i)=rec (S (bif p t[i] then r++[g t[i]] else r) (i+1)))
  (z:∀ (rec:A->Option R) (r:List β),r.length<=t.length->step rec (S r t.length)=u r) {k:Nat} (H:t.length<k) :
  ae step k (S [] 0)=u ((t.filter p).map g):=by
 have:∀ (d i k:Nat) (r:List β),i+d=t.length->d<k->r.length<=i->ae step k (S r i)=u (r++((t.drop i).filter p).map g):=by
  intro d;induction d with
  |zero =>
   intro i k r O H J;obtain⟨k,rfl⟩:∃ I,k=I+1:=⟨k-1,by omega⟩;have:i=t.length:=by omega
   subst this;show step (ae step k) _=_;rw[z _ _ J];simp
  |succ d M =>
   intro i k r O H J;obtain⟨k,rfl⟩:∃ I,k=I+1:=⟨k-1,by omega⟩;have y:i<t.length:=by omega
   show step (ae step k) _=_;rw[h _ _ _ y J,CC y,CG];cases p t[i] with
   |true =>
    simp only[cond_true,if_true,C6];rw[M (i+1) k _ (by omega) (by omega) (by simp;omega),CL];rfl
   |false =>
    simp only[cond_false];rw[M (i+1) k _ (by omega) (by omega) (by omega)];rfl
 have:=this t.length 0 k [] (by omega) H (B3 _)
 rwa [B8,BX]at this
def sU:aa:=(0,false,false,false,0,0,0,0,[],[],(0,0,0,false),[],(0,0,0,0),[],[])
theorem uk:NB sU where
 table:=B4 _
 cast:=B4 _
 doubts:=B4 _
 by_:=λd r=>absurd r Cv
 places:=B4 _
 trips:=λd r=>absurd r Cv
 others:=B4 _
 facts:=λd r=>absurd r Cv
theorem szw (a b c:Nat)(r:c<=128)(h:a+b<=2097152):decide ((a+b)*c<=ak)=true:=by
 have:=Cp h r;exact decide_eq_true (by unfold ak;omega)
def kR (n:aa):aa:=(n.1,n.2.1,true,n.2.2.2)
def nS (r:Int)(n:aa)(to:Int):aq:=(1,r,n.1,to,0,n.1,aa.coord n,aa.table n)
theorem uV (K:Nat)(n:aa)(r to:Int)(u:(aa.table n).length<=1048576):Q101.f K (n,r,to,())=some ((nS r n to,()),()):=by
 simp only[Q101.f,zcp4,Q81.f,BK,Q0.f];rw[dY (by show (aa.table n).length*_<=_;omega)];rfl
theorem nT (K:Nat)(n:aa)(r to:Int)(u:(aa.table n).length<=1048576):Q156.f K (n,r,to,0,n.1,aa.table n,())=some ((nS r n to,()),()):=by
 simp only[Q156.f];rw[szb _ _ _ (by omega) (by show (BL ([]:List ag))+(aa.table n).length<=_;simp;omega)];rfl
def cL (f:ag):Bool:=f.2.2.1==1||f.2.2.1==2
theorem uW (K:Nat)(t:List ag)(f:ag)(z:ax t)(J:t.length<=1048576)(u:f∈t)(I:1048577<K):Q199.f K (t,f.1,())=rb (cL f):=by
 simp only[Q199.f];obtain⟨o,H,y⟩:=fC K t f.1 J I;rw[y];simp only[BK];cases H with
 |at_ i r e =>
  simp only;rw[decide_eq_true (by omega:((i:Nat):Int)>=0),af r];simp only[cond_true,BK];rw[gw z.2 (BM r) u e,cL];cases f.2.2.1==1 <;> rfl
 |no h=>exact absurd rfl (h f u)
def sW (n:aa)(f:ag):Bool:=f.1 != n.1&&cL f
def lK (n:aa):List aq:=((aa.table n).filter (sW n)).map λf=>nS 5 n f.1
def mW (n:aa):aa:=kR (sayOf n (n.1,n.2.2.2.2.1,4,n.2.2.2.1) n.1)
theorem sX (K:Nat)(x:ab Q215.ps)(m:aa)(z:ax (aa.table m))(y:(aa.table m).length<=1048576)(H:1048577<K) :
  Q215.l0 K x ([],0,m.1,m.2.1,m.2.2.2.1,m.2.2.2.2.1,m.2.2.2.2.2.1,m.2.2.2.2.2.2.1,m.2.2.2.2.2.2.2.1,m.2.2.2.2.2.2.2.2.1,m.2.2.2.2.2.2.2.2.2.1,m.2.2.2.2.2.2.2.2.2.2.1.1,m.2.2.2.2.2.2.2.2.2.2.1.2.1,m.2.2.2.2.2.2.2.2.2.2.1.2.2.1,m.2.2.2.2.2.2.2.2.2.2.1.2.2.2,m.2.2.2.2.2.2.2.2.2.2.2.1,m.2.2.2.2.2.2.2.2.2.2.2.2.1.1,m.2.2.2.2.2.2.2.2.2.2.2.2.1.2.1,m.2.2.2.2.2.2.2.2.2.2.2.2.1.2.2.1,m.2.2.2.2.2.2.2.2.2.2.2.2.1.2.2.2,m.2.2.2.2.2.2.2.2.2.2.2.2.2.1,m.2.2.2.2.2.2.2.2.2.2.2.2.2.2)=some ((kR m,lK (kR m),()),()):=by
 refine lJ (step:=λrec a=>Q215.s0 K x rec a) (aa.table m) (sW (kR m)) (λf=>nS 5 (kR m) f.1) (λr i=>(r,(i:Int),m.1,m.2.1,m.2.2.2.1,m.2.2.2.2.1,m.2.2.2.2.2.1,m.2.2.2.2.2.2.1,m.2.2.2.2.2.2.2.1,m.2.2.2.2.2.2.2.2.1,m.2.2.2.2.2.2.2.2.2.1,m.2.2.2.2.2.2.2.2.2.2.1.1,m.2.2.2.2.2.2.2.2.2.2.1.2.1,m.2.2.2.2.2.2.2.2.2.2.1.2.2.1,m.2.2.2.2.2.2.2.2.2.2.1.2.2.2,m.2.2.2.2.2.2.2.2.2.2.2.1,m.2.2.2.2.2.2.2.2.2.2.2.2.1.1,m.2.2.2.2.2.2.2.2.2.2.2.2.1.2.1,m.2.2.2.2.2.2.2.2.2.2.2.2.1.2.2.1,m.2.2.2.2.2.2.2.2.2.2.2.2.1.2.2.2,m.2.2.2.2.2.2.2.2.2.2.2.2.2.1,m.2.2.2.2.2.2.2.2.2.2.2.2.2.2)) (λJ=>some ((kR m,J,()),())) ?_ ?_ (by omega)
 ·intro rec r i u I;simp only[Q215.s0,zceae5f];rw[show decide ((i:Int)<(BL m.2.2.2.2.2.2.2.2.1:Int))=true from bk (by omega:(i:Int)<(BL (aa.table m):Int)),show idx m.2.2.2.2.2.2.2.2.1 (i:Int)=some (aa.table m)[i] from af u,ar i (by omega)];simp only[cond_true,BK,sW];rw[show (kR m).1=m.1 from rfl];cases M:(aa.table m)[i].1 != m.1 with
  |false=>rfl
  |true =>
   simp only[cond_true,CZ];rw[show Q199.f K (m.2.2.2.2.2.2.2.2.1,(aa.table m)[i].1,())=_ from uW K (aa.table m) _ z y (BM u) H];simp only[BK];cases cL (aa.table m)[i] with
   |false=>rfl
   |true =>
    simp only[cond_true];refine (congrArg (λo=>CP o _) (nT K (kR m) 5 (aa.table m)[i].1 y)).trans ?_;simp only[BK];rw[szw _ _ _ (by omega) (by simp;omega)];rfl
 ·intro rec r I;simp only[Q215.s0,zceae5f];rw[show decide ((BL (aa.table m):Int)<(BL m.2.2.2.2.2.2.2.2.1:Int))=false from aP _];rfl
theorem vL {n:aa}(r:gb n):bA (n.1,n.2.2.2.2.1,4,n.2.2.2.1):=⟨r.1,r.2.2.2.2.1,show (1:Int)<=4 by omega,show (4:Int)<=4 by omega⟩
theorem Ah (K:Nat)(n:aa)(J:NB n)(r:gb n)(u:n.2.1=true)(I:n.2.2.1=false)(z:1048577<K):Q215.f K (n,())=some ((mW n,lK (mW n),()),()):=by
 have y:=(r.up u).say;have H:=jl (b:=n.1) y (vL r);simp only[Q215.f,Q215.pre];rw[u,I];simp only[BT,cond_false];rw[pI K n _ n.1 y z];exact sX K _ _ H.table H.lt z
theorem kS {α r A R:Type}(ds:List α)(st:r->α->r)(Inv:r->Prop)(S:r->Nat->A)(u:r->Option R){step:(A->Option R)->A->Option R}(n:r)(X:Inv n)
  (h:∀ (rec:A->Option R) (m:r) (i:Nat) (M:i<ds.length),Inv m->step rec (S m i)=rec (S (st m ds[i]) (i+1))/\Inv (st m ds[i]))
  (z:∀ (rec:A->Option R) (m:r),Inv m->step rec (S m ds.length)=u m) {k:Nat} (H:ds.length<k):ae step k (S n 0)=u (ds.foldl st n):=by
 have:∀ (d i k:Nat) (m:r),i+d=ds.length->d<k->Inv m->ae step k (S m i)=u ((ds.drop i).foldl st m):=by
  intro d;induction d with
  |zero =>
   intro i k m M H I;obtain⟨k,rfl⟩:∃ J,k=J+1:=⟨k-1,by omega⟩;have:i=ds.length:=by omega
   subst this;show step (ae step k) _=_;rw[z _ _ I,C8];rfl
  |succ d O =>
   intro i k m M H I;obtain⟨k,rfl⟩:∃ J,k=J+1:=⟨k-1,by omega⟩;have y:i<ds.length:=by omega
   show step (ae step k) _=_;obtain⟨Y,Z⟩:=h (ae step k) m i y I;rw[Y,CC y];exact O (i+1) k _ (by omega) (by omega) Z
 have:=this ds.length 0 k n (by omega) H X
 rwa [B8]at this
theorem jm {α r:Type}{st:r->α->r}{Inv:r->Prop}:∀ {ds:List α} {n:r},Inv n->(∀ m,∀ d∈ds,Inv m->Inv (st m d))->Inv (ds.foldl st n)
 |[],_,h,_=>h
 |d::ds,n,h,y=>jm (ds:=ds) (y n d (by simp) h) (λm z u=>y m z (by simp[u]))
def aC (t:List ag)(r:Int):ag:=(t.find? λg=>g.1==r).getD (0,0,0,false)
theorem jL {t:List ag}(r:Asc (λg:ag=>g.1) t){f:ag}(u:f∈t):aC t f.1=f:=by
 obtain⟨i,y,e⟩:=BS u;unfold aC;rw[show t.find? (λg=>g.1==f.1)=some t[i] from oY r y (by rw[e]),e];rfl
theorem jM {t:List ag}{r:Int}(h:∀ g∈t,g.1≠r):aC t r=(0,0,0,false):=by
 unfold aC;rw[show t.find? (λg=>g.1==r)=none from nR h];rfl
theorem iX (K:Nat)(t:List ag)(r:Int)(y:ax t)(I:t.length<=1048576)(H:1048577<K):∃ b,Q37.f K (t,r,())=some ((aC t r,b,()),()):=by
 rcases gv K t r I H with ⟨u,_⟩|⟨_,⟨g,J,e,u⟩|⟨z,u⟩⟩
 ·exact absurd y u
 ·refine⟨true,?_⟩;rw[u,<- e,jL y.2 J]
 ·refine⟨false,?_⟩;rw[u,jM z]
theorem sY (K:Nat)(t:List ag)(r:Int)(z:ax t)(y:t.length<=1048576)(I:1048577<K):Q199.f K (t,r,())=rb (cL (aC t r)):=by
 by_cases h:∃ f∈t,f.1=r
 ·obtain⟨f,H,rfl⟩:=h;rw[uW K t f z y H I,jL z.2 H]
 ·have u:∀ g∈t,g.1≠r:=λg M e=>h ⟨g,M,e⟩
  simp only[Q199.f];obtain⟨o,J,O⟩:=fC K t r y I;rw[O,jM u];cases J with
  |at_ i R e=>exact absurd e (u _ (BM R))
  |no _=>rfl
theorem sZ (K:Nat)(n:aa)(r:Int)(u:ax (aa.table n))(H:(aa.table n).length<=1048576)(y:1048577<K):Q79.f K (n,r,())=rb (cL (aC (aa.table n) r)):=by
 simp only[Q79.f,Q78.f];obtain⟨b,I⟩:=iX K (aa.table n) r u H y;rw[show Q37.f K (n.2.2.2.2.2.2.2.2.1,r,())=_ from I];simp only[BK];obtain⟨b,J,z⟩:=fA K (aC (aa.table n) r).2.2.1 1 2;rw[J];have:b=cL (aC (aa.table n) r):=by
  rw[CV,z,cL,Bool.or_eq_true,beq_iff_eq,beq_iff_eq];show (1<=(aC (aa.table n) r).2.2.1/\(aC (aa.table n) r).2.2.1<=2)<->_;omega
 rw[this];rfl
theorem dj (n:aa)(f:ag)(b:Int):(sayOf n f b).1=n.1/\(sayOf n f b).2.1=n.2.1/\(sayOf n f b).2.2.1=n.2.2.1/\(sayOf n f b).2.2.2.1=n.2.2.2.1/\(sayOf n f b).2.2.2.2.1=n.2.2.2.2.1/\(sayOf n f b).2.2.2.2.2.1=n.2.2.2.2.2.1/\(sayOf n f b).2.2.2.2.2.2.1=n.2.2.2.2.2.2.1/\(sayOf n f b).2.2.2.2.2.2.2.1=n.2.2.2.2.2.2.2.1/\aa.probe (sayOf n f b)=aa.probe n/\(sayOf n f b).2.2.2.2.2.2.2.2.2.2.2.2=n.2.2.2.2.2.2.2.2.2.2.2.2:=by
 obtain⟨t,c,r,e,_⟩:=iJ n f b;rw[e];exact⟨rfl,rfl,rfl,rfl,rfl,rfl,rfl,rfl,rfl,rfl⟩
theorem mX {t:List ag}{f g:ag}(r:g∈t):∃ u∈(bS t f).1,u.1=g.1:=by
 rcases hM t f with e|e
 ·rw[e];exact⟨g,r,rfl⟩
 ·rw[e];by_cases h:g.1=f.1
  ·exact⟨f,aZ.2 (.inl rfl),h.symm⟩
  ·exact⟨g,aZ.2 (.inr ⟨r,h⟩),rfl⟩
theorem iK {n:aa}{f:ag}{b:Int}{g:ag}(r:g∈aa.table n):∃ y∈aa.table (sayOf n f b),y.1=g.1:=by
 obtain⟨t,c,z,e,u,_⟩:=iJ n f b;rw[e];rcases u with rfl|rfl
 ·exact⟨g,r,rfl⟩
 ·exact mX r
def gV (u r:Int)(len:Nat):Bool:=decide (u-r>=if 6-(len:Int)+1<3 then 3 else 6-(len:Int)+1)
def ff (f:ag):ag:=(f.1,f.2.1,3,f.2.2.2)
def cN (n:aa)(d:bB):aa:=bif gV n.2.2.2.2.2.1 d.2.2.1 d.2.2.2.length then sayOf n (ff (aC (aa.table n) d.1)) n.1 else n
def dA (n:aa):aa:=(aa.doubts n).foldl cN n
theorem due_s (K:Nat)(r:Int)(d:bB)(y:0<=d.2.2.1)(H:d.2.2.1<=r)(z:r<=1000000)(u:d.2.2.2.length<=1048576):Q196.f K (r,d,())=rb (gV r d.2.2.1 d.2.2.2.length):=by
 simp only[Q196.f];rw[aA (n:=6-(BL d.2.2.2:Int)) (by omega) (by omega),aA (n:=6-(BL d.2.2.2:Int)+1) (by omega) (by omega),aA (n:=r-d.2.2.1) (by omega) (by omega)];unfold gV;by_cases h:6-(BL d.2.2.2:Int)+1<3
 ·rw[decide_eq_true h,if_pos h];rfl
 ·rw[decide_eq_false h,if_neg h];rfl
theorem Ai (K:Nat)(a b c:Int)(len:Nat)(r:len<=1048576):Q66.f K ((a,b,c,len),())=some ((if 6-(len:Int)+1<3 then 3 else 6-(len:Int)+1,()),()):=by
 simp only[Q66.f];rw[aA (n:=6-(len:Int)) (by omega) (by omega),aA (n:=6-(len:Int)+1) (by omega) (by omega)];by_cases h:6-(len:Int)+1<3
 ·rw[decide_eq_true h,if_pos h];rfl
 ·rw[decide_eq_false h,if_neg h];rfl
structure jN (ds:List bB) (now:Int) (n:aa):Prop where
 ok:b8 n
 key:∀ d∈ds,∃ f∈aa.table n,f.1=d.1
 now_:n.2.2.2.2.2.1=now
theorem lL {f:ag}(h:bA f):bA (ff f):=⟨h.1,h.2.1,show (1:Int)<=3 by omega,show (3:Int)<=4 by omega⟩
theorem cE {t:List ag}{r:Int}(y:ax t)(h:∃ f∈t,f.1=r):bA (aC t r)/\(aC t r).1=r/\aC t r∈t:=by
 obtain⟨f,u,rfl⟩:=h;rw[jL y.2 u];exact⟨y.1 f u,rfl,u⟩
theorem li {ds:List bB}{r:Int}{n:aa}{d:bB}(h:jN ds r n)(z:d∈ds):jN ds r (cN n d):=by
 unfold cN;cases gV n.2.2.2.2.2.1 d.2.2.1 d.2.2.2.length with
 |false=>exact h
 |true =>
  have H:=lL (cE h.ok.table (h.key d z)).1;refine⟨jl h.ok H,λM u=>?_,(dj n _ _).2.2.2.2.2.1.trans h.now_⟩;obtain⟨g,O,e⟩:=h.key M u;obtain⟨J,y,I⟩:=iK (f:=ff (aC (aa.table n) d.1)) (b:=n.1) O;exact⟨J,y,I.trans e⟩
theorem xk (K:Nat)(n:aa)(h:jN (aa.doubts n) n.2.2.2.2.2.1 n)(hd:∀ d∈aa.doubts n,0<=d.2.2.1/\d.2.2.1<=n.2.2.2.2.2.1/\d.2.2.2.length<=1048576)(y:n.2.2.2.2.2.1<=1000000)(J:1048577<K):Q198.f K (n,())=some ((dA n,()),()):=by
 have hl:=h.ok.ld;refine kS (step:=λrec a=>Q198.s0 K (n,()) rec a) (aa.doubts n) cN (jN (aa.doubts n) n.2.2.2.2.2.1) (λm i=>((i:Int),m.1,m.2.1,m.2.2.1,m.2.2.2.1,m.2.2.2.2.1,m.2.2.2.2.2.1,m.2.2.2.2.2.2.1,m.2.2.2.2.2.2.2.1,m.2.2.2.2.2.2.2.2.1,m.2.2.2.2.2.2.2.2.2.1,m.2.2.2.2.2.2.2.2.2.2.1.1,m.2.2.2.2.2.2.2.2.2.2.1.2.1,m.2.2.2.2.2.2.2.2.2.2.1.2.2.1,m.2.2.2.2.2.2.2.2.2.2.1.2.2.2,m.2.2.2.2.2.2.2.2.2.2.2.1,m.2.2.2.2.2.2.2.2.2.2.2.2.1.1,m.2.2.2.2.2.2.2.2.2.2.2.2.1.2.1,m.2.2.2.2.2.2.2.2.2.2.2.2.1.2.2.1,m.2.2.2.2.2.2.2.2.2.2.2.2.1.2.2.2,m.2.2.2.2.2.2.2.2.2.2.2.2.2.1,m.2.2.2.2.2.2.2.2.2.2.2.2.2.2)) (λm=>some ((m,()),())) n h ?_ ?_ (by omega)
 ·intro rec m i H u;refine⟨?_,li u (BM H)⟩;simp only[Q198.s0,zc286a0,zc3ec45];obtain⟨M,R,I⟩:=hd _ (BM H);rw[show decide ((i:Int)<(BL n.2.2.2.2.2.2.2.2.2.2.2.1:Int))=true from bk (by omega:(i:Int)<(BL (aa.doubts n):Int)),show idx n.2.2.2.2.2.2.2.2.2.2.2.1 (i:Int)=some (aa.doubts n)[i] from af H,ar i (by omega)];simp only[cond_true,BK];rw[due_s K m.2.2.2.2.2.1 (aa.doubts n)[i] M (by rw[u.now_];exact R) (by rw[u.now_];exact y) I];simp only[BK];have r:=u.key _ (BM H);generalize (aa.doubts n)[i]=d at r M R I ⊢;unfold cN;cases gV m.2.2.2.2.2.1 d.2.2.1 d.2.2.2.length with
  |false=>rfl
  |true =>
   simp only[cond_true];have z:=cE u.ok.table r;obtain⟨o,X,Z⟩:=fC K (aa.table m) d.1 u.ok.lt J;rw[show Q16.f K (m.2.2.2.2.2.2.2.2.1,d.1,())=_ from Z];simp only[BK];cases X with
   |no h=>exact absurd r (λ⟨f,Y,e⟩=>h f Y e)
   |at_ j O e =>
    simp only;rw[show idx m.2.2.2.2.2.2.2.2.1 ((j:Nat):Int)=some (aa.table m)[j] from af O,gw u.ok.table.2 (BM O) z.2.2 (by rw[e,z.2.1])];simp only[BK];refine (congrArg (λo=>CP o _) (pI K m (ff (aC (aa.table m) d.1)) m.1 u.ok J)).trans ?_;rfl
 ·intro rec m u;simp only[Q198.s0,zc286a0,zc3ec45];rw[show decide ((BL (aa.doubts n):Int)<(BL n.2.2.2.2.2.2.2.2.2.2.2.1:Int))=false from aP _];rfl
theorem Bc (K:Nat)(n:aa)(h:jN (aa.doubts n) n.2.2.2.2.2.1 n)(hd:∀ d∈aa.doubts n,0<=d.2.2.1/\d.2.2.1<=n.2.2.2.2.2.1/\d.2.2.2.length<=1048576)(Y:n.2.2.2.2.2.1<=1000000)(Z:1048577<K):Q74.f K (n,())=some ((),(dA n,())):=by
 have hl:=h.ok.ld;simp only[Q74.f,Q74.pre,zc3ec45];have hc:∃ r:List (Int×Int×Int×Nat),r=(aa.doubts n).map (λd=>(d.1,d.2.1,d.2.2.1,d.2.2.2.length))/\Q7.f K (aa.doubts n,())=some ((r,()),()):=by
  refine⟨_,rfl,?_⟩;simp only[Q7.f,qq];rw[dY (by omega)];rfl
 obtain⟨r,H,e⟩:=hc;rw[show Q7.f K (n.2.2.2.2.2.2.2.2.2.2.2.1,())=_ from e];simp only[BK];have I:r.length=(aa.doubts n).length:=by rw[H,BY]
 have O:∀ i (z:i<(aa.doubts n).length),r[i]'(by rw[I];exact z)=((aa.doubts n)[i].1,(aa.doubts n)[i].2.1,(aa.doubts n)[i].2.2.1,(aa.doubts n)[i].2.2.2.length):=λi z=>by
  simp only[H,DO]
 clear H;refine kS (step:=λrec a=>Q74.s0 K (n,()) rec a) (aa.doubts n) cN (jN (aa.doubts n) n.2.2.2.2.2.1) (λm i=>(r,(BL r:Int),(i:Int),m.1,m.2.1,m.2.2.1,m.2.2.2.1,m.2.2.2.2.1,m.2.2.2.2.2.1,m.2.2.2.2.2.2.1,m.2.2.2.2.2.2.2.1,m.2.2.2.2.2.2.2.2.1,m.2.2.2.2.2.2.2.2.2.1,m.2.2.2.2.2.2.2.2.2.2.1.1,m.2.2.2.2.2.2.2.2.2.2.1.2.1,m.2.2.2.2.2.2.2.2.2.2.1.2.2.1,m.2.2.2.2.2.2.2.2.2.2.1.2.2.2,m.2.2.2.2.2.2.2.2.2.2.2.1,m.2.2.2.2.2.2.2.2.2.2.2.2.1.1,m.2.2.2.2.2.2.2.2.2.2.2.2.1.2.1,m.2.2.2.2.2.2.2.2.2.2.2.2.1.2.2.1,m.2.2.2.2.2.2.2.2.2.2.2.2.1.2.2.2,m.2.2.2.2.2.2.2.2.2.2.2.2.2.1,m.2.2.2.2.2.2.2.2.2.2.2.2.2.2)) (λm=>some ((),(m,()))) n h ?_ ?_ (by omega)
 ·intro rec m i z u;refine⟨?_,li u (BM z)⟩;simp only[Q74.s0,zc286a0,zc3ec45];have M:i<r.length:=by rw[I];exact z
  obtain⟨d0,d1,X⟩:=hd _ (BM z);rw[bk (by omega:(i:Int)<(BL r:Int)),af M,ar i (by omega),BO,af M,O i z];simp only[cond_true,BK];have y:=u.key _ (BM z);generalize (aa.doubts n)[i]=d at y d0 d1 X ⊢;rw[Ai K d.1 d.2.1 d.2.2.1 d.2.2.2.length X];simp only[BK];have a0:=u.now_;rw[aA (n:=m.2.2.2.2.2.1-d.2.2.1) (by omega) (by omega)];have J:decide (m.2.2.2.2.2.1-d.2.2.1<if 6-(BL d.2.2.2:Int)+1<3 then 3 else 6-(BL d.2.2.2:Int)+1)=!gV m.2.2.2.2.2.1 d.2.2.1 d.2.2.2.length:=by
   unfold gV;rw[CV];simp
  rw[show decide (m.2.2.2.2.2.1-d.2.2.1<(if 6-(BL d.2.2.2:Int)+1<3 then 3 else 6-(BL d.2.2.2:Int)+1:Int))=_ from J];unfold cN;cases gV m.2.2.2.2.2.1 d.2.2.1 d.2.2.2.length with
  |false=>rfl
  |true =>
   simp only[BT,cond_false,cond_true];have R:=cE u.ok.table y;obtain⟨b,hw⟩:=iX K (aa.table m) d.1 u.ok.table u.ok.lt Z;rw[show Q37.f K (m.2.2.2.2.2.2.2.2.1,d.1,())=_ from hw];simp only[BK];refine (congrArg (λo=>CP o _) (zO K m (ff (aC (aa.table m) d.1)) m.1 u.ok (lL R.1) Z)).trans ?_;rfl
 ·intro rec m u;simp only[Q74.s0,zc286a0,zc3ec45];rw[<- I,aP];rfl
def setP (n:aa)(p:ag):aa:=(n.1,n.2.1,n.2.2.1,n.2.2.2.1,n.2.2.2.2.1,n.2.2.2.2.2.1,n.2.2.2.2.2.2.1,n.2.2.2.2.2.2.2.1,n.2.2.2.2.2.2.2.2.1,n.2.2.2.2.2.2.2.2.2.1,p,n.2.2.2.2.2.2.2.2.2.2.2)
def noP:ag:=(-1,0,0,false)
def mh (f:ag):ag:=(f.1,f.2.1,2,f.2.2.2)
def pK (n:aa)(f:ag):Bool:=f.2.2.1==1&&f.1 != n.1&&f.1 != (aa.probe n).1
def cF (n:aa):List Int:=(((aa.table n).filter (pK n)).map (·.1)).take 2
def askW (n:aa)(to:Int):aq:=(1,3,n.1,to,(aa.probe n).2.2.1,(aa.probe n).1,aa.coord n,[])
def jO (n:aa):aa:=setP n ((aa.probe n).1,(aa.probe n).2.1,(aa.probe n).2.2.1,true)
def a8 (n:aa):aa×List aq :=
 bif (aa.probe n).1==-1 then (n,[]) else
 bif !cL (aC (aa.table n) (aa.probe n).1) then (setP n noP,[]) else
 bif decide (n.2.2.2.2.2.1-(aa.probe n).2.1>=4) then (bif (aC (aa.table n) (aa.probe n).1).2.2.1==1 then sayOf (setP n noP) (mh (aC (aa.table n) (aa.probe n).1)) n.1 else setP n noP,[]) else
 bif decide (n.2.2.2.2.2.1-(aa.probe n).2.1>=2) then (bif !(aa.probe n).2.2.2 then (jO n,(cF n).map (askW n)) else (n,[])) else (n,[])
theorem b8.setP {n:aa}(h:b8 n)(p:ag):b8 (setP n p):=⟨h.table,h.cast,h.asc,h.inp,h.lt,h.lc,h.ld⟩
theorem qy {f:ag}(h:bA f):bA (mh f):=⟨h.1,h.2.1,show (1:Int)<=2 by omega,show (2:Int)<=4 by omega⟩
theorem eo {t:List ag}{r:Int}(h:cL (aC t r)=true):∃ f∈t,f.1=r:=by
 by_cases u:∃ f∈t,f.1=r
 ·exact u
 ·rw[jM (λg y e=>u ⟨g,y,e⟩)]at h;simp[cL]at h
theorem xm (K:Nat)(n:aa)(J:(aa.table n).length<=1048576)(I:1048577<K):Q200.f K (n,())=some ((cF n,()),()):=by
 have:=lg (step:=λrec a=>Q200.s0 K (n,()) rec a) (aa.table n) (pK n) (λf=>f.1) 2 (λy=>some ((y,()),())) ?_ ?_ ?_ (aa.table n).length 0 K [] (by omega) (by omega) (B3 _) (by simp)
 ·exact this
 ·intro rec r i u z H;simp only[Q200.s0];rw[show decide ((i:Int)<(BL n.2.2.2.2.2.2.2.2.1:Int))=true from bk (by omega:(i:Int)<(BL (aa.table n):Int)),show idx n.2.2.2.2.2.2.2.2.1 (i:Int)=some (aa.table n)[i] from af u,ar i (by omega),decide_eq_true (by omega:(BL r:Int)<2)];simp only[cond_true,BK,pK];show (bif (aa.table n)[i].1 != n.1 then (bif (aa.table n)[i].1 != (aa.probe n).1 then (bif (aa.table n)[i].2.2.1==1 then (bif decide ((BL r+BL ([(aa.table n)[i].1]))*8<=ak) then (rec (r++([(aa.table n)[i].1]),((i+1:Nat):Int))) else none) else (rec (r,((i+1:Nat):Int)))) else (rec (r,((i+1:Nat):Int)))) else (rec (r,((i+1:Nat):Int))))=_;rw[szb _ _ _ (by omega) (by simp;omega)];cases (aa.table n)[i].1 != n.1 <;> cases (aa.table n)[i].1 != (aa.probe n).1 <;> cases (aa.table n)[i].2.2.1==1 <;> rfl
 ·intro rec r i u z H;simp only[Q200.s0];rw[show decide ((i:Int)<(BL n.2.2.2.2.2.2.2.2.1:Int))=true from bk (by omega:(i:Int)<(BL (aa.table n):Int)),decide_eq_false (by omega:¬ (BL r:Int)<2)];rfl
 ·intro rec r _;simp only[Q200.s0];rw[show decide ((BL (aa.table n):Int)<(BL n.2.2.2.2.2.2.2.2.1:Int))=false from aP _];rfl
theorem xn (K:Nat)(n m:aa)(p:ag)(H:aa.table m=aa.table n/\m.1=n.1)(u:p=aa.probe n)(r:(aa.table n).length<=1048576)(I:1048577<K) :
  ((Q77.f K (aa.table n,(λz=>(Q80.f K (z.1,m,p,())).map λy=>y.1.1),())).bind λJ=>Q76.f K (J.1.1,2,()))=some ((cF n,()),()):=by
 rw[qx K (aa.table n) _ (pK n) r I (λf _=>by
  simp only[Q80.f,pK];rw[H.2,u];cases f.2.2.1==1 <;> cases f.1 != n.1 <;> cases f.1 != (aa.probe n).1 <;> rfl)]
 simp only[BK];rw[qw K _ 2 (by rw[BY];exact B6 (CE _ _) r)];rfl
theorem yQ (K:Nat)(n:aa)(h:b8 n)(h0:0<=(aa.probe n).2.1)(h1:(aa.probe n).2.1<=1000000)(a0:0<=n.2.2.2.2.2.1)(X:n.2.2.2.2.2.1<=1000000)(u:1048577<K) :
  Q82.f K (n,())=some (((a8 n).2,()),((a8 n).1,())):=by
 simp only[Q82.f,Q82.pre,zcp8];obtain⟨b,hw⟩:=iX K (aa.table n) (aa.probe n).1 h.table h.lt u;rw[show Q37.f K (n.2.2.2.2.2.2.2.2.1,n.2.2.2.2.2.2.2.2.2.2.1.1,())=_ from hw];simp only[BK,a8];show (bif (aa.probe n).1==-1 then _ else _)=_;cases (aa.probe n).1==-1 with
 |true=>rfl
 |false =>
  simp only[cond_false];rw[show Q79.f K (n,n.2.2.2.2.2.2.2.2.2.2.1.1,())=_ from sZ K n (aa.probe n).1 h.table h.lt u];simp only[BK];cases Y:cL (aC (aa.table n) (aa.probe n).1) with
  |false=>rfl
  |true =>
   have O:=cE h.table (eo Y);simp only[BT,cond_false];rw[aA (n:=n.2.2.2.2.2.1-n.2.2.2.2.2.2.2.2.2.2.1.2.1) (by show -9223372036854775808<=n.2.2.2.2.2.1-(aa.probe n).2.1;omega) (by show n.2.2.2.2.2.1-(aa.probe n).2.1<=9223372036854775807;omega)];show (bif decide (n.2.2.2.2.2.1-(aa.probe n).2.1>=4) then _ else _)=_;cases decide (n.2.2.2.2.2.1-(aa.probe n).2.1>=4) with
   |true =>
    simp only[cond_true];cases (aC (aa.table n) (aa.probe n).1).2.2.1==1 with
    |true =>
     simp only[cond_true];refine (congrArg (λo=>CP o _) (zO K (setP n noP) (mh (aC (aa.table n) (aa.probe n).1)) n.1 (h.setP noP) (qy O.1) u)).trans ?_;rfl
    |false=>rfl
   |false =>
    simp only[cond_false];show (bif decide (n.2.2.2.2.2.1-(aa.probe n).2.1>=2) then _ else _)=_;cases decide (n.2.2.2.2.2.1-(aa.probe n).2.1>=2) with
    |false=>rfl
    |true =>
     simp only[cond_true];show (bif !(aa.probe n).2.2.2 then _ else _)=_;cases H:(aa.probe n).2.2.2 with
     |true=>rfl
     |false =>
      simp only[CF,cond_true];have M:=xn K n (jO n) (aa.probe n) ⟨rfl,rfl⟩ rfl h.lt u;obtain⟨y,hy,z⟩:=Option.bind_eq_some_iff.1 M;refine (congrArg (λo=>CP o _) hy).trans ?_;simp only[BK];rw[z];simp only[BK];have J:(cF n).length<=2:=Ca _ _;refine C0 (lJ (step:=λrec a=>Q82.s0 K (n,()) rec a) (cF n) (λ_=>true) (askW n) (λr i=>(r,cF n,(BL (cF n):Int),(i:Int))) (λR=>some ((R,()),(jO n,()))) ?_ ?_ (by omega)) (by rw[CM.2 (λ_ _=>rfl)])
      ·intro rec r i I Z;simp only[Q82.s0,zcp4,zcp8];rw[bk (by omega:(i:Int)<(BL (cF n):Int)),af I,ar i (by omega),BO,af I];simp only[cond_true,BK,Q81.f];rw[szw _ _ _ (by omega) (by simp;omega)];rfl
      ·intro rec r Z;simp only[Q82.s0,zcp4,zcp8,aP];rfl
theorem xo (K:Nat)(n:aa)(h:b8 n)(X:(aa.probe n).1≠-1)(h0:0<=(aa.probe n).2.1)(h1:(aa.probe n).2.1<=1000000)(a0:0<=n.2.2.2.2.2.1)(Z:n.2.2.2.2.2.1<=1000000)(y:1048577<K) :
  Q201.f K (n,())=some (((a8 n).1,(a8 n).2,()),()):=by
 simp only[Q201.f,Q201.pre,zcp8,a8];rw[show ((aa.probe n).1==-1)=false by simpa using X];simp only[cond_false];rw[show Q199.f K (n.2.2.2.2.2.2.2.2.1,n.2.2.2.2.2.2.2.2.2.2.1.1,())=_ from sY K (aa.table n) (aa.probe n).1 h.table h.lt y];simp only[BK];cases I:cL (aC (aa.table n) (aa.probe n).1) with
 |false=>rfl
 |true =>
  have u:=cE h.table (eo I);simp only[BT,cond_false];rw[aA (n:=n.2.2.2.2.2.1-n.2.2.2.2.2.2.2.2.2.2.1.2.1) (by show -9223372036854775808<=n.2.2.2.2.2.1-(aa.probe n).2.1;omega) (by show n.2.2.2.2.2.1-(aa.probe n).2.1<=9223372036854775807;omega)];show (bif decide (n.2.2.2.2.2.1-(aa.probe n).2.1>=4) then _ else _)=_;cases decide (n.2.2.2.2.2.1-(aa.probe n).2.1>=4) with
  |true =>
   simp only[cond_true];obtain⟨o,R,e1⟩:=fC K (aa.table n) (aa.probe n).1 h.lt y;rw[show Q16.f K (n.2.2.2.2.2.2.2.2.1,n.2.2.2.2.2.2.2.2.2.2.1.1,())=_ from e1];simp only[BK];cases R with
   |no z=>exact absurd (eo I) (λ⟨f,u,e⟩=>z f u e)
   |at_ j M e =>
    simp only;rw[show idx n.2.2.2.2.2.2.2.2.1 ((j:Nat):Int)=some (aa.table n)[j] from af M,gw h.table.2 (BM M) u.2.2 (by rw[e,u.2.1])];simp only[BK];cases (aC (aa.table n) (aa.probe n).1).2.2.1==1 with
    |true =>
     simp only[cond_true];refine (congrArg (λo=>CP o _) (pI K (setP n noP) (mh (aC (aa.table n) (aa.probe n).1)) n.1 (h.setP noP) y)).trans ?_;rfl
    |false=>rfl
  |false =>
   simp only[cond_false];show (bif decide (n.2.2.2.2.2.1-(aa.probe n).2.1>=2) then _ else _)=_;cases decide (n.2.2.2.2.2.1-(aa.probe n).2.1>=2) with
   |false=>rfl
   |true =>
    simp only[cond_true];show (bif !(aa.probe n).2.2.2 then _ else _)=_;cases H:(aa.probe n).2.2.2 with
    |true=>rfl
    |false =>
     simp only[CF,cond_true];refine (congrArg (λo=>CP o _) (xm K (jO n) h.lt y)).trans ?_;simp only[BK];rw[show cF (jO n)=cF n from rfl];have O:(cF n).length<=2:=Ca _ _;refine C0 (lJ (step:=λrec a=>Q201.s0 K (n,()) rec a) (cF n) (λ_=>true) (askW n) (λr i=>(r,cF n,(i:Int))) (λY=>some ((jO n,Y,()),())) ?_ ?_ (by omega)) (by rw[CM.2 (λ_ _=>rfl)])
     ·intro rec r i J ha;simp only[Q201.s0,zcp8];rw[bk (by omega:(i:Int)<(BL (cF n):Int)),af J,ar i (by omega),BO,af J];simp only[cond_true,BK,Q156.f];rw[szb _ _ _ (by omega) (by simp)];simp only[cond_true,BK];rw[szw _ _ _ (by omega) (by simp;omega)];rfl
     ·intro rec r ha;simp only[Q201.s0,zcp8,aP];rfl
def iq (n:aa)(i:Int):aa:=(n.1,n.2.1,n.2.2.1,n.2.2.2.1,i,n.2.2.2.2.2)
def fK (n:aa)(f:ag):aa:=bif decide (bR f (aC (aa.table n) n.1))&&decide (f.2.1<999) then sayOf (iq n (f.2.1+1)) (n.1,f.2.1+1,1,n.2.2.2.1) n.1 else n
def ei (f:ag)(b:Int)(d:bB):bB:=bif d.1==f.1&&d.2.1==f.2.1&&f.2.2.1==2 then (d.1,d.2.1,d.2.2.1,bE (λx:Int=>x) b d.2.2.2) else d
def kT (n:aa)(f:ag)(b:Int):aa:=iV n (aa.table n) (aa.cast n) ((aa.doubts n).map (ei f b))
def eq (b:Int)(n:aa)(f:ag):aa:=bif f.1==n.1 then fK n f else kT (sayOf n f b) f b
def jn (n:aa)(t:List ag)(b:Int):aa:=t.foldl (eq b) n
def mi (l:List Int):Prop:=Asc (λx:Int=>x) l/\∀ x∈l,InP x 0 7
theorem mi.len {l:List Int}(h:mi l):l.length<=8:=iW h.1 h.2
theorem mi.put {l:List Int}{b:Int}(h:mi l)(u:InP b 0 7):mi (bE (λx:Int=>x) b l) :=
 ⟨fk h.1,λx r=>by
  rcases aZ.1 r with rfl|⟨r,_⟩
  ·exact u
  ·exact h.2 x r⟩
structure eC (n:aa):Prop where
 say:b8 n
 me:InP n.1 0 7
 has:∃ g∈aa.table n,g.1=n.1
 by_:∀ d∈aa.doubts n,mi d.2.2.2
theorem b8.inc {n:aa}(h:b8 n)(i:Int):b8 (iq n i):=⟨h.table,h.cast,h.asc,h.inp,h.lt,h.lc,h.ld⟩
theorem mj {n:aa}{f:ag}{b:Int}(z:InP b 0 7)(h:∀ d∈aa.doubts n,mi d.2.2.2):∀ d∈aa.doubts (sayOf n f b),mi d.2.2.2:=by
 obtain⟨t,c,H,e,_,_,y⟩:=iJ n f b;rw[e];intro d r;have r:d∈H:=r;rcases y with rfl|rfl
 ·exact h d r
 ·rcases kz r with rfl|r
  ·exact⟨C9 _ _,λx u=>by rw[CK.1 u];exact z⟩
  ·exact h d r
theorem uX {n:aa}{f:ag}(u:InP n.1 0 7)(r:bA f)(h:f.2.1<999):bA (n.1,f.2.1+1,1,n.2.2.2.1):=by
 obtain⟨_,⟨z,y⟩,_⟩:=r;exact⟨u,⟨show (0:Int)<=f.2.1+1 by omega,show f.2.1+1<=999 by omega⟩,show (1:Int)<=1 by omega,show (1:Int)<=4 by omega⟩
theorem eC.refute {n:aa}{f:ag}(h:eC n)(I:bA f):eC (fK n f):=by
 unfold fK;cases z:decide (bR f (aC (aa.table n) n.1))&&decide (f.2.1<999) with
 |false=>exact h
 |true =>
  have H:f.2.1<999:=by
   rw[CR]at z;exact of_decide_eq_true z.2
  obtain⟨u,_⟩:=dj (iq n (f.2.1+1)) (n.1,f.2.1+1,1,n.2.2.2.1) n.1;refine⟨jl (h.say.inc _) (uX h.me I H),?_,?_,mj h.me h.by_⟩
  ·show InP (sayOf (iq n (f.2.1+1)) (n.1,f.2.1+1,1,n.2.2.2.1) n.1).1 0 7;rw[u];exact h.me
  ·obtain⟨g,M,e⟩:=h.has;obtain⟨y,r,J⟩:=iK (n:=iq n (f.2.1+1)) (f:=(n.1,f.2.1+1,1,n.2.2.2.1)) (b:=n.1) (g:=g) M;refine⟨y,r,?_⟩;show y.1=(sayOf (iq n (f.2.1+1)) (n.1,f.2.1+1,1,n.2.2.2.1) n.1).1;rw[u,J,e];rfl
theorem eC.confirm {n:aa}{f:ag}{b:Int}(h:eC n)(Y:bA f)(O:InP b 0 7):eC (kT (sayOf n f b) f b):=by
 have u:=jl (b:=b) h.say Y;obtain⟨M,_⟩:=dj n f b;have z:=mj (f:=f) O h.by_;obtain⟨g,X,e⟩:=h.has;obtain⟨R,J,Z⟩:=iK (n:=n) (f:=f) (b:=b) X;have H:∀ d,(ei f b d).1=d.1:=λd=>by unfold ei;cases d.1==f.1&&d.2.1==f.2.1&&f.2.2.1==2 <;> rfl
 refine⟨⟨u.table,u.cast,?_,λd I=>?_,u.lt,u.lc,?_⟩,?_,⟨R,J,?_⟩,λd I=>?_⟩
 ·show Asc (λd:bB=>d.1) ((aa.doubts (sayOf n f b)).map (ei f b));unfold Asc;rw[CD];exact u.asc.imp λ {a c} h=>by show (ei f b a).1<(ei f b c).1;rw[H,H];exact h
 ·obtain⟨y,r,rfl⟩:=B7.1 I;rw[H];exact u.inp y r
 ·show ((aa.doubts (sayOf n f b)).map (ei f b)).length<=_;rw[BY];exact u.ld
 ·show InP (sayOf n f b).1 0 7;rw[M];exact h.me
 ·show R.1=(sayOf n f b).1;rw[M,Z,e]
 ·obtain⟨y,r,rfl⟩:=B7.1 I;unfold ei;cases y.1==f.1&&y.2.1==f.2.1&&f.2.2.1==2 with
  |false=>exact z y r
  |true=>exact (z y r).put O
theorem eC.step {n:aa}{f:ag}{b:Int}(h:eC n)(r:bA f)(u:InP b 0 7):eC (eq b n f):=by
 unfold eq;cases f.1==n.1 with
 |true=>exact h.refute r
 |false=>exact h.confirm r u
theorem yR {α A R:Type}(ds:List α)(g:α->α)(S:List α->Nat->A)(u:List α->Option R){step:(A->Option R)->A->Option R}
  (h:∀ (rec:A->Option R) (cur:List α) (i:Nat) (X:i<ds.length),cur.length=ds.length->cur[i]?=some ds[i]->step rec (S cur i)=rec (S (cur.set i (g ds[i])) (i+1)))
  (z:∀ (rec:A->Option R) (cur:List α),cur.length=ds.length->step rec (S cur ds.length)=u cur) {k:Nat} (J:ds.length<k):ae step k (S ds 0)=u (ds.map g):=by
 have:∀ (d i k:Nat) (cur:List α),i+d=ds.length->d<k->cur.length=ds.length->(∀ j,(r:j<ds.length)->cur[j]?=some (if j<i then g ds[j] else ds[j]))->ae step k (S cur i)=u (ds.map g):=by
  intro d;induction d with
  |zero =>
   intro i k cur X J I H;obtain⟨k,rfl⟩:∃ M,k=M+1:=⟨k-1,by omega⟩;have:i=ds.length:=by omega
   subst this;show step (ae step k) _=_;rw[z _ _ I];congr 1;refine List.ext_getElem? λj=>?_
   rw[List.getElem?_map];by_cases r:j<ds.length
   ·rw[H j r,if_pos r,BW r];rfl
   ·rw[Cf (by omega),Cf (by omega)];rfl
  |succ d Y =>
   intro i k cur X J I H;obtain⟨k,rfl⟩:∃ M,k=M+1:=⟨k-1,by omega⟩;have y:i<ds.length:=by omega
   show step (ae step k) _=_;rw[h (ae step k) cur i y I (by rw[H i y,if_neg (by omega)])];refine Y (i+1) k _ (by omega) (by omega) (by rw[DE,I]) λj r=>?_
   rw[List.getElem?_set];by_cases e:i=j
   ·subst e;rw[if_pos rfl,if_pos (by omega),if_pos (by omega)]
   ·rw[if_neg e,H j r];by_cases O:j<i
    ·rw[if_pos O,if_pos (by omega)]
    ·rw[if_neg O,if_neg (by omega)]
 exact this ds.length 0 k ds (by omega) J rfl (λj r=>by rw[if_neg (by omega),BW r])
theorem ta {α:Type}{cur:List α}{i:Nat}{x:α}(h:cur[i]?=some x):cur.set i x=cur:=by
 obtain⟨r,e⟩:=List.getElem?_eq_some_iff.1 h;rw[<- e,List.set_getElem_self]
theorem tc {by_:List Int}{b:Int}{m:Nat}(u:m<=by_.length)(r:by_.length<=8){R:Type}(G:List Int->Option R) :
  (bif decide ((0:Int)<=0)&&decide ((0:Int)<=(m:Int))&&decide ((m:Int)<=(BL by_:Int))&&true then (bif decide ((BL ([]:List Int)+BL ((by_.take (BN (m:Int))).drop (BN 0)))*8<=ak) then (bif decide ((BL ([]++((by_.take (BN (m:Int))).drop (BN 0)))+BL ([b]))*8<=ak) then (bif decide ((0:Int)<=(m:Int))&&decide ((m:Int)<=(BL by_:Int))&&decide ((BL by_:Int)<=(BL by_:Int))&&true then (bif decide ((BL (([]++((by_.take (BN (m:Int))).drop (BN 0)))++([b]))+BL ((by_.take (BN (BL by_:Int))).drop (BN (m:Int))))*8<=ak) then G ((([]++((by_.take (BN (m:Int))).drop (BN 0)))++([b]))++((by_.take (BN (BL by_:Int))).drop (BN (m:Int)))) else none) else none) else none) else none) else none)=G (by_.take m++[b]++by_.drop m):=by
 rw[decide_eq_true (by omega:(0:Int)<=0),decide_eq_true (by omega:(0:Int)<=(m:Int)),decide_eq_true (by omega:(m:Int)<=(BL by_:Int)),decide_eq_true (by omega:(BL by_:Int)<=(BL by_:Int))];simp only[BO,Ch,B8,BX,Cl,Ce,cond_true];have z:(by_.take m).length=m:=by rw[B5];omega
 have y:(by_.drop m).length=by_.length-m:=CH;rw[szb _ _ _ (by omega) (by simp only[BU];omega),szb _ _ _ (by omega) (by simp only[BQ,BU];omega),szb _ _ _ (by omega) (by simp only[BZ,BQ,BU];omega)];rfl
theorem xp (K:Nat)(n:aa)(f:ag)(b:Int)(hd:∀ d∈aa.doubts n,mi d.2.2.2)(hl:(aa.doubts n).length<=1048576)(hK:1048577<K):Q162.f K (n,f,b,())=some ((kT n f b,()),()):=by
 simp only[Q162.f,Q162.pre];refine yR (step:=λrec a=>Q162.s0 K (n,f,b,()) (Q162.l1 K (n,f,b,()) rec) rec a) (aa.doubts n) (ei f b) (λu i=>((i:Int),u)) (λu=>some ((iV n (aa.table n) (aa.cast n) u,()),())) ?_ ?_ (by omega)
 ·intro rec u i hi X I;have J:i<u.length:=by omega
  have a1:u[i]=(aa.doubts n)[i]:=by
   rw[BW J]at I;exact Option.some.inj I
  have R:=hd _ (BM hi);simp only[Q162.s0,zcp8];rw[bk (by omega:(i:Int)<(BL u:Int)),af J,ar i (by omega),BO,af J,a1];simp only[cond_true,BK];generalize a9:(aa.doubts n)[i]=d at R I ⊢;have y:rec (((i+1:Nat):Int),u)=rec (((i+1:Nat):Int),u.set i d):=by rw[ta I]
  unfold ei;by_cases h1:d.1=f.1
  case neg =>
   rw[show (d.1 != f.1)=true by simpa using h1,show (d.1==f.1)=false by simpa using h1];exact y
  by_cases h2:d.2.1=f.2.1
  case neg =>
   rw[show (d.1 != f.1)=false by simpa using h1,show (d.2.1 != f.2.1)=true by simpa using h2,show (d.2.1==f.2.1)=false by simpa using h2,DI];exact y
  by_cases h3:f.2.2.1=2
  case neg =>
   rw[show (d.1 != f.1)=false by simpa using h1,show (d.2.1 != f.2.1)=false by simpa using h2,show (f.2.2.1 != 2)=true by simpa using h3,show (f.2.2.1==2)=false by simpa using h3,DI];exact y
  rw[show (d.1 != f.1)=false by simpa using h1,show (d.2.1 != f.2.1)=false by simpa using h2,show (f.2.2.1 != 2)=false by simpa using h3,show (d.1==f.1)=true by simpa using h1,show (d.2.1==f.2.1)=true by simpa using h2,show (f.2.2.1==2)=true by simpa using h3];simp only[cond_false,Ce,cond_true];have a0:=R.len;have a2:∀ m:Nat,m<=d.2.2.2.length->(∀ j,(M:j<d.2.2.2.length)->j<m->d.2.2.2[j]<b)->(∀ j,(M:j<d.2.2.2.length)->m<=j->b<d.2.2.2[j])->d.2.2.2.take m++[b]++d.2.2.2.drop m=bE (λx:Int=>x) b d.2.2.2:=λm Y lo hi=>jk (k:=λx:Int=>x) Y lo hi
  have:=b7 (step:=λr a=>Q162.s1 K (n,f,b,()) rec r a) d.2.2.2.length (λj=>((i:Int),(j:Int),u,d.1,d.2.1,d.2.2.1,d.2.2.2)) (λj=>∃ h:j<d.2.2.2.length,¬ d.2.2.2[j]<b)
   (rec (((i+1:Nat):Int),u.set i (d.1,d.2.1,d.2.2.1,d.2.2.2.take d.2.2.2.length++[b]++d.2.2.2.drop d.2.2.2.length)))
   (λj=>if h:j<d.2.2.2.length then (if d.2.2.2[j]=b then rec (((i+1:Nat):Int),u) else rec (((i+1:Nat):Int),u.set i (d.1,d.2.1,d.2.2.1,d.2.2.2.take j++[b]++d.2.2.2.drop j))) else none) ?_ ?_ d.2.2.2.length K 0 (by omega) (by omega)
  ·rcases this with ⟨a6,he⟩|⟨j,_,M,⟨Z,ad⟩,a5,he⟩
   ·refine C0 he ?_;rw[a2 _ (B3 _) (λj M _=>by
     by_cases O:d.2.2.2[j]<b
     ·exact O
     ·exact absurd ⟨M,O⟩ (a6 j (B4 _) M)) (λj M Y=>by omega)]
   ·refine C0 he ?_;rw[dif_pos Z];have lo:∀ m,(Y:m<d.2.2.2.length)->m<j->d.2.2.2[m]<b:=λm Y a4=>by
     by_cases O:d.2.2.2[m]<b
     ·exact O
     ·exact absurd ⟨Y,O⟩ (a5 m (B4 _) a4)
    by_cases H:d.2.2.2[j]=b
    ·rw[if_pos H,<- kw (k:=λx:Int=>x) R.1 Z H];rw[show d.2.2.2.set j b=d.2.2.2 from ta (by rw[BW Z,H])];exact y
    ·rw[if_neg H,a2 j (by omega) lo (λm Y a3=>by
      rcases CS a3 with h4|rfl
      ·have:=dn.1 R.1 j m (by omega) Y h4;omega
      ·omega)]
  ·intro r j M;simp only[Q162.s1];rw[bk (by omega:(j:Int)<(BL d.2.2.2:Int)),af M,ar j (by omega)];simp only[cond_true,BK];by_cases O:d.2.2.2[j]<b
   ·left;refine⟨λ⟨_,h⟩=>h O,?_⟩;rw[decide_eq_true O];rfl
   ·right;refine⟨⟨M,O⟩,?_⟩;rw[decide_eq_false O,show ((j:Int)==(BL d.2.2.2:Int))=false by simp;omega,dif_pos M];simp only[cond_false];by_cases H:d.2.2.2[j]=b
    ·rw[if_pos H,show (d.2.2.2[j] != b)=false by simpa using H,ar i (by omega)];rfl
    ·rw[if_neg H,show (d.2.2.2[j] != b)=true by simpa using H];simp only[cond_true];refine (tc (m:=j) (b:=b) (Nat.le_of_lt M) a0 (λz=>(idx u (i:Int)).bind λ_=>(idx u (BN (i:Int):Nat)).bind λ_=>rec (wr .i64 ((i:Int)+1),u.set (BN (i:Int)) (d.1,(d.2.1,(d.2.2.1,z)))))).trans ?_;rw[BO,af J,ar i (by omega)];rfl
  ·intro r;simp only[Q162.s1];rw[aP];simp only[cond_false,beq_self_eq_true,cond_true];refine (tc (b:=b) (B3 _) a0 (λz=>(idx u (i:Int)).bind λ_=>(idx u (BN (i:Int):Nat)).bind λ_=>rec (wr .i64 ((i:Int)+1),u.set (BN (i:Int)) (d.1,(d.2.1,(d.2.2.1,z)))))).trans ?_;rw[BO,af J,ar i (by omega)];rfl
 ·intro rec u X;simp only[Q162.s0,zcp8];rw[<- X,aP];rfl
theorem yS (K:Nat)(n:aa)(f:ag)(h:eC n)(M:bA f)(y:1048577<K):Q161.f K (n,f,())=some ((fK n f,()),()):=by
 simp only[Q161.f,zcp4];have r:=cE h.say.table h.has;obtain⟨o,I,O⟩:=fC K (aa.table n) n.1 h.say.lt y;rw[show Q16.f K (n.2.2.2.2.2.2.2.2.1,n.1,())=_ from O];simp only[BK];cases I with
 |no u=>exact absurd h.has (λ⟨g,J,e⟩=>u g J e)
 |at_ j H e =>
  simp only;rw[show idx n.2.2.2.2.2.2.2.2.1 ((j:Nat):Int)=some (aa.table n)[j] from af H,gw h.say.table.2 (BM H) r.2.2 (by rw[e,r.2.1])];simp only[BK];rw[pH];obtain⟨_,⟨X,R⟩,_⟩:=M;simp only[rb,BK,fK];cases decide (bR f (aC (aa.table n) n.1)) with
  |false=>rfl
  |true =>
   simp only[BT,cond_false,CZ];by_cases z:f.2.1<999
   ·rw[decide_eq_false (by omega:¬ f.2.1>=999),decide_eq_true z,aA (by omega) (by omega)];simp only[cond_false,cond_true];refine (congrArg (λo=>CP o _) (pI K (iq n (f.2.1+1)) (n.1,f.2.1+1,1,n.2.2.2.1) n.1 (h.say.inc _) y)).trans ?_;rfl
   ·rw[decide_eq_true (by omega:f.2.1>=999),decide_eq_false z];rfl
theorem uY (K:Nat)(n:aa)(t:List ag)(b:Int)(h:eC n)(I:∀ f∈t,bA f)(J:t.length<=1048576)(z:InP b 0 7)(y:1048577<K):Q163.f K (n,t,b,())=some ((jn n t b,()),()):=by
 refine kS (step:=λrec a=>Q163.s0 K (n,t,b,()) rec a) t (eq b) eC (λm i=>((i:Int),m.1,m.2.1,m.2.2.1,m.2.2.2.1,m.2.2.2.2.1,m.2.2.2.2.2.1,m.2.2.2.2.2.2.1,m.2.2.2.2.2.2.2.1,m.2.2.2.2.2.2.2.2.1,m.2.2.2.2.2.2.2.2.2.1,m.2.2.2.2.2.2.2.2.2.2.1.1,m.2.2.2.2.2.2.2.2.2.2.1.2.1,m.2.2.2.2.2.2.2.2.2.2.1.2.2.1,m.2.2.2.2.2.2.2.2.2.2.1.2.2.2,m.2.2.2.2.2.2.2.2.2.2.2.1,m.2.2.2.2.2.2.2.2.2.2.2.2.1.1,m.2.2.2.2.2.2.2.2.2.2.2.2.1.2.1,m.2.2.2.2.2.2.2.2.2.2.2.2.1.2.2.1,m.2.2.2.2.2.2.2.2.2.2.2.2.1.2.2.2,m.2.2.2.2.2.2.2.2.2.2.2.2.2.1,m.2.2.2.2.2.2.2.2.2.2.2.2.2.2)) (λm=>some ((m,()),())) n h ?_ ?_ (by omega)
 ·intro rec m i H r;have u:=I _ (BM H);refine⟨?_,r.step u z⟩;simp only[Q163.s0,zc286a0,zc3ec45];rw[bk (by omega:(i:Int)<(BL t:Int)),af H,ar i (by omega)];simp only[cond_true,BK];generalize t[i]=f at u ⊢;unfold eq;cases f.1==m.1 with
  |true =>
   simp only[cond_true];refine (congrArg (λo=>CP o _) (yS K m f r u y)).trans ?_;rfl
  |false =>
   simp only[cond_false];refine (congrArg (λo=>CP o _) (pI K m f b r.say y)).trans ?_;simp only[BK];rw[xp K (sayOf m f b) f b (mj z r.by_) (jl r.say u).ld y];rfl
 ·intro rec m r;simp only[Q163.s0,zc286a0,zc3ec45];rw[aP];rfl
def dv {α:Type}(r:α->α->Bool)(x:α):List α->List α->List α
 |[],B=>x::B
 |y::A,B=>bif r x y then dv r x A (y::B) else (y::A).reverse++x::B
def cR {α:Type}(r:α->α->Bool):List α->List α->List α
 |done,[]=>done
 |done,x::u=>cR r (dv r x done.reverse []) u
theorem oZ {α:Type}(r:α->α->Bool)(x:α):∀ (A B C:List α),dv r x A (B++C)=dv r x A B++C
 |[],B,C=>rfl
 |y::A,B,C=>by
  simp only[dv];cases r x y with
  |true=>exact oZ r x A (y::B) C
  |false=>simp
theorem o6 {α:Type}(r:α->α->Bool)(x:α):∀ (A B:List α),(dv r x A B).length=A.length+B.length+1
 |[],B=>by simp[dv]
 |y::A,B=>by
  simp only[dv];cases r x y with
  |true=>simp only[cond_true];rw[o6 r x A (y::B)];simp;omega
  |false=>simp;omega
theorem mY {α:Type}(r:α->α->Bool)(x:α):∀ (A B:List α),(dv r x A B).Perm (x::(A.reverse++B))
 |[],B=>by simp[dv]
 |y::A,B=>by
  simp only[dv];cases r x y with
  |true=>exact (mY r x A (y::B)).trans (by simp)
  |false=>simp only[cond_false];exact DP
theorem ml {α:Type}(r:α->α->Bool):∀ (xs done:List α),(cR r done xs).Perm (done++xs)
 |[],done=>by simp[cR]
 |x::xs,done=>by
  simp only[cR];refine (ml r xs _).trans ?_;have:=mY r x done.reverse [];simp only[CA,BV]at this;exact (this.append_right xs).trans (by simpa using (DP (a:=x) (l₁:=done) (l₂:=xs)).symm)
def jV {α:Type}(r:α->α->Bool)(xs:List α):Prop:=xs.Pairwise λa b=>r b a=false
theorem lj {α:Type}(r:α->α->Bool)(H:∀ a b c,r a b=false->r b c=false->r a c=false)(x:α) :
  ∀ (A B:List α),jV r A.reverse->dv r x A B=(A.reverse.filter λy=>!r x y)++x::((A.reverse.filter λy=>r x y)++B)
 |[],B,_=>rfl
 |y::A,B,h=>by
  simp only[dv];have J:jV r A.reverse:=by
   unfold jV at h ⊢;rw[CY,CW]at h;exact h.1
  cases z:r x y with
  |true =>
   simp only[cond_true];rw[lj r H x A (y::B) J];simp[z,Cc]
  |false =>
   have I:∀ a∈A.reverse,r x a=false:=λa u=>by
    unfold jV at h;rw[CY,CW]at h;exact H x y a z (h.2.2 a u y (by simp))
   simp only[cond_false];have O:(y::A).reverse.filter (λy=>!r x y)=(y::A).reverse:=CM.2 λa u=>by
    rw[CY,CU,CK]at u;rcases u with u|rfl
    ·rw[I a u];rfl
    ·rw[z];rfl
   have M:(y::A).reverse.filter (λy=>r x y)=[]:=Cd.2 λa u=>by
    rw[CY,CU,CK]at u;rcases u with u|rfl
    ·rw[I a u];simp
    ·rw[z];simp
   rw[O,M];rfl
theorem vM {α:Type}(r:α->α->Bool)(H:∀ a b c,r a b=false->r b c=false->r a c=false)(u:∀ a b,r a b=true->r b a=false)(x:α)(A:List α)(h:jV r A):jV r (dv r x A.reverse []):=by
 rw[lj r H x A.reverse [] (by rwa [CA])];unfold jV at h ⊢;simp only[CA,BV];rw[CW];refine⟨h.filter _,?_,?_⟩
 ·rw[B9];refine⟨λa y=>?_,h.filter _⟩;exact u _ _ (by simpa using (BR.1 y).2)
 ·intro a y b z;have I:r x a=false:=by simpa using (BR.1 y).2
  rcases CO.1 z with rfl|z
  ·exact I
  ·have J:r x b=true:=by simpa using (BR.1 z).2
   exact H b x a (u _ _ J) I
theorem mZ {α:Type}(r:α->α->Bool)(y:∀ a b c,r a b=false->r b c=false->r a c=false)(u:∀ a b,r a b=true->r b a=false):∀ (xs done:List α),jV r done->jV r (cR r done xs)
 |[],done,h=>h
 |x::xs,done,h=>mZ r y u xs _ (vM r y u x done h)
theorem oj {α:Type}(J:α->α->Bool):∀ {H u:List α},H.Perm u->jV J H->u.Pairwise (λa b=>J a b=true)->H=u
 |H,[],r,_,_=>r.eq_nil
 |[],z::u,r,_,_=>absurd r.symm.eq_nil (by simp)
 |y::H,z::u,r,I,O=>by
  unfold jV at I;rw[B9]at I O;have e:y=z:=by
   rcases CO.1 (r.mem_iff.1 (DM ..)) with h|h
   ·exact h
   ·have R:=O.1 y h;rcases CO.1 (r.symm.mem_iff.1 (DM ..)) with M|M
    ·exact M.symm
    ·rw[I.1 z M]at R;cases R
  subst e;rw[oj J r.cons_inv I.2 O.2]
abbrev SoR (α:Type):=Unit×(List α×Unit)
theorem vN {α R:Type}(z:α->α->Bool)(i:Int)(r:List α×Int->Option R){step:(List α×Int×Int->Option R)->List α×Int×Int->Option R}
  (h:∀ (rec:List α×Int×Int->Option R) (A:List α) (y x:α) (B:List α),A.length+B.length<=1048576->step rec (A++y::x::B,i,((A.length+1:Nat):Int))=bif z x y then rec (A++x::y::B,i,(A.length:Int)) else r (A++y::x::B,wr .i64 (i+1)))
  (X:∀ (rec:List α×Int×Int->Option R) (I:List α),step rec (I,i,0)=r (I,wr .i64 (i+1))) :
  ∀ (A B:List α) (x:α) (k:Nat),A.length+B.length<=1048576->A.length<k->ae step k (A.reverse++x::B,i,(A.length:Int))=r (dv z x A B,wr .i64 (i+1)):=by
 intro A;induction A with
 |nil =>
  intro B x k M u;obtain⟨k,rfl⟩:∃ H,k=H+1:=⟨k-1,by simp at u;omega⟩;exact X (ae step k) (x::B)
 |cons y A O =>
  intro B x k M u;simp only[BQ]at u M;obtain⟨k,rfl⟩:∃ H,k=H+1:=⟨k-1,by omega⟩;have J:=h (ae step k) A.reverse y x B (by simp;omega);simp only[Cn]at J;show step (ae step k) _=_;rw[CY,CL];simp only[BQ,DQ,BX,dv];rw[J];cases z x y with
  |true=>exact O (y::B) x k (by simp;omega) (by omega)
  |false=>simp
theorem ul {α:Type}(r:α->α->Bool){step:(List α×Int->Option (SoR α))->List α×Int->Option (SoR α)}(n:Nat)(O:n<=1048576)
  (h:∀ (rec:List α×Int->Option (SoR α)) (done:List α) (x:α) (xs:List α),done.length+1+xs.length=n->step rec (done++x::xs,(done.length:Int))=rec (dv r x done.reverse xs,wr .i64 ((done.length:Int)+1)))
  (M:∀ (rec:List α×Int->Option (SoR α)) (z:List α) (i:Int),(n:Int)<=i->step rec (z,i)=some ((),(z,()))) :
  ∀ (xs done:List α) (k:Nat),done.length+xs.length=n->xs.length<k->ae step k (done++xs,(done.length:Int))=some ((),(cR r done xs,())):=by
 intro xs;induction xs with
 |nil =>
  intro done k y H;obtain⟨k,rfl⟩:∃ u,k=u+1:=⟨k-1,by omega⟩;show step (ae step k) _=_;rw[M _ _ _ (by simp at y;omega)];simp[cR]
 |cons x xs J =>
  intro done k y H;simp only[BQ]at H y;obtain⟨k,rfl⟩:∃ u,k=u+1:=⟨k-1,by omega⟩;show step (ae step k) _=_;rw[h _ _ _ _ (by omega),ar _ (by omega)];have e:dv r x done.reverse xs=dv r x done.reverse []++xs:=oZ r x done.reverse [] xs;have I:(dv r x done.reverse []).length=done.length+1:=by rw[o6];simp
  rw[e,<- I];exact J _ k (by rw[I];omega) (by omega)
theorem yT {α:Type}(u:α->α->Bool){step:(List α×Int->Option (SoR α))->List α×Int->Option (SoR α)}(xs:List α)(J:xs.length<=1048576)
  (h:∀ (rec:List α×Int->Option (SoR α)) (done:List α) (x:α) (r:List α),done.length+1+r.length=xs.length->step rec (done++x::r,(done.length:Int))=rec (dv u x done.reverse r,wr .i64 ((done.length:Int)+1)))
  (z:∀ (rec:List α×Int->Option (SoR α)) (H:List α) (i:Int),(xs.length:Int)<=i->step rec (H,i)=some ((),(H,()))) {k:Nat} (y:xs.length<k) :
  ae step k (xs,1)=some ((),(cR u [] xs,())):=by
 cases xs with
 |nil =>
  obtain⟨k,rfl⟩:∃ I,k=I+1:=⟨k-1,by simp at y;omega⟩;exact z (ae step k) [] 1 (by simp)
 |cons x xs =>
  simp only[BQ]at y;have:=ul u (xs.length+1) (by simpa using J) h z xs [x] k (by simp;omega) (by omega);exact this
theorem uZ {α:Type}(A B:List α)(x:α):idx (A++x::B) (A.length:Int)=some x:=by
 rw[qr];simp
theorem td {α:Type}(A B:List α)(y x:α):idx (A++y::x::B) ((A.length+1:Nat):Int)=some x:=by
 rw[qr];simp[List.getElem?_append_right]
theorem u3 {α:Type}(A B:List α)(x v:α):(A++x::B).set A.length v=A++v::B:=by simp
theorem te {α:Type}(A B:List α)(y x v:α):(A++y::x::B).set (A.length+1) v=A++y::v::B:=by
 simp[DH]
theorem um {α R:Type}(P:α->Prop)(I:α->α->Bool)(i:Int)(r:List α×Int->Option R){step:(List α×Int×Int->Option R)->List α×Int×Int->Option R}
  (h:∀ (rec:List α×Int×Int->Option R) (A:List α) (y x:α) (B:List α),P y->P x->A.length+B.length<=1048576->step rec (A++y::x::B,i,((A.length+1:Nat):Int))=bif I x y then rec (A++x::y::B,i,(A.length:Int)) else r (A++y::x::B,wr .i64 (i+1)))
  (h0:∀ (rec:List α×Int×Int->Option R) (O:List α),step rec (O,i,0)=r (O,wr .i64 (i+1))) :
  ∀ (A B:List α) (x:α) (k:Nat),(∀ y∈A,P y)->P x->A.length+B.length<=1048576->A.length<k->ae step k (A.reverse++x::B,i,(A.length:Int))=r (dv I x A B,wr .i64 (i+1)):=by
 intro A;induction A with
 |nil =>
  intro B x k M u Y H;obtain⟨k,rfl⟩:∃ J,k=J+1:=⟨k-1,by simp at H;omega⟩;exact h0 (ae step k) (x::B)
 |cons y A Z =>
  intro B x k M u Y H;simp only[BQ]at H Y;obtain⟨k,rfl⟩:∃ J,k=J+1:=⟨k-1,by omega⟩;have X:=h (ae step k) A.reverse y x B (M y (by simp)) u (by simp;omega);simp only[Cn]at X;show step (ae step k) _=_;rw[CY,CL];simp only[BQ,DQ,BX,dv];rw[X];cases I x y with
  |true=>exact Z (y::B) x k (λz hz=>M z (by simp[hz])) u (by simp;omega) (by omega)
  |false=>simp
theorem tf {α:Type}(P:α->Prop)(r:α->α->Bool){step:(List α×Int->Option (SoR α))->List α×Int->Option (SoR α)}(n:Nat)(hn:n<=1048576)
  (h:∀ (rec:List α×Int->Option (SoR α)) (done:List α) (x:α) (xs:List α),(∀ y∈done,P y)->P x->done.length+1+xs.length=n->step rec (done++x::xs,(done.length:Int))=rec (dv r x done.reverse xs,wr .i64 ((done.length:Int)+1)))
  (h0:∀ (rec:List α×Int->Option (SoR α)) (R:List α) (i:Int),(n:Int)<=i->step rec (R,i)=some ((),(R,()))) :
  ∀ (xs done:List α) (k:Nat),(∀ y∈done,P y)->(∀ y∈xs,P y)->done.length+xs.length=n->xs.length<k->ae step k (done++xs,(done.length:Int))=some ((),(cR r done xs,())):=by
 intro xs;induction xs with
 |nil =>
  intro done k M u O X;obtain⟨k,rfl⟩:∃ J,k=J+1:=⟨k-1,by omega⟩;show step (ae step k) _=_;rw[h0 _ _ _ (by simp at O;omega)];simp[cR]
 |cons x xs Z =>
  intro done k M u O X;simp only[BQ]at X O;obtain⟨k,rfl⟩:∃ J,k=J+1:=⟨k-1,by omega⟩;show step (ae step k) _=_;rw[h _ _ _ _ M (u x (by simp)) (by omega),ar _ (by omega)];have e:dv r x done.reverse xs=dv r x done.reverse []++xs:=oZ r x done.reverse [] xs;have Y:(dv r x done.reverse []).length=done.length+1:=by rw[o6];simp
  rw[e,<- Y];refine Z _ k (λz I=>?_) (λz I=>u z (by simp[I])) (by rw[Y];omega) (by omega);have H:=(mY r x done.reverse []).mem_iff.1 I;simp only[CA,BV,CO]at H;rcases H with rfl|H
  ·exact u z (by simp)
  ·exact M z H
theorem xq {α:Type}(P:α->Prop)(u:α->α->Bool){step:(List α×Int->Option (SoR α))->List α×Int->Option (SoR α)}(xs:List α)(M:∀ y∈xs,P y)(R:xs.length<=1048576)
  (h:∀ (rec:List α×Int->Option (SoR α)) (done:List α) (x:α) (r:List α),(∀ y∈done,P y)->P x->done.length+1+r.length=xs.length->step rec (done++x::r,(done.length:Int))=rec (dv u x done.reverse r,wr .i64 ((done.length:Int)+1)))
  (H:∀ (rec:List α×Int->Option (SoR α)) (I:List α) (i:Int),(xs.length:Int)<=i->step rec (I,i)=some ((),(I,()))) {k:Nat} (J:xs.length<k) :
  ae step k (xs,1)=some ((),(cR u [] xs,())):=by
 cases xs with
 |nil =>
  obtain⟨k,rfl⟩:∃ O,k=O+1:=⟨k-1,by simp at J;omega⟩;exact H (ae step k) [] 1 (by simp)
 |cons x xs =>
  simp only[BQ]at J;have:=tf P u (xs.length+1) (by simpa using R) h H xs [x] k (λy z=>M y (by simpa using .inl (by simpa using z))) (λy z=>M y (by simp[z])) (by simp;omega) (by omega);exact this
def ltZ (a b:Int):Bool:=decide (a<b)
theorem Bd (K:Nat)(a b:Int):Q89.f K (a,b,())=some ((ltZ a b,()),()):=by
 simp only[Q89.f,Q33.f,ltZ];simp
theorem yU (K:Nat)(xs:List Int)(H:Int×Int×Unit->Option Int)(I:Int->Int->Bool)(P:Int->Prop)(hP:∀ y∈xs,P y)(hφ:∀ y z,P y->P z->∃ c,H (y,z,())=some c/\decide (c<0)=I y z)(R:xs.length<=1048576)(hK:1048577<K) :
  Q83.f K (xs,0,(xs.length:Int),H,())=some ((),(cR I [] xs,())):=by
 refine xq P (step:=λrec a=>Q83.s0 K (xs,0,(xs.length:Int),H,()) (Q83.l1 K (xs,0,(xs.length:Int),H,()) rec) rec a) I xs hP R ?_ ?_ (by omega)
 ·intro rec done x r M J hl;simp only[Q83.s0];rw[decide_eq_true (by omega:((done.length:Int))<(xs.length:Int))];simp only[cond_true];have:=um P I (done.length:Int) rec (step:=λu a=>Q83.s1 K (xs,0,(xs.length:Int),H,()) rec u a) ?_ ?_ done.reverse r x K (λy O=>M y (by simpa using O)) J (by simp;omega) (by simp;omega)
  ·rw[CA,Cn]at this;exact this
  ·intro u A y z B O X a0;simp only[Q83.s1];have e1:wr .i64 (((A.length+1:Nat):Int)-1)=(A.length:Int):=(aA (by omega) (by omega)).trans (by omega);rw[decide_eq_true (by omega:((A.length+1:Nat):Int)>0)];obtain⟨c,Y,M⟩:=hφ z y X O;simp only[cond_true,e1,BO,td,uZ,BK,Y,M,te,u3]
  ·intro u Z;simp only[Q83.s1];rw[decide_eq_false (by omega:¬ (0:Int)>0)];rfl
 ·intro rec Z i hi;simp only[Q83.s0];rw[decide_eq_false (by omega:¬ i<(xs.length:Int))];rfl
theorem yV (K:Nat)(xs:List Int)(u:Int×Int×Unit->Option Int)(H:Int->Int->Bool)(P:Int->Prop)(O:∀ y∈xs,P y)(hφ:∀ y z,P y->P z->∃ c,u (y,z,())=some c/\decide (c<0)=H y z)(R:xs.length<=19)(M:1048577<K) :
  Q85.f K (xs,u,())=some ((),(cR H [] xs,())):=by
 simp only[Q85.f];have:Q84.f K (xs,(xs.length:Int),u,())=some ((),(cR H [] xs,())):=by
  obtain⟨k,rfl⟩:∃ I,K=I+1:=⟨K-1,by omega⟩;show Q84.s0 _ _ _ _ _=_;simp only[Q84.s0];rw[decide_eq_false (by omega:¬ (20:Int)<=(xs.length:Int))];simp only[cond_false];rw[yU (k+1) xs u H P O hφ (by omega) M];simp only[BK];have J:∀ (r:Q84.A1->Option Q84.Res),Q84.s1 (k+1) (xs,(xs.length:Int),u,()) (Q84.l2 (k+1) (xs,(xs.length:Int),u,()) r) r (cR H [] xs,20)=some ((),(cR H [] xs,())):=by
   intro r;simp only[Q84.s1];rw[decide_eq_false (by omega:¬ (20:Int)<(xs.length:Int))];rfl
  exact J _
 rw[this];rfl
theorem yW (K:Nat)(xs:List Int)(H:xs.length<=1048576)(R:1048577<K) :
  Q90.f K (xs,0,(xs.length:Int),())=some ((),(cR ltZ [] xs,())):=by
 refine yT (step:=λrec a=>Q90.s0 K (xs,0,(xs.length:Int),()) (Q90.l1 K (xs,0,(xs.length:Int),()) rec) rec a) ltZ xs H ?_ ?_ (by omega)
 ·intro rec done x r O;simp only[Q90.s0];rw[decide_eq_true (by omega:((done.length:Int))<(xs.length:Int))];simp only[cond_true];have:=vN ltZ (done.length:Int) rec (step:=λu a=>Q90.s1 K (xs,0,(xs.length:Int),()) rec u a) ?_ ?_ done.reverse r x K (by simp;omega) (by simp;omega)
  ·rw[CA,Cn]at this;exact this
  ·intro u A y z B J;simp only[Q90.s1];have M:wr .i64 (((A.length+1:Nat):Int)-1)=(A.length:Int):=(aA (by omega) (by omega)).trans (by omega);rw[decide_eq_true (by omega:((A.length+1:Nat):Int)>0)];simp only[cond_true,M,BO,td,uZ,BK,te,u3];rw[show Q89.f K (z,y,())=_ from Bd K z y];rfl
  ·intro u I;simp only[Q90.s1];rw[decide_eq_false (by omega:¬ (0:Int)>0)];rfl
 ·intro rec I i X;simp only[Q90.s0];rw[decide_eq_false (by omega:¬ i<(xs.length:Int))];rfl
theorem yX (K:Nat)(xs:List Int)(r:xs.length<=12)(H:1048577<K) :
  Q96.f K (xs,())=some ((),(cR ltZ [] xs,())):=by
 simp only[Q96.f,Q88.f];obtain⟨l,y⟩:∃ l:Int,Q87.f K (wr .u64 (xs.length:Int),())=some ((l,()),()):=by
  have e:wr .u64 (xs.length:Int)=(xs.length:Int):=by
   show IntKind.u64.wrap _=_;have I:IntKind.u64.wrap (xs.length:Int)=(xs.length:Int) % 18446744073709551616:=by simp[IntKind.wrap,IntKind.bits,IntKind.signed]
   rw[I];omega
  rw[e];generalize J:xs.length=n at r;have:n=0\/n=1\/n=2\/n=3\/n=4\/n=5\/n=6\/n=7\/n=8\/n=9\/n=10\/n=11\/n=12:=by omega
  rcases this with rfl|rfl|rfl|rfl|rfl|rfl|rfl|rfl|rfl|rfl|rfl|rfl|rfl
  ·exact⟨0,by kernel_rfl⟩
  ·exact⟨1,by kernel_rfl⟩
  ·exact⟨2,by kernel_rfl⟩
  ·exact⟨2,by kernel_rfl⟩
  ·exact⟨3,by kernel_rfl⟩
  ·exact⟨3,by kernel_rfl⟩
  ·exact⟨3,by kernel_rfl⟩
  ·exact⟨3,by kernel_rfl⟩
  ·exact⟨4,by kernel_rfl⟩
  ·exact⟨4,by kernel_rfl⟩
  ·exact⟨4,by kernel_rfl⟩
  ·exact⟨4,by kernel_rfl⟩
  ·exact⟨4,by kernel_rfl⟩
 rw[y];simp only[BK];have:Q95.f K (xs,0,(xs.length:Int),l,())=some ((),(cR ltZ [] xs,())):=by
  obtain⟨k,rfl⟩:∃ u,K=u+1:=⟨K-1,by omega⟩;have z:∀ (rec:Q95.A0->Option Q95.Res) (a:Q95.A0),Q95.s0 (k+1) (xs,0,(xs.length:Int),l,()) rec a=some ((),(cR ltZ [] xs,())):=by
   intro rec a;simp only[Q95.s0];have e:wr .i64 ((xs.length:Int)-0)=(xs.length:Int):=(aA (by omega) (by omega)).trans (by omega);rw[e,decide_eq_true (by omega:(xs.length:Int)<=12)];simp only[cond_true];rw[yW (k+1) xs (by omega) H];rfl
  exact z (λ_=>none) ()
 rw[this];rfl
def d7 (l:List aM)(i:Int):Int:=((l[i.toNat]?).map (·.2)).getD 0
def ltL (l:List aM)(a b:Int):Bool:=decide (d7 l b<d7 l a)
def lt2 (l:List aM)(a b:Int):Prop:=d7 l b<d7 l a\/(d7 l a=d7 l b/\a<b)
def co (n:Nat):List Int:=(List.range n).map λ (i:Nat)=>(i:Int)
def bC (l:List aM):List Int:=cR (ltL l) [] (co l.length)
theorem ir {n:Nat}{i:Int}:i∈co n<->0<=i/\i<n:=by
 unfold co;rw[B7];constructor
 ·rintro⟨j,hj,rfl⟩;have:=DX.1 hj;omega
 ·rintro⟨h0,h1⟩;exact⟨i.toNat,DX.2 (by omega),by omega⟩
theorem jo (n:Nat):(co n).Pairwise (·<·):=by
 unfold co;rw[CD];exact List.pairwise_lt_range.imp λh=>by omega
theorem dK {l:List aM}{i:Nat}(h:i<l.length):d7 l (i:Int)=l[i].2:=by
 unfold d7;rw[BO,BW h];rfl
theorem tg (l:List aM):∀ (xs done:List Int),done.Pairwise (lt2 l)->(∀ a∈done,∀ b∈xs,a<b)->xs.Pairwise (·<·)->(cR (ltL l) done xs).Pairwise (lt2 l)
 |[],done,h,_,_=>h
 |x::xs,done,h,H,R=>by
  have z:=B9.1 R;have O:jV (ltL l) done:=h.imp λ {a b} J=>by
   unfold ltL;rw[decide_eq_false_iff_not];rcases J with y|⟨y,_⟩ <;> omega
  have e:=lj (ltL l) (λa b c y I=>by
   unfold ltL at y I ⊢;rw[decide_eq_false_iff_not]at y I ⊢;omega) x done.reverse [] (by rw[CA];exact O)
  rw[CA,BV]at e;simp only[cR];rw[e];refine tg l xs _ ?_ ?_ z.2
  ·rw[CW,B9];refine⟨h.filter _,⟨λb u=>?_,h.filter _⟩,λa r b u=>?_⟩
   ·have y:ltL l x b=true:=by simpa using (BR.1 u).2
    exact .inl (by simpa[ltL]using y)
   ·have y:ltL l x a=false:=by simpa using (BR.1 r).2
    have Y:¬ d7 l a<d7 l x:=by simpa[ltL]using y
    have M:=H a (BR.1 r).1 x (by simp);rcases CO.1 u with rfl|u
    ·by_cases I:d7 l b<d7 l a
     ·exact .inl I
     ·exact .inr ⟨by omega,M⟩
    ·have I:ltL l x b=true:=by simpa using (BR.1 u).2
     have X:d7 l b<d7 l x:=by simpa[ltL]using I
     exact .inl (by omega)
  ·intro a r b u;rcases CU.1 r with r|r
   ·exact H a (BR.1 r).1 b (by simp[u])
   ·rcases CO.1 r with rfl|r
    ·exact z.1 b u
    ·exact H a (BR.1 r).1 b (by simp[u])
theorem pL (l:List aM):(bC l).Pairwise (lt2 l):=tg l _ [] List.Pairwise.nil (by simp) (jo _)
theorem mm (l:List aM):(bC l).Perm (co l.length):=by
 unfold bC;simpa using ml (ltL l) (co l.length) []
theorem iL {l:List aM}{i:Int}:i∈bC l<->0<=i/\i<l.length:=by rw[(mm l).mem_iff,ir]
theorem xt (l:List aM):(bC l).length=l.length:=by rw[(mm l).length_eq];simp[co]
theorem un (l:List aM):(bC l).Nodup:=(mm l).nodup_iff.2 ((jo _).imp λh=>by omega)
def dk (T:List Int)(n:Nat):List Bool:=(co n).map λi=>decide (i∈T)
theorem fg (T:List Int)(n:Nat):(dk T n).length=n:=by simp[dk,co]
theorem iM (T:List Int){n i:Nat}(h:i<n):(dk T n)[i]'(by rw[fg];exact h)=decide ((i:Int)∈T):=by
 simp[dk,co]
theorem xu {T:List Int}{n b:Nat}(y:b<n):(dk T n).set b true=dk (T++[(b:Int)]) n:=by
 refine Cw (by rw[DE,fg,fg]) λi u r=>?_
 rw[fg]at r;rw[DR,iM _ r];by_cases h:b=i
 ·subst h;rw[if_pos rfl,iM _ r];simp
 ·rw[if_neg h,iM _ r];have:¬ (i:Int)=(b:Int):=by omega
  simp[this]
def pM (l:List aM)(T:List Int)(i:Nat)(r:Int):Prop :=
 (r=-1/\∀ j:Nat,j<i->(j:Int)∈T)\/(0<=r/\r<i/\r∉T/\∀ j:Nat,j<i->(j:Int)∉T->(j:Int)≠r->lt2 l r (j:Int))
theorem Aj (K:Nat)(l:List aM)(T:List Int)(hl:l.length<=1048576):∀ (d i k:Nat) (r:Int),i+d=l.length->d<k->pM l T i r ->
  ∃ b:Int,ae (λrec a=>Q169.s0 K (l,dk T l.length,()) rec a) k (r,(i:Int))=some ((b,()),())/\pM l T l.length b:=by
 intro d;induction d with
 |zero =>
  intro i k r hi hk X;obtain⟨k,rfl⟩:∃ k',k=k'+1:=⟨k-1,by omega⟩;have:i=l.length:=by omega
  subst this;refine⟨r,?_,X⟩;show Q169.s0 K (l,dk T l.length,()) _ _=_;simp only[Q169.s0,aP];rfl
 |succ d ih =>
  intro i k r hi hk X;obtain⟨k,rfl⟩:∃ k',k=k'+1:=⟨k-1,by omega⟩;have z:i<l.length:=by omega
  have H:∀ r,pM l T (i+1) r->∃ b:Int,ae (λrec a=>Q169.s0 K (l,dk T l.length,()) rec a) k (r,((i+1:Nat):Int))=some ((b,()),())/\pM l T l.length b:=λr h=>ih (i+1) k r (by omega) (by omega) h
  show ∃ b:Int,Q169.s0 K (l,dk T l.length,()) (ae (λrec a=>Q169.s0 K (l,dk T l.length,()) rec a) k) (r,(i:Int))=_/\_;generalize ae (λrec a=>Q169.s0 K (l,dk T l.length,()) rec a) k=REC at H ⊢;simp only[Q169.s0];rw[bk (by omega:(i:Int)<(BL l:Int)),af (show i<(dk T l.length).length by rw[fg];exact z),iM T z,ar i (by omega)];simp only[cond_true,BK];by_cases O:(i:Int)∈T
  ·rw[decide_eq_true O];simp only[BT,cond_false];refine H r ?_;rcases X with ⟨rfl,h⟩|⟨h0,h1,h2,Y⟩
   ·refine .inl ⟨rfl,λj Z=>?_⟩;by_cases y:j=i
    ·subst y;exact O
    ·exact h j (by omega)
   ·refine .inr ⟨h0,by omega,h2,λj Z u J=>?_⟩;by_cases y:j=i
    ·subst y;exact absurd O u
    ·exact Y j (by omega) u J
  ·rw[decide_eq_false O];simp only[CF,cond_true];rcases X with ⟨rfl,h⟩|⟨h0,h1,h2,Y⟩
   ·rw[show decide ((-1:Int)<0)=true from rfl];refine H (i:Int) (.inr ⟨by omega,by omega,O,λj Z u J=>?_⟩);exact absurd (h j (by omega)) u
   ·rw[decide_eq_false (by omega:¬ r<0)];obtain⟨b,rfl⟩:=BP h0;have I:b<l.length:=by omega
    simp only[cond_false];rw[af z,af I];simp only[BK];by_cases M:l[i].2>l[b].2
    ·rw[decide_eq_true M];refine H (i:Int) (.inr ⟨by omega,by omega,O,λj Z u J=>?_⟩);have y:j<i:=by omega
     have a1:j<l.length:=by omega
     by_cases R:(j:Int)=(b:Int)
     ·rw[R];exact .inl (by rw[dK z,dK I];exact M)
     ·have:=Y j y u R;rcases this with h4|⟨h4,_⟩
      ·exact .inl (by rw[dK I]at h4;rw[dK z];omega)
      ·exact .inl (by rw[dK I]at h4;rw[dK z];omega)
    ·rw[decide_eq_false M];refine H (b:Int) (.inr ⟨by omega,by omega,h2,λj Z u J=>?_⟩);by_cases y:j=i
     ·subst y;by_cases a0:d7 l (b:Int)=d7 l (j:Int)
      ·exact .inr ⟨a0,h1⟩
      ·refine .inl ?_;rw[dK z,dK I]at *;omega
     ·exact Y j (by omega) u J
theorem Be (K:Nat)(l:List aM)(n:Nat)(hl:l.length<=1048576)(hK:1048577<K):Q169.f K (l,dk ((bC l).take n) l.length,())=some ((((bC l)[n]?).getD (-1),()),()):=by
  obtain⟨b,e,hb⟩:=Aj K l ((bC l).take n) hl l.length 0 K (-1) (by omega) (by omega) (.inl ⟨rfl,λj z=>by omega⟩);have:b=((bC l)[n]?).getD (-1):=by
    by_cases H:n<(bC l).length
    · rw[BW H]
      show b=(bC l)[n];have Z:(bC l)[n]∉(bC l).take n:=λh=>by
        obtain⟨j,z,e⟩:=BS h;rw[B5]at z;rw[Co]at e;have:=CT.1 (pL l) j n (by omega) H (by omega);rw[e]at this;rcases this with u|⟨_,u⟩ <;> omega
      have hr:=iL.1 (BM H);obtain⟨m,r⟩:=BP hr.1;rcases hb with ⟨rfl,h⟩|⟨J,O,y,h3⟩
      · have:=h m (by omega)
        rw[<- r]at this;exact absurd this Z
      · by_cases Y:b=(bC l)[n]
        · exact Y
        · exfalso
          have I:=h3 m (by omega) (by rw[<- r];exact Z) (by rw[<- r];exact λh=>Y h.symm);rw[<- r]at I;have R:b∈bC l:=iL.2 ⟨J,O⟩;obtain⟨j,z,M⟩:=BS R;have X:n<j:=by
            rcases Cr j n with h|h|h
            · exact absurd (List.mem_take_iff_getElem.2 ⟨j,by omega,M⟩) y
            · subst h;exact absurd M.symm Y
            · exact h
          have u:=CT.1 (pL l) n j H z X;rw[M]at u;rcases I with I|⟨I,h6⟩ <;> rcases u with u|⟨u,h7⟩ <;> omega
    · rw[Cf (by omega)]
      show b=-1;rcases hb with ⟨rfl,_⟩|⟨J,O,y,_⟩
      · rfl
      · exfalso
        rw[CI (by omega)]at y;exact y (iL.2 ⟨J,O⟩)
  rw[<- this];exact e
def bW (l:List aM):List Int:=(bC l).take 3
def gx (l:List aM)(i:Int):aM:=(l[i.toNat]?).getD ((0,0,0,false),0)
def dL (l:List aM)(T:List Int)(i:Int):aM:=bif decide (i∈T) then ((gx l i).1,(gx l i).2-1) else gx l i
def ek (l:List aM)(T:List Int)(n:Nat):List ag:=((co n).filter λi=>decide (i∈T)).map λi=>(gx l i).1
def fX (l:List aM)(T:List Int)(n:Nat):List aM:=(co n).map (dL l T)
def dx (l:List aM)(T:List Int)(n:Nat):List aM:=(fX l T n).filter λx=>decide (x.2>0)
theorem cn {l:List aM}{i:Nat}(h:i<l.length):gx l (i:Int)=l[i]:=by
 unfold gx;rw[BO,BW h];rfl
theorem m7 (n:Nat):co (n+1)=co n++[(n:Int)]:=by
 unfold co;rw[List.range_succ,Cy];rfl
theorem vO (l:List aM)(T:List Int)(n:Nat):ek l T (n+1)=ek l T n++(bif decide ((n:Int)∈T) then [(gx l (n:Int)).1] else []):=by
 unfold ek;rw[m7,Cc,Cy,CG];cases decide ((n:Int)∈T) <;> rfl
theorem vP (l:List aM)(T:List Int)(n:Nat):dx l T (n+1)=dx l T n++(bif decide ((dL l T (n:Int)).2>0) then [dL l T (n:Int)] else []):=by
 unfold dx fX;rw[m7,Cy,Cc,C6,CG];cases decide ((dL l T (n:Int)).2>0) <;> rfl
theorem xv (l:List aM)(T:List Int)(n:Nat):(ek l T n).length<=n:=by
 unfold ek;rw[BY];refine B6 (CE _ _) ?_;simp[co]
theorem xw (l:List aM)(T:List Int)(n:Nat):(dx l T n).length<=n:=by
 unfold dx;refine B6 (CE _ _) ?_;simp[fX,co]
theorem Ak (K:Nat)(l:List aM)(m:Int)(T:List Int)(O:l.length<=1048576)(H:cQ l)(R:1048577<K) :
  Q170.l1 K (l,m,()) (dk T l.length,[],[],0)=some ((ek l T l.length,dx l T l.length,()),()):=by
 refine ez (step:=λrec a=>Q170.s1 K (l,m,()) rec a) l.length (λi=>(dk T l.length,ek l T i,dx l T i,(i:Int))) (some ((ek l T l.length,dx l T l.length,()),())) ?_ ?_ (by omega)
 ·intro rec i r;simp only[Q170.s1];have u:i<(dk T l.length).length:=by rw[fg];exact r
  have J:=xv l T i;have X:=xw l T i;obtain⟨M,I⟩:=(H.1 l[i] (BM r)).2;rw[bk (by omega:(i:Int)<(BL l:Int)),af r,af u,ar i (by omega),BO,af u,iM T r,vO,vP,cn r];simp only[cond_true,BK];cases z:decide ((i:Int)∈T) with
  |true =>
   have y:dL l T (i:Int)=(l[i].1,l[i].2-1):=by unfold dL;rw[z,cn r];rfl
   rw[y];simp only[cond_true];rw[szb _ _ _ (by omega) (by simp;omega),aA (n:=l[i].2-1) (by omega) (by omega)];simp only[cond_true];cases decide (l[i].2-1>0) with
   |true =>
    simp only[cond_true];rw[szb _ _ _ (by omega) (by simp;omega)];rfl
   |false =>
    simp only[cond_false,BV]
  |false =>
   have y:dL l T (i:Int)=l[i]:=by unfold dL;rw[z,cn r];rfl
   rw[y];simp only[cond_false,BV];cases decide (l[i].2>0) with
   |true =>
    simp only[cond_true];rw[szb _ _ _ (by omega) (by simp;omega)];rfl
   |false =>
    simp only[cond_false,BV]
 ·intro rec;simp only[Q170.s1,aP];rfl
theorem Bf (K:Nat)(l:List aM)(M:l.length<=1048576)(hC:cQ l)(O:1048577<K):Q170.f K (l,3,())=some ((ek l (bW l) l.length,dx l (bW l) l.length,()),()):=by
 have r:∀ T,Q170.l1 K (l,3,()) (dk T l.length,[],[],0)=some ((ek l T l.length,dx l T l.length,()),()):=λT=>Ak K l 3 T M hC O
 have go:∀ (d n k:Nat),n+d=3->d<k->ae (λrec a=>Q170.s0 K (l,3,()) (Q170.l1 K (l,3,())) rec a) k (dk ((bC l).take n) l.length,(n:Int))=some ((ek l (bW l) l.length,dx l (bW l) l.length,()),()):=by
  intro d;induction d with
  |zero =>
   intro n k hn hk;obtain⟨k,rfl⟩:∃ I,k=I+1:=⟨k-1,by omega⟩;have:n=3:=by omega
   subst this;exact r _
  |succ d Y =>
   intro n k hn hk;obtain⟨k,rfl⟩:∃ I,k=I+1:=⟨k-1,by omega⟩;have y:=Y (n+1) k (by omega) (by omega);show Q170.s0 K (l,3,()) (Q170.l1 K (l,3,())) (ae (λrec a=>Q170.s0 K (l,3,()) (Q170.l1 K (l,3,())) rec a) k) (dk ((bC l).take n) l.length,(n:Int))=_;generalize ae (λrec a=>Q170.s0 K (l,3,()) (Q170.l1 K (l,3,())) rec a) k=REC at y ⊢;simp only[Q170.s0];rw[decide_eq_true (by omega:(n:Int)<3),Be K l n M O,ar n (by omega)];simp only[cond_true,BK];by_cases u:n<(bC l).length
   ·rw[BW u];have J:=iL.1 (BM u);have H:(bC l).take (n+1)=(bC l).take n++[(bC l)[n]]:=CX u;rw[H]at y;simp only[DS];generalize (bC l)[n]=v at J y ⊢;obtain⟨b,rfl⟩:=BP J.1;have R:b<l.length:=by omega
    have z:b<(dk ((bC l).take n) l.length).length:=by rw[fg];exact R
    rw[decide_eq_false (by omega:¬ (b:Int)<0),af z,BO,af z,xu R];exact y
   ·rw[Cf (by omega)];show Q170.l1 K (l,3,()) (dk ((bC l).take n) l.length,[],[],0)=_;rw[r,show (bC l).take n=bW l by unfold bW;rw[CI (by omega),CI (by omega)]]
 simp only[Q170.f,Q170.pre];rw[decide_eq_true (by omega:(0:Int)<=(BL l:Int)),show decide ((BL l:Int)*(1:Nat)<=ak)=true from decide_eq_true (by simp only[ak];omega),BO];simp only[decide_true,Ce,cond_true];have Z:Ck l.length false=dk ((bC l).take 0) l.length:=by
  refine Cw (by rw[Cu,fg]) λi h1 X=>?_
  rw[fg]at X;rw[List.getElem_replicate,iM _ X];simp
 have:=go 3 0 K (by omega) (by omega);rw[<- Z]at this;exact this
theorem rY {a b:List Int}(r:a.Nodup)(u:b.Nodup)(h:∀ x,x∈a<->x∈b):a.Perm b:=by
 rw[List.perm_iff_count];intro x;rw[r.count,u.count];simp[h]
def cZ (l:List aM):List Int:=(co l.length).filter λi=>decide (i∈bW l)
theorem uo (l:List aM):cR ltZ [] (bW l)=cZ l:=by
 have r:(bW l).Nodup:=(un l).sublist (List.take_sublist _ _);have u:((co l.length).filter λi=>decide (i∈bW l)).Nodup:=((jo l.length).imp (λh=>by omega:∀ {a b:Int},a<b->a≠b)).filter _;refine oj ltZ ?_ (mZ ltZ (λa b c r u=>by
  unfold ltZ at r u ⊢;rw[decide_eq_false_iff_not]at r u ⊢;omega) (λa b h=>by
  unfold ltZ at h ⊢;rw[decide_eq_true_eq]at h;rw[decide_eq_false_iff_not];omega) (bW l) [] List.Pairwise.nil) ?_
 ·refine (by simpa using ml ltZ (bW l) []:(cR ltZ [] (bW l)).Perm (bW l)).trans (rY r u λx=>?_);rw[cZ,BR,decide_eq_true_eq,ir];exact⟨λh=>⟨iL.1 (DJ h),h⟩,λh=>h.2⟩
 ·exact ((jo l.length).filter _).imp λh=>by unfold ltZ;exact decide_eq_true h
theorem xx {l:List aM}{i:Int}:i∈cZ l<->i∈bW l:=by
 unfold cZ;rw[BR,decide_eq_true_eq,ir];exact⟨λh=>h.2,λh=>⟨iL.1 (DJ h),h⟩⟩
theorem xy (l:List aM):(cZ l).Pairwise (·<·):=(jo l.length).filter _
theorem eK (l:List aM)(T:List Int)(n:Nat):(fX l T n).length=n:=by simp[fX,co]
theorem fm (l:List aM)(T:List Int){n i:Nat}(h:i<n):(fX l T n)[i]'(by rw[eK];exact h)=dL l T (i:Int):=by
 simp[fX,co]
theorem yY (l:List aM):fX l [] l.length=l:=by
 refine Cw (eK _ _ _) λi u r=>?_
 rw[fm l [] r];unfold dL;rw[cn r];simp
theorem yZ {l:List aM}{T:List Int}{b:Nat}(y:b<l.length):(fX l T l.length).set b ((gx l (b:Int)).1,(gx l (b:Int)).2-1)=fX l (T++[(b:Int)]) l.length:=by
 refine Cw (by rw[DE,eK,eK]) λi u r=>?_
 rw[eK]at r;rw[DR,fm _ _ r];by_cases h:b=i
 ·subst h;rw[if_pos rfl,fm _ _ r];unfold dL;rw[decide_eq_true (by simp:(b:Int)∈T++[(b:Int)])];rfl
 ·rw[if_neg h,fm _ _ r];unfold dL;have:((i:Int)∈T++[(b:Int)])<->(i:Int)∈T:=by
   rw[CU,CK];exact⟨λu=>u.resolve_right (by omega),.inl⟩
  rw[show decide ((i:Int)∈T++[(b:Int)])=decide ((i:Int)∈T) by rw[decide_eq_decide];exact this]
theorem vQ {l:List aM}{T T':List Int}(h:∀ i,i∈T<->i∈T')(n:Nat):fX l T n=fX l T' n:=by
 unfold fX;refine List.map_congr_left λi _=>?_
 unfold dL;rw[show decide (i∈T)=decide (i∈T') by rw[decide_eq_decide];exact h i]
theorem uq (K:Nat)(x:ab Q98.ps)(l:List aM)(hl:l.length<=1048576)(Y:cQ l)(hK:1048577<K) :
  Q98.l1 K x (l,cZ l,[],(BL (cZ l):Int),0)=some ((ek l (bW l) l.length,dx l (bW l) l.length,()),()):=by
 have Z:(cZ l).length<=l.length:=by
  refine B6 (CE _ _) ?_;simp[co]
 refine C0 ?_ (ez (step:=λrec a=>Q98.s1 K x rec a) (cZ l).length (λi=>(fX l ((cZ l).take i) l.length,cZ l,((cZ l).take i).map (λj=>(gx l j).1),(BL (cZ l):Int),(i:Int))) (some ((ek l (bW l) l.length,dx l (bW l) l.length,()),())) ?_ ?_ (by omega:(cZ l).length<K))
 ·simp only[List.take_zero,DZ,yY];rfl
 ·intro rec i r;simp only[Q98.s1];have X:=ir.1 ((BR.1 (BM r)).1);have u:(cZ l)[i]∉(cZ l).take i:=λh=>by
   obtain⟨j,hj,e⟩:=BS h;rw[B5]at hj;rw[Co]at e;have:=CT.1 (xy l) j i (by omega) r (by omega);omega
  have M:(cZ l).take (i+1)=(cZ l).take i++[(cZ l)[i]]:=CX r;rw[M,Cy];have I:(((cZ l).take i).map (λj=>(gx l j).1)).length<=1048576:=by rw[BY,B5];omega
  rw[bk (by omega:(i:Int)<(BL (cZ l):Int)),af r,ar i (by omega),BO,af r];simp only[cond_true,BK];generalize (cZ l)[i]=v at X u ⊢;obtain⟨b,rfl⟩:=BP X.1;have z:b<l.length:=by omega
  have H:b<(fX l ((cZ l).take i) l.length).length:=by rw[eK];exact z
  have hd:dL l ((cZ l).take i) (b:Int)=l[b]:=by
   unfold dL;rw[decide_eq_false u,cn z];rfl
  obtain⟨c0,c1⟩:=(Y.1 l[b] (BM z)).2;rw[af H,BO,af H,fm l _ z,hd];simp only[BK];rw[szb _ _ _ (by omega) (by simp only[BY,BQ,BU]at I ⊢;omega),aA (n:=l[b].2-1) (by omega) (by omega),<- yZ z,cn z];simp only[cond_true,C6,DZ,cn z]
 ·intro rec;simp only[Q98.s1,aP,cond_false,Cl,Q9.f];have e:∀ J:List aM,J.length<=1048576->gK t3 J (λO=>(Q97.f K (O.1,())).map λy=>y.1.1)=some ((J.filter (λx=>!(x.2==0)),()),()):=λJ R=>re (e:=t3) (λx=>x.2==0) R (λx _=>rfl)
  rw[e _ (by rw[eK];exact hl)];simp only[BK];rw[vQ (l:=l) (T:=cZ l) (T':=bW l) (λi=>xx) l.length];have ef:(fX l (bW l) l.length).filter (λx=>!(x.2==0))=dx l (bW l) l.length:=by
   unfold dx;refine C5 λx hx=>?_
   have h0:0<=x.2:=by
    obtain⟨i,r,rfl⟩:=BS hx;rw[eK]at r;rw[fm l _ r];obtain⟨c0,c1⟩:=(Y.1 l[i] (BM r)).2;unfold dL;rw[cn r];cases decide ((i:Int)∈bW l) with
    |true=>show 0<=l[i].2-1;omega
    |false=>show 0<=l[i].2;omega
   rw[CV];simp;omega
  rw[ef];rfl
theorem vR (K:Nat)(l:List aM)(hl:l.length<=8)(I:cQ l)(H:1048577<K):Q98.f K (l,3,())=some ((ek l (bW l) l.length,dx l (bW l) l.length,()),()):=by
 simp only[Q98.f,Q98.pre];obtain⟨b1,e1,e2⟩:=oW K l (by omega) H;have R:=e2.2 I;subst R;rw[e1];simp only[BK,BT,cond_false];rw[decide_eq_true (by omega:(0:Int)<=(BL l:Int)),show decide ((BL l:Int)*(8:Nat)<=ak)=true from decide_eq_true (by simp only[ak];omega),BO];simp only[decide_true,Ce,cond_true];have Y:(co l.length).length=l.length:=by simp[co]
 have hS:∀ i,i<=l.length->(co i++Ck (l.length-i) (0:Int)).length=l.length:=λi hi=>by simp[co];omega
 refine C0 ?_ (ez (step:=λrec a=>Q98.s0 K (l,3,()) (Q98.l1 K (l,3,())) rec a) l.length (λi=>(co i++Ck (l.length-i) (0:Int),(i:Int))) (some ((ek l (bW l) l.length,dx l (bW l) l.length,()),())) ?_ ?_ (by omega:l.length<K))
 ·rfl
 ·intro rec i hi;simp only[Q98.s0];have u:i<(co i++Ck (l.length-i) (0:Int)).length:=by rw[hS i (by omega)];exact hi
  rw[decide_eq_true (by rw[Cu];show (i:Int)<((BN (BL l:Int):Nat):Int);omega),af u,ar i (by omega),BO,af u];simp only[cond_true,BK];have e:(co i++Ck (l.length-i) (0:Int)).set i (i:Int)=co (i+1)++Ck (l.length-(i+1)) (0:Int):=by
   obtain⟨m,hm⟩:∃ m,l.length-i=m+1:=⟨l.length-i-1,by omega⟩;have J:(co i).length=i:=by simp[co]
   rw[hm,show l.length-(i+1)=m by omega,m7,DH _ _ (by omega),J,Nat.sub_self,List.replicate_succ,List.set_cons_zero,CL];rfl
  rw[e]
 ·intro rec;simp only[Q98.s0];rw[decide_eq_false (by rw[Cu];show ¬ (BL l:Int)<((BN (BL l:Int):Nat):Int);omega),Nat.sub_self,List.replicate_zero,BV];simp only[cond_false,Q2.f];have r:=yV K (co l.length) (λZ=>(Q86.f K (Z.1,Z.2.1,l,())).map λy=>y.1.1) (ltL l) (λi=>0<=i/\i<l.length) (λy X=>ir.1 X) (λy z X hz=>by
   obtain⟨a,rfl⟩:=BP X.1;obtain⟨b,rfl⟩:=BP hz.1;have M:a<l.length:=by omega
   have O:b<l.length:=by omega
   obtain⟨c0,c1⟩:=(I.1 l[a] (BM M)).2;obtain⟨c2,c3⟩:=(I.1 l[b] (BM O)).2;refine⟨l[b].2-l[a].2,?_,?_⟩
   ·simp only[Q86.f];rw[af M,af O];simp only[BK];rw[aA (n:=l[b].2-l[a].2) (by omega) (by omega)];rfl
   ·unfold ltL;rw[dK M,dK O,decide_eq_decide];omega) (by rw[Y];omega) H
  rw[r];simp only[BK];rw[dY (by omega)];simp only[BK];rw[show Q76.f K (cR (ltL l) [] (co l.length),3,())=some ((bW l,()),()) from qw K (bC l) 3 (by rw[xt];omega)];simp only[BK];rw[yX K (bW l) (B6 (Ca _ _) (by omega)) H,uo];simp only[BK];exact uq K (l,3,()) l (by omega) I H
theorem Bg {a b:Int}(u:0<=a)(r:a<4611686018427387904)(y:0<=b)(z:b<4611686018427387904):0<=qo .i64 a b:=by
 obtain⟨m,rfl⟩:=BP u;obtain⟨n,rfl⟩:=BP y;have h:(BitVec.ofInt 64 (m:Int) ^^^ BitVec.ofInt 64 (n:Int)).toNat=m ^^^ n:=by
  rw[BitVec.toNat_xor,BitVec.toNat_ofInt,BitVec.toNat_ofInt];congr 1
  ·omega
  ·omega
 have H:m ^^^ n<2 ^ 62:=Nat.xor_lt_two_pow (by omega) (by omega);show 0<=IntKind.i64.wrap (((BitVec.ofInt 64 (m:Int) ^^^ BitVec.ofInt 64 (n:Int)).toNat:Nat):Int);rw[h,DT];omega
structure fY (b:List Int):Prop where
 byte:∀ y∈b,0<=y/\y<=255
 len:b.length<=2000
theorem Al (K:Nat)(b:List Int)(q:Nat)(n:Int)(h:fY b)(hq:q<=100000)(hn:1<=n):∃ v:Int,Q120.f K ((b,(q:Int)),n,())=some ((v,()),((b,((q+1:Nat):Int)),()))/\0<=v/\v<n:=by
 have w1:wr .i64 ((q:Int)+1)=((q+1:Nat):Int):=ar q (by omega);have w2:wr .i64 (((q+1:Nat):Int)-1)=(q:Int):=by rw[aA (n:=((q+1:Nat):Int)-1) (by omega) (by omega)];omega
 have hl:=h.len;have J:decide (n=0)=false:=decide_eq_false (by omega);have r:∀ x:Int,0<=x->0<=CN x n/\CN x n<n:=λx u=>⟨DF _ u,C3 _ (by omega)⟩
 simp only[Q120.f];rw[decide_eq_false (by omega:¬ n<1)];simp only[cond_false,w1,w2,J];by_cases O:b.length=0
 ·rw[show ((b.length:Int)==0)=true by simpa using O];exact⟨0,rfl,by omega,by omega⟩
 ·rw[show ((b.length:Int)==0)=false by simpa using O];simp only[cond_false];by_cases H:q<b.length
  ·rw[decide_eq_true (by omega:(q:Int)<(b.length:Int)),af H];simp only[cond_true,BK];obtain⟨I,Y⟩:=h.byte b[q] (BM H);rw[aA (n:=b[q]) (by omega) (by omega)];exact⟨_,rfl,r _ I⟩
  ·rw[decide_eq_false (by omega:¬ (q:Int)<(b.length:Int)),decide_eq_false (by omega:¬ (b.length:Int)=0)];simp only[cond_false];have t1:CN (q:Int) (b.length:Int)=((q % b.length:Nat):Int):=by rw[C4 (by omega)];rfl
   have t2:wr .i64 (wr .i64 ((q:Int)*7)+3)=((q*7+3:Nat):Int):=by rw[aA (n:=(q:Int)*7) (by omega) (by omega),aA (n:=(q:Int)*7+3) (by omega) (by omega)];omega
   have t3:CN (((q*7+3:Nat)):Int) (b.length:Int)=(((q*7+3) % b.length:Nat):Int):=by rw[C4 (by omega)];rfl
   have M:q % b.length<b.length:=Nat.mod_lt _ (by omega);have R:(q*7+3) % b.length<b.length:=Nat.mod_lt _ (by omega);rw[t1,t2,t3,af M,af R];simp only[BK];obtain⟨I,Y⟩:=h.byte b[q % b.length] (BM M);obtain⟨z0,z1⟩:=h.byte b[(q*7+3) % b.length] (BM R);generalize b[q % b.length]=y at I Y ⊢;generalize b[(q*7+3) % b.length]=z at z0 z1 ⊢;have d1:0<=Cs (q:Int) (b.length:Int)/\Cs (q:Int) (b.length:Int)<=q:=⟨DW (by omega) (by omega),DU _ (by omega)⟩;generalize Cs (q:Int) (b.length:Int)=e at d1 ⊢;have Z:wr .i64 (wr .i64 (wr .i64 (wr .i64 (wr .i64 y*131)+wr .i64 (wr .i64 z*1117))+wr .i64 ((q:Int)*29))+wr .i64 (wr .i64 e*53))=y*131+z*1117+q*29+e*53:=by
    rw[aA (n:=y) (by omega) (by omega),aA (n:=z) (by omega) (by omega),aA (n:=e) (by omega) (by omega),aA (n:=y*131) (by omega) (by omega),aA (n:=z*1117) (by omega) (by omega),aA (n:=(q:Int)*29) (by omega) (by omega),aA (n:=e*53) (by omega) (by omega),
     aA (n:=y*131+z*1117) (by omega) (by omega),aA (n:=y*131+z*1117+(q:Int)*29) (by omega) (by omega),aA (n:=y*131+z*1117+(q:Int)*29+e*53) (by omega) (by omega)]
   rw[Z];have u:0<=y*131+z*1117+q*29+e*53/\y*131+z*1117+q*29+e*53<=10000000:=by omega
   generalize y*131+z*1117+(q:Int)*29+e*53=X at u ⊢;have d2:0<=Cs X 64/\Cs X 64<=X:=⟨DW u.1 (by omega),DU _ u.1⟩;rw[aA (n:=Cs X 64) (by omega) (by omega)];exact⟨_,rfl,r _ (Bg u.1 (by omega) d2.1 (by omega))⟩
theorem vS (K:Nat)(t:List ag)(f:ag)(Y:t.length<=1048576)(O:Asc (λg:ag=>g.1) t)(hK:1048577<K):Q122.f K (t,f,())=some (((bS t f).1,(bS t f).2,()),()):=by
 simp only[Q122.f,Q122.pre];obtain⟨o,z,J⟩:=fC K t f.1 Y hK;rw[J];simp only[BK];cases z with
 |at_ i r e =>
  simp only;rw[kx O r e,decide_eq_true (by omega:((i:Nat):Int)>=0),af r];simp only[cond_true,BK,BO,af r];rw[show Q19.f K (f,t[i],())=_ from pH K f t[i]];simp only[BK];by_cases z:bR f t[i]
  ·rw[decide_eq_true z,if_pos z];simp only[BT,cond_false];rw[szb _ _ _ (by omega) (by show (BL ([]:List ag))+t.length<=_;simp;omega)];simp only[cond_true,BX,af r,BK,BO];rw[kw (k:=λg:ag=>g.1) O r e]
  ·rw[decide_eq_false z,if_neg z];rfl
 |no h =>
  simp only;rw[ip h,decide_eq_false (by omega:¬ (-1:Int)>=0)];simp only[cond_false];have I:∀ m:Nat,m<=t.length->(bif decide ((0:Int)<=0)&&decide ((0:Int)<=(m:Int))&&decide ((m:Int)<=(BL t:Int))&&true then (bif decide ((BL ([]:List ag)+BL ((t.take (BN (m:Int))).drop (BN 0)))*32<=ak) then (bif decide ((BL ([]++((t.take (BN (m:Int))).drop (BN 0)))+BL ([f]))*32<=ak) then (bif decide ((0:Int)<=(m:Int))&&decide ((m:Int)<=(BL t:Int))&&decide ((BL t:Int)<=(BL t:Int))&&true then (bif decide ((BL (([]++((t.take (BN (m:Int))).drop (BN 0)))++([f]))+BL ((t.take (BN (BL t:Int))).drop (BN (m:Int))))*32<=ak) then (some (((([]++((t.take (BN (m:Int))).drop (BN 0)))++([f]))++((t.take (BN (BL t:Int))).drop (BN (m:Int))),true,()),())) else none) else none) else none) else none) else (none:Option ((List ag×Bool×Unit)×Unit)))=some ((t.take m++[f]++t.drop m,true,()),()):=by
   intro m X;rw[decide_eq_true (by omega:(0:Int)<=0),decide_eq_true (by omega:(0:Int)<=(m:Int)),decide_eq_true (by omega:(m:Int)<=(BL t:Int)),decide_eq_true (by omega:(BL t:Int)<=(BL t:Int))];simp only[BO,Ch,B8,BX,Cl,Ce,cond_true];have J:(t.take m).length=m:=by rw[B5];omega
   have H:(t.drop m).length=t.length-m:=CH;rw[szb _ _ _ (by omega) (by simp only[BU];omega),szb _ _ _ (by omega) (by simp only[BQ,BU];omega),szb _ _ _ (by omega) (by simp only[BZ,BQ,BU];omega)];rfl
  have:=b7 (step:=λrec a=>Q122.s0 K (t,f,()) rec a) t.length (λi=>(i:Int)) (λj=>∃ h:j<t.length,¬ t[j].1<f.1) (some ((t.take t.length++[f]++t.drop t.length,true,()),())) (λj=>some ((t.take j++[f]++t.drop j,true,()),())) ?_ ?_ t.length K 0 (by omega) (by omega)
  ·have M:∀ m,m<=t.length->(∀ i,(r:i<t.length)->i<m->t[i].1<f.1)->(∀ i,(r:i<t.length)->m<=i->f.1<t[i].1)->t.take m++[f]++t.drop m=bE (λg=>g.1) f t:=λm X lo r=>jk (k:=λg:ag=>g.1) X lo r
   rcases this with ⟨J,H⟩|⟨j,_,J,⟨h3,h4⟩,Z,H⟩
   ·rw[M t.length (B3 _) (λi r _=>by
     have:=J i (B4 _) r;exact Cq.1 λh=>this ⟨r,h⟩) (λi r h=>by omega)]at H
    exact H
   ·rw[M j (by omega) (λi r y=>by
     have:=Z i (B4 _) y;exact Cq.1 λh=>this ⟨r,h⟩) (λi r y=>by
     have a0:=h t[i] (BM r);rcases CS y with R|R
     ·have:=dn.1 O j i h3 r R;omega
     ·subst R;omega)]at H
    exact H
  ·intro rec i r;simp only[Q122.s0];rw[bk (by omega:(i:Int)<(BL t:Int)),af r,ar i (by omega)];simp only[cond_true,BK];rw[show idx t ((BN (i:Int):Nat):Int)=some t[i] by rw[BO];exact af r];simp only[BK];by_cases u:t[i].1<f.1
   ·exact .inl ⟨λ⟨_,h⟩=>h u,by rw[decide_eq_true u];rfl⟩
   ·exact .inr ⟨⟨r,u⟩,by rw[decide_eq_false u];exact I i (by omega)⟩
  ·intro rec;simp only[Q122.s0,aP,cond_false];exact I t.length (B3 _)
def fE (t:List ag)(fs:List ag):List ag:=fs.foldl (λt f=>(bS t f).1) t
theorem rg:∀ {fs t:List ag},ax t->(∀ f∈fs,bA f)->ax (fE t fs)
 |[],_,h,_=>h
 |f::fs,t,h,r=>rg (fs:=fs) (ky h (r f (by simp))) (λg u=>r g (by simp[u]))
theorem cq {t:List ag}(h:ax t):t.length<=1048576:=B6 (iW h.2 (λg r=>(h.1 g r).1)) (by decide)
theorem ur {R:Type}(a fs:List ag)(X:ax a)(O:∀ f∈fs,bA f)(u:List ag->Option R){step:(List ag×Int->Option R)->List ag×Int->Option R}
  (h:∀ (rec:List ag×Int->Option R) (t:List ag) (i:Nat) (J:i<fs.length),ax t->step rec (t,(i:Int))=rec ((bS t fs[i]).1,((i+1:Nat):Int)))
  (y:∀ (rec:List ag×Int->Option R) (t:List ag),step rec (t,(fs.length:Int))=u t) {k:Nat} (z:fs.length<k):ae step k (a,0)=u (fE a fs):=by
 have:∀ (d i k:Nat) (t:List ag),i+d=fs.length->d<k->ax t->ae step k (t,(i:Int))=u (fE t (fs.drop i)):=by
  intro d;induction d with
  |zero =>
   intro i k t J z _;obtain⟨k,rfl⟩:∃ H,k=H+1:=⟨k-1,by omega⟩;have:i=fs.length:=by omega
   subst this;show step (ae step k) _=_;rw[y,C8];rfl
  |succ d M =>
   intro i k t J z I;obtain⟨k,rfl⟩:∃ H,k=H+1:=⟨k-1,by omega⟩;have r:i<fs.length:=by omega
   show step (ae step k) _=_;rw[h _ _ _ r I,CC r];exact M (i+1) k _ (by omega) (by omega) (ky I (O _ (BM r)))
 have:=this fs.length 0 k a (by omega) z X
 rwa [B8]at this
theorem xz (f:ag):¬ bR f f:=by
 unfold bR;simp
theorem kA (K:Nat)(xs:List ag)(y:xs.length<=1048576)(z:1048577<K):Q229.f K (xs,xs,())=rb true:=by
 have r:Q229.l0 K (xs,xs,()) 0=rb true:=by
  refine ez (step:=λrec a=>Q229.s0 K (xs,xs,()) rec a) xs.length (λi=>(i:Int)) (rb true) ?_ ?_ (by omega)
  ·intro rec i u;simp only[Q229.s0];rw[decide_eq_true (by omega:(i:Int)<(BL xs:Int)),af u,ar i (by omega)];simp only[cond_true,BK];rw[show Ty.eqv t2 xs[i] xs[i]=decide (xs[i]=xs[i]) from hH _ _,decide_eq_true rfl];rfl
  ·intro rec;simp only[Q229.s0,aP];rfl
 simp only[Q229.f,Q229.pre,bne_self_eq_false,cond_false];exact r
theorem o7 {l:List aM}(M:cQ l)(T:List Int):ax (ek l T l.length):=by
 unfold ek;constructor
 ·intro f hf;obtain⟨i,H,rfl⟩:=B7.1 hf;obtain⟨X,h1⟩:=ir.1 (BR.1 H).1;obtain⟨b,rfl⟩:=BP X;have J:b<l.length:=by omega
  rw[cn J];exact (M.1 l[b] (BM J)).1
 ·unfold Asc;rw[CD];have Z:((co l.length).filter λi=>decide (i∈T)).Pairwise λ (a b:Int)=>(0<=a/\a<l.length)/\(0<=b/\b<l.length)/\a<b:=by
   refine Cj _ ?_;have:∀ u:List Int,(∀ x∈u,0<=x/\x<l.length)->u.Pairwise (·<·)->u.Pairwise λ (a b:Int)=>(0<=a/\a<l.length)/\(0<=b/\b<l.length)/\a<b:=by
    intro u z r;induction u with
    |nil=>exact List.Pairwise.nil
    |cons x u R =>
     rw[B9]at r ⊢;exact⟨λy I=>⟨z x (by simp),z y (by simp[I]),r.1 y I⟩,R (λy I=>z y (by simp[I])) r.2⟩
   exact this _ (λx z=>ir.1 z) (jo _)
  refine Z.imp λ {a b} h=>?_
  obtain⟨⟨a0,a1⟩,⟨b0,b1⟩,Y⟩:=h;obtain⟨i,rfl⟩:=BP a0;obtain⟨j,rfl⟩:=BP b0;have H:i<l.length:=by omega
  have O:j<l.length:=by omega
  rw[cn H,cn O];exact dn.1 M.2 i j H O (by omega)
theorem th {l:List aM}(J:cQ l)(T:List Int):cQ (dx l T l.length):=by
 have r:∀ i (h:i<l.length),(dL l T (i:Int)).1=l[i].1:=λi h=>by
  unfold dL;rw[cn h];cases decide ((i:Int)∈T) <;> rfl
 have z:∀ i (h:i<l.length),(dL l T (i:Int)).2<=l[i].2:=λi h=>by
  unfold dL;rw[cn h];cases decide ((i:Int)∈T) with
  |true=>show l[i].2-1<=l[i].2;omega
  |false=>exact CQ _
 unfold dx;constructor
 ·intro x O;obtain⟨M,H⟩:=BR.1 O;have H:x.2>0:=by simpa using H
  obtain⟨i,u,rfl⟩:=BS M;rw[eK]at u;rw[fm l T u]at H ⊢;have:=(J.1 l[i] (BM u));refine⟨by rw[r i u];exact this.1,?_,?_⟩
  ·omega
  ·have R:=z i u;have X:=this.2.2;omega
 ·unfold Asc;refine Cj _ ?_;rw[CT];intro i j u y I;rw[eK]at u y;show (fX l T l.length)[i].1.1<(fX l T l.length)[j].1.1;rw[fm l T u,fm l T y,r i u,r j y];exact dn.1 J.2 i j u y I
def iY (n:aa)(to:Int):List ag :=
 bif (aC (aa.table n) to).2.2.1==2 then (bS (ek (aa.cast n) (bW (aa.cast n)) (aa.cast n).length) (aC (aa.table n) to)).1 else ek (aa.cast n) (bW (aa.cast n)) (aa.cast n).length
def is (n:aa):aa:=iV n (aa.table n) (dx (aa.cast n) (bW (aa.cast n)) (aa.cast n).length) (aa.doubts n)
theorem kn {n:aa}(h:b8 n)(to:Int):ax (iY n to):=by
 have r:=o7 h.cast (bW (aa.cast n));unfold iY;cases u:(aC (aa.table n) to).2.2.1==2 with
 |false=>exact r
 |true =>
  refine ky r (cE h.table ?_).1;by_cases y:∃ f∈aa.table n,f.1=to
  ·exact y
  ·rw[jM (λg z e=>y ⟨g,z,e⟩)]at u;simp at u
theorem Bh {n:aa}(h:b8 n):b8 (is n):=b8.mk' h.table (th h.cast _) h.asc h.inp
theorem clen {n:aa}(h:b8 n):(aa.cast n).length<=8:=iW h.cast.2 (λx r=>(h.cast.1 x r).1.1)
theorem qz (K:Nat)(n:aa)(to:Int)(h:b8 n)(r:1048577<K):Q203.f K (n,to,())=some ((iY n to,is n,()),()):=by
 have M:=clen h;simp only[Q203.f,zcp8];rw[show Q170.f K (n.2.2.2.2.2.2.2.2.2.1,3,())=_ from Bf K (aa.cast n) (by omega) h.cast r];simp only[BK];obtain⟨o,J,I⟩:=fC K (aa.table n) to h.lt r;rw[show Q16.f K (n.2.2.2.2.2.2.2.2.1,to,())=_ from I];simp only[BK,iY];have H:=o7 h.cast (bW (aa.cast n));cases J with
 |no y =>
  rw[jM y];rfl
 |at_ j z e =>
  have u:aC (aa.table n) to=(aa.table n)[j]:=by rw[<- e];exact jL h.table.2 (BM z)
  rw[u];simp only;rw[decide_eq_true (by omega:((j:Nat):Int)>=0),show idx n.2.2.2.2.2.2.2.2.1 ((j:Nat):Int)=some (aa.table n)[j] from af z];simp only[cond_true,BK];cases (aa.table n)[j].2.2.1==2 with
  |false=>rfl
  |true =>
   simp only[cond_true];rw[vS K _ _ (cq H) H.2 r];rfl
theorem vT (K:Nat)(n:aa)(to:Int)(h:b8 n)(r:1048577<K):Q99.f K (n,to,())=some ((iY n to,()),(is n,())):=by
 simp only[Q99.f,zcp8];rw[show Q98.f K (n.2.2.2.2.2.2.2.2.2.1,3,())=_ from vR K (aa.cast n) (clen h) h.cast r];simp only[BK];obtain⟨b,y⟩:=iX K (aa.table n) to h.table h.lt r;rw[show Q37.f K (n.2.2.2.2.2.2.2.2.1,to,())=_ from y];simp only[BK,iY];have u:=o7 h.cast (bW (aa.cast n));cases (aC (aa.table n) to).2.2.1==2 with
 |false=>rfl
 |true =>
  simp only[cond_true];rw[zN K _ _ (cq u) u.2 r];rfl
def bh (n:aa)(k:Nat):Int:=CN (n.2.2.2.2.2.2.2.1+(k:Int)) 8
def gN (n:aa)(k:Nat):Prop:=bh n k≠n.1/\cL (aC (aa.table n) (bh n k))=true
def qA (n:aa)(to:Int):aa :=
 let m:=is n
 (m.1,m.2.1,m.2.2.1,m.2.2.2.1,m.2.2.2.2.1,m.2.2.2.2.2.1,m.2.2.2.2.2.2.1+1,to+1,m.2.2.2.2.2.2.2.2.1,m.2.2.2.2.2.2.2.2.2.1,(to,m.2.2.2.2.2.1,m.2.2.2.2.2.2.1+1,false),m.2.2.2.2.2.2.2.2.2.2.2)
def sj (n:aa)(to:Int):aq:=(1,1,n.1,to,n.2.2.2.2.2.2.1+1,n.1,aa.coord n,iY n to)
theorem u5 (K:Nat)(n:aa)(h:b8 n)(O:0<=n.2.2.2.2.2.2.2.1)(X:n.2.2.2.2.2.2.2.1<=8)(Y:1048577<K) :
  ∃ to:Int,Q202.f K (n,())=some ((to,()),())/\((to=-1/\∀ k,k<8->¬ gN n k)\/∃ k,k<8/\gN n k/\(∀ j,j<k->¬ gN n j)/\to=bh n k):=by
 have u:∀ k:Nat,k<8->wr .i64 (n.2.2.2.2.2.2.2.1+(k:Int))=n.2.2.2.2.2.2.2.1+(k:Int):=λk M=>aA (by omega) (by omega)
 have:=b7 (step:=λrec a=>Q202.s0 K (n,()) rec a) 8 (λi=>(i:Int)) (gN n) (some ((-1,()),())) (λj=>some ((bh n j,()),())) ?_ ?_ 8 K 0 (by omega) (by omega)
 ·rcases this with ⟨H,J⟩|⟨j,_,H,h3,h4,J⟩
  ·exact⟨-1,J,.inl ⟨rfl,λk M=>H k (B4 _) M⟩⟩
  ·exact⟨_,J,.inr ⟨j,H,h3,λm R=>h4 m (B4 _) R,rfl⟩⟩
 ·intro rec i Z;simp only[Q202.s0];rw[decide_eq_true (by omega:(i:Int)<=7),u i Z,ar i (by omega)];simp only[cond_true];show (¬ gN n i/\(bif bh n i != n.1 then ((Q199.f K (aa.table n,bh n i,())).bind λz=>bif z.1.1 then (some ((bh n i,()),())) else (rec ((i+1:Nat):Int))) else (rec ((i+1:Nat):Int)))=rec ((i+1:Nat):Int))\/(gN n i/\(bif bh n i != n.1 then ((Q199.f K (aa.table n,bh n i,())).bind λz=>bif z.1.1 then (some ((bh n i,()),())) else (rec ((i+1:Nat):Int))) else (rec ((i+1:Nat):Int)))=some ((bh n i,()),()));rw[sY K (aa.table n) (bh n i) h.table h.lt Y];by_cases r:bh n i=n.1
  ·exact .inl ⟨λy=>y.1 r,by rw[show (bh n i != n.1)=false by simpa using r];rfl⟩
  ·rw[show (bh n i != n.1)=true by simpa using r];cases I:cL (aC (aa.table n) (bh n i)) with
   |true=>exact .inr ⟨⟨r,I⟩,rfl⟩
   |false=>exact .inl ⟨λy=>(by rw[y.2]at I;cases I),rfl⟩
 ·intro rec;simp only[Q202.s0];rfl
theorem za (K:Nat)(n:aa)(h:b8 n)(hp:(aa.probe n).1=-1)(ad:0<=n.2.2.2.2.2.2.1)(a6:n.2.2.2.2.2.2.1<=1000000)(a1:0<=n.2.2.2.2.2.2.2.1)(a2:n.2.2.2.2.2.2.2.1<=8)(hK:1048577<K) :
  ∃ (y:aa) (Z:List aq),Q204.f K (n,())=some ((y,Z,()),())/\Q100.f K (n,())=some ((Z,()),(y,()))/\((y=n/\Z=[])\/∃ to,y=qA n to/\Z=[sj n to]):=by
 have z:∀ k:Nat,k<8->wr .i64 (n.2.2.2.2.2.2.2.1+(k:Int))=n.2.2.2.2.2.2.2.1+(k:Int):=λk X=>aA (by omega) (by omega)
 have I:∀ k:Nat,k<8->0<=bh n k/\bh n k<8:=λk X=>⟨DF _ (by omega),C3 _ (by omega)⟩
 obtain⟨to,es,a3⟩:=u5 K n h a1 a2 hK;simp only[Q204.f,zcp4,Q100.f,Q100.pre];rw[es,show (n.2.2.2.2.2.2.2.2.2.2.1.1 != -1)=false by show ((aa.probe n).1 != -1)=false;rw[hp];rfl];simp only[BK,cond_false];by_cases u:n.2.2.2.2.2.2.1>=999999
 ·rw[decide_eq_true u];refine⟨n,[],?_,rfl,.inl ⟨rfl,rfl⟩⟩;cases decide (to<0) <;> rfl
 ·rw[decide_eq_false u];simp only[cond_false];have M:wr .i64 (n.2.2.2.2.2.2.1+1)=n.2.2.2.2.2.2.1+1:=aA (by omega) (by omega);have O:=b7 (step:=λrec a=>Q100.s0 K (n,()) rec a) 8 (λi=>(i:Int)) (gN n) (some (([],()),(n,()))) (λj=>some (([sj n (bh n j)],()),(qA n (bh n j),()))) ?_ ?_ 8 K 0 (by omega) (by omega)
  ·rcases a3 with ⟨rfl,a5⟩|⟨k,X,H,a0,rfl⟩
   ·rcases O with ⟨_,h2⟩|⟨j,_,Y,h3,_,_⟩
    ·exact⟨n,[],rfl,h2,.inl ⟨rfl,rfl⟩⟩
    ·exact absurd h3 (a5 j Y)
   ·have a9:=I k X;rcases O with ⟨Y,_⟩|⟨j,_,Y,h3,h4,h2⟩
    ·exact absurd H (Y k (B4 _) X)
    ·have:j=k:=by
      rcases Cr j k with J|J|J
      ·exact absurd h3 (a0 j J)
      ·exact J
      ·exact absurd H (h4 k (B4 _) J)
     subst this;refine⟨qA n (bh n j),[sj n (bh n j)],?_,h2,.inr ⟨_,rfl,rfl⟩⟩;rw[decide_eq_false (by omega:¬ bh n j<0)];simp only[cond_false];rw[qz K n _ h hK];simp only[BK];rw[show wr .i64 ((is n).2.2.2.2.2.2.1+1)=n.2.2.2.2.2.2.1+1 from M,aA (n:=bh n j+1) (by omega) (by omega)];simp only[Q156.f];rw[szb _ _ _ (by omega) (by have:=cq (kn h (bh n j));simp;omega)];rfl
  ·intro rec i O;have R:=I i O;simp only[Q100.s0,zcp4];rw[decide_eq_true (by omega:(i:Int)<8),z i O,ar i (by omega)];simp only[cond_true];have a4:=sZ K n (bh n i) h.table h.lt hK;rw[show CN (n.2.2.2.2.2.2.2.1+(i:Int)) 8=bh n i from rfl];by_cases r:bh n i=n.1
   ·exact .inl ⟨λR=>R.1 r,by rw[show (bh n i==n.1)=true by simpa using r];rfl⟩
   ·rw[show (bh n i==n.1)=false by simpa using r];simp only[cond_false];rw[a4];simp only[BK];cases hl:cL (aC (aa.table n) (bh n i)) with
    |false=>exact .inl ⟨λR=>(by rw[R.2]at hl;cases hl),rfl⟩
    |true =>
     refine .inr ⟨⟨r,hl⟩,?_⟩;simp only[BT,cond_false];rw[vT K n _ h hK];simp only[BK,Q81.f];rw[show wr .i64 ((is n).2.2.2.2.2.2.1+1)=n.2.2.2.2.2.2.1+1 from M,aA (n:=bh n i+1) (by omega) (by omega)];rfl
  ·intro rec;simp only[Q100.s0,zcp4];rfl
abbrev lM:=Int×ByteArray×Bool
abbrev bX:=List aa×List lM×List Int×List ag
abbrev bX.radio (w:bX):List lM:=w.2.1
abbrev bX.sides (w:bX):List Int:=w.2.2.1
abbrev bX.born (w:bX):List ag:=w.2.2.2
theorem kD {n:Int}(h:InP n 0 7):ao n=n / 4:=by
 obtain⟨r,u⟩:=h;unfold ao;rw[CJ r,aA (by omega) (by omega)]
theorem Am {α:Type}{k:α->Int}{xs:List α}(h:Asc k xs):∀ i (r:i<xs.length),k (xs[0]'(by omega))+i<=k xs[i]:=by
 rw[gM]at h;intro i;induction i with
 |zero=>intro r;simp
 |succ i u =>
  intro r;have z:=u (by omega);have y:=h (i+1) r (by omega);simp only[Nat.add_sub_cancel]at y;omega
theorem ut {t:List ag}{s:Int}(u:ax t)(z:cf t s):t.length<=4:=by
 cases h:t.length with
 |zero=>omega
 |succ m =>
  have r:m<t.length:=by omega
  have y:0<t.length:=by omega
  have O:=Am u.2 m r;have H:=z _ (BM r);have J:=z _ (BM y);have M:=(u.1 _ (BM r)).1;have I:=(u.1 _ (BM y)).1;rw[kD M]at H;rw[kD I]at J;omega
theorem m8 {z:Int}{l:List cU}(u:InP z 0 7)(h:c8 z l):l=[]\/∃ x,l=[x]:=by
 match l,h with
 |[],_=>exact .inl rfl
 |[x],_=>exact .inr ⟨x,rfl⟩
 |x::y::r,h =>
  exfalso;have J:=h.1 x (by simp);have M:=h.1 y (by simp);have h3:x.1<y.1:=by
   have:=h.2;unfold Asc at this;rw[B9]at this;exact this.1 y (by simp)
  have e:=kD u;obtain⟨⟨Z,R⟩,I,_⟩:=J;obtain⟨⟨Y,O⟩,H,_⟩:=M;obtain⟨X,m2⟩:=u;rw[e]at I H;omega
theorem lN {a:Int}{m:Nat}(u:m<4611686018427387904):0<=aR .i64 a (m:Int)/\aR .i64 a (m:Int)<=m:=by
 have h:(BitVec.ofInt 64 a &&& BitVec.ofInt 64 (m:Int)).toNat<=m:=by
  rw[BitVec.toNat_and];refine B6 Nat.and_le_right ?_;rw[BitVec.toNat_ofInt];omega
 show 0<=IntKind.i64.wrap (((BitVec.ofInt 64 a &&& BitVec.ofInt 64 (m:Int)).toNat:Nat):Int)/\IntKind.i64.wrap (((BitVec.ofInt 64 a &&& BitVec.ofInt 64 (m:Int)).toNat:Nat):Int)<=m;generalize (BitVec.ofInt 64 a &&& BitVec.ofInt 64 (m:Int)).toNat=r at h ⊢;rw[DT];omega
def gO (g:List Int)(d:Int):Int:=g.getD (BN (CN (aR .i64 d 255) (g.length:Int))) 0
theorem eL {g:List Int}{d:Int}(h:g≠[]):idx g (CN (aR .i64 d 255) (g.length:Int))=some (gO g d)/\idx g ((BN (CN (aR .i64 d 255) (g.length:Int)):Nat):Int)=some (gO g d)/\gO g d∈g:=by
 have I:0<g.length:=Cb.2 h;have y:=(lN (a:=d) (m:=255) (by omega)).1;have u:0<=CN (aR .i64 d 255) (g.length:Int):=DF _ y;have z:CN (aR .i64 d 255) (g.length:Int)<g.length:=C3 _ (by omega);unfold gO;obtain⟨v,H⟩:=BP u;rw[H]at z ⊢;have r:v<g.length:=by omega
 rw[BO,af r,List.getD_eq_getElem?_getD,BW r];exact⟨rfl,rfl,BM r⟩
def iZ (n:aa)(r d:Int):Int :=
 bif decide (dJ (di (aa.others n) r)≠[])&&aR .i64 d 4==0 then gO (dJ (di (aa.others n) r)) (CB d (2 ^ 3)) else r*4+aR .i64 (CB d (2 ^ 3)) 3
structure ia (n:aa):Prop where
 short:(aa.others n).length<=1
 table:∀ x∈aa.others n,ax x.2/\x.2.length<=1048576
theorem xA {r d:Int}(z:0<=r)(H:r<=1):wr .i64 (wr .i64 (r*4)+aR .i64 (CB d (2 ^ 3)) 3)=r*4+aR .i64 (CB d (2 ^ 3)) 3:=by
 obtain⟨u,y⟩:=lN (a:=CB d (2 ^ 3)) (m:=3) (by omega);have u:0<=aR .i64 (CB d (2 ^ 3)) 3:=u;have y:aR .i64 (CB d (2 ^ 3)) 3<=3:=y;rw[aA (n:=r*4) (by omega) (by omega),aA (by omega) (by omega)]
theorem far_s (K:Nat)(n:aa)(r d:Int)(h:ia n)(M:0<=r)(O:r<=1)(R:1048577<K):Q208.f K (n,r,d,())=some ((iZ n r d,()),()):=by
 obtain⟨k,rfl⟩:∃ k,K=k+2:=⟨K-2,by omega⟩;show Q208.s0 (k+2) (n,r,d,()) (ae (λrec a=>Q208.s0 (k+2) (n,r,d,()) rec a) (k+1)) 0=_;have z:∀ (rec:Int->Option ((Int×Unit)×Unit)) (a:Int),¬ a<(aa.others n).length->Q208.s0 (k+2) (n,r,d,()) rec a=some ((r*4+aR .i64 (CB d (2 ^ 3)) 3,()),()):=by
  intro rec a X;simp only[Q208.s0];rw[show decide (a<(BL n.2.2.2.2.2.2.2.2.2.2.2.2.2.2:Int))=false from decide_eq_false X,xA M O];rfl
 match y:aa.others n with
 |[] =>
  rw[z _ _ (by rw[y];simp),iZ,y];rfl
 |[x] =>
  have J:=h.table x (by rw[y];simp);have u:ae (λrec a=>Q208.s0 (k+2) (n,r,d,()) rec a) (k+1) 1=some ((r*4+aR .i64 (CB d (2 ^ 3)) 3,()),()):=z _ _ (by rw[y];simp);generalize ae (λrec a=>Q208.s0 (k+2) (n,r,d,()) rec a) (k+1)=rec at u ⊢;simp only[Q208.s0];rw[show decide ((0:Int)<(BL n.2.2.2.2.2.2.2.2.2.2.2.2.2.2:Int))=true from decide_eq_true (by show (0:Int)<((aa.others n).length:Int);rw[y];simp),show idx n.2.2.2.2.2.2.2.2.2.2.2.2.2.2 (0:Int)=some x by show idx (aa.others n) (0:Int)=some x;rw[y];rfl,show wr .i64 ((0:Int)+1)=1 from rfl];simp only[cond_true,BK,u];rw[iZ,y];cases I:x.1==r with
  |false =>
   simp only[cond_false,di,DC,I,List.find?_nil];rfl
  |true =>
   simp only[cond_true,di,DC,I,DV,DS];rw[uT (k+2) x.2 J.2 R];simp only[BK];by_cases H:dJ x.2=[]
   ·rw[H];rfl
   ·have Y:0<(dJ x.2).length:=Cb.2 H;rw[decide_eq_true H,decide_eq_true (by omega:((dJ x.2).length:Int)>0)];simp only[cond_true,CZ];cases aR .i64 d 4==0 with
    |false=>rfl
    |true =>
     simp only[cond_true];rw[decide_eq_false (by omega:¬ ((dJ x.2).length:Int)=0),(eL H).1,(eL H).2.1];rfl
 |_::_::_=>exact absurd h.short (by rw[y];simp)
def iN (n:aa):Bool:=decide (n.1∈dJ (aa.table n))
theorem zb (K:Nat)(n:aa)(z:(aa.table n).length<=1048576)(J:1048577<K):Q207.f K (n,())=rb (iN n):=by
 simp only[Q207.f,Q207.pre];rw[show Q206.f K (n.2.2.2.2.2.2.2.2.1,2,())=_ from uT K (aa.table n) z J];simp only[BK];have I:=q8 (aa.table n);unfold iN;generalize dJ (aa.table n)=g at I ⊢;have:=b7 (step:=λrec a=>Q207.s0 K (n,()) rec a) g.length (λi=>(g,(i:Int))) (λj=>∃ h:j<g.length,g[j]=n.1) (rb false) (λ_=>rb true) ?_ ?_ g.length K 0 (by omega) (by omega)
 ·rcases this with ⟨y,u⟩|⟨j,_,y,⟨O,R⟩,_,u⟩
  ·rw[decide_eq_false (λH=>by
    obtain⟨i,r,e⟩:=BS H;exact y i (B4 _) r ⟨r,e⟩)]
   exact u
  ·rw[decide_eq_true (R ▸ BM O:n.1∈g)];exact u
 ·intro rec i r;simp only[Q207.s0];rw[bk (by omega:(i:Int)<(BL g:Int)),af r,ar i (by omega),BO,af r];simp only[cond_true,BK];by_cases h:g[i]=n.1
  ·exact .inr ⟨⟨r,h⟩,by rw[show (g[i]==n.1)=true by simpa using h];rfl⟩
  ·exact .inl ⟨λ⟨_,M⟩=>h M,by rw[show (g[i]==n.1)=false by simpa using h];rfl⟩
 ·intro rec;simp only[Q207.s0,aP];rfl
theorem zc (K:Nat)(g:List Int)(v:Int)(O:g.length<=1048576)(R:1048577<K):Q106.f K (g,v,())=rb (decide (v∈g)):=by
 have:=b7 (step:=λrec a=>Q105.s0 K (g,v,()) rec a) g.length (λi=>(i:Int)) (λj=>∃ h:j<g.length,v=g[j]) (some ((-1,()),())) (λj=>some ((((j:Nat):Int),()),())) ?_ ?_ g.length K 0 (by omega) (by omega)
 ·simp only[Q106.f];rcases this with ⟨y,u⟩|⟨j,_,y,⟨I,J⟩,_,u⟩
  ·have e:Q105.f K (g,v,())=some ((-1,()),()):=u;rw[e,decide_eq_false (λz=>by
    obtain⟨i,r,M⟩:=BS z;exact y i (B4 _) r ⟨r,M.symm⟩)]
   rfl
  ·have e:Q105.f K (g,v,())=some ((((j:Nat):Int),()),()):=u;rw[e,decide_eq_true (J ▸ BM I:v∈g)];simp only[BK];rw[decide_eq_true (by omega:((j:Nat):Int)>=0)]
 ·intro rec i r;simp only[Q105.s0];rw[bk (by omega:(i:Int)<(BL g:Int)),af r,ar i (by omega)];simp only[cond_true,BK];by_cases h:v=g[i]
  ·exact .inr ⟨⟨r,h⟩,by rw[show (v==g[i])=true by simpa using h];rfl⟩
  ·exact .inl ⟨λ⟨_,H⟩=>h H,by rw[show (v==g[i])=false by simpa using h];rfl⟩
 ·intro rec;simp only[Q105.s0,aP];rfl
def wanW (n:aa)(d r:Int):aq:=(2,(nS 6 n (iZ n r d)).2)
def it (n:aa)(d:Int):List aq:=bif iN n then (([0,1]:List Int).filter (λs=>s != ao n.1)).map (wanW n d) else []
theorem wan_s (K:Nat)(n:aa)(d:Int)(h:ia n)(u:(aa.table n).length<=1048576)(y:1048577<K):Q209.f K (n,d,())=some ((it n d,()),()):=by
 simp only[Q209.f,Q209.pre];rw[zb K n u y];simp only[BK,it];cases iN n with
 |false=>rfl
 |true =>
  simp only[BT,cond_false,cond_true];refine lJ (step:=λrec a=>Q209.s0 K (n,d,()) rec a) ([0,1]:List Int) (λs=>s != ao n.1) (wanW n d) (λr i=>(r,(i:Int))) (λH=>some ((H,()),())) ?_ ?_ (by simp;omega)
  ·intro rec r i J I;have M:i<2:=J;have z:([0,1]:List Int)[i]=(i:Int):=by
    have:i=0\/i=1:=by omega
    rcases this with rfl|rfl <;> rfl
   simp only[Q209.s0,z];rw[decide_eq_true (by omega:(i:Int)<=1),ar i (by omega),eJ K n.1];simp only[cond_true,BK];cases (i:Int) != ao n.1 with
   |false=>rfl
   |true =>
    simp only[cond_true];rw[far_s K n (i:Int) d h (by omega) (by omega) y];simp only[BK];refine (congrArg (λo=>CP o _) (nT K n 6 (iZ n (i:Int) d) u)).trans ?_;simp only[BK];rw[szw _ _ _ (by omega) (by simp;omega)];rfl
  ·intro rec r I;simp only[Q209.s0];rfl
theorem zd (K:Nat)(n:aa)(d:Int)(R:NB n)(h:ia n)(Z:ax (aa.table n))(I:1048577<K):Q107.f K (n,d,())=some ((it n d,()),()):=by
 have M:=R.table;simp only[Q107.f,Q107.pre];rw[show Q103.f K (n.2.2.2.2.2.2.2.2.1,2,())=_ from uU K (aa.table n) M I Z];simp only[BK];rw[zc K (dJ (aa.table n)) n.1 (B6 (q8 _) (by decide)) I];simp only[BK,it];show (bif !(iN n) then _ else _)=_;cases iN n with
 |false=>rfl
 |true =>
  simp only[BT,cond_false,cond_true];rw[xd K 7];simp only[BK,show wr .i64 (ao 7+1)=2 from rfl];refine lJ (step:=λrec a=>Q107.s0 K (n,d,()) rec a) ([0,1]:List Int) (λs=>s != ao n.1) (wanW n d) (λr i=>(r,(2:Int),(i:Int))) (λws=>some ((ws,()),())) ?_ ?_ (by simp;omega)
  ·intro rec r i hi ha;have a0:i<2:=hi;have Y:([0,1]:List Int)[i]=(i:Int):=by
    have:i=0\/i=1:=by omega
    rcases this with rfl|rfl <;> rfl
   simp only[Q107.s0,Y];rw[decide_eq_true (by omega:(i:Int)<2),ar i (by omega),qt K n];simp only[cond_true,BK];rw[show ((i:Int) != ao n.1)=!((i:Int)==ao n.1) from rfl];cases (i:Int)==ao n.1 with
   |true=>rfl
   |false =>
    simp only[cond_false,CF,cond_true];rw[Ac K n (i:Int) R I];simp only[BK];have z:ax (di (aa.others n) (i:Int))/\(di (aa.others n) (i:Int)).length<=1048576:=by
     rcases mU (l:=aa.others n) (s:=(i:Int)) with e|⟨x,X,_,e⟩
     ·rw[e];exact⟨⟨by simp,List.Pairwise.nil⟩,by simp⟩
     ·rw[e];exact h.table x X
    rw[uU K _ z.2 I z.1];simp only[BK];rw[xA (by omega) (by omega)];have hw:=λto=>uV K n 6 to M
    have u:∀ to,to=iZ n (i:Int) d->((Q101.f K (n,6,to,())).bind λO=>bif decide ((BL r+BL ([(2,O.1.1.2)]))*104<=ak) then (rec (r++([(2,O.1.1.2)]),(2:Int),((i+1:Nat):Int))) else none)=rec (r++[wanW n d (i:Int)],(2:Int),((i+1:Nat):Int)):=by
     intro to J;rw[hw to,J];simp only[BK];rw[szw _ _ _ (by omega) (by simp;omega)];rfl
    by_cases y:dJ (di (aa.others n) (i:Int))=[]
    ·rw[y];refine u _ ?_;rw[iZ,y];rfl
    ·have hl:0<(dJ (di (aa.others n) (i:Int))).length:=Cb.2 y;rw[decide_eq_true (by omega:((dJ (di (aa.others n) (i:Int))).length:Int)>0)];simp only[cond_true];cases H:aR .i64 d 4==0 with
     |false =>
      refine u _ ?_;rw[iZ,H,DI];rfl
     |true =>
      simp only[cond_true];rw[decide_eq_false (by omega:¬ ((dJ (di (aa.others n) (i:Int))).length:Int)=0),(eL y).1,(eL y).2.1];simp only[cond_false,BK];refine u _ ?_;rw[iZ,H,decide_eq_true y];rfl
  ·intro rec r ha;simp only[Q107.s0];rfl
def m9 (n:aa)(f:ag):Bool:=f.2.2.1 != 4&&f.1 != n.1
def ce (n:aa):List Int:=((aa.table n).filter (m9 n)).map (·.1)
def na (n:aa)(to:Int):List aq:=match aa.others n with
 |[]=>[]
 |x::_=>[(1,6,n.1,to,0,n.1,aa.coord n,x.2)]
def eY (n:aa)(r:Int):List aq :=
 bif aR .i64 r 3==1 then it n (CB r (2 ^ 2)) else
 bif aR .i64 r 3==3||decide (ce n=[]) then [] else
 bif aR .i64 r 3==0 then [nS 4 n (gO (ce n) (CB r (2 ^ 2)))] else na n (gO (ce n) (CB r (2 ^ 2)))
theorem and3 (a:Int):aR .i64 a 3=0\/aR .i64 a 3=1\/aR .i64 a 3=2\/aR .i64 a 3=3:=by
 obtain⟨u,r⟩:=lN (a:=a) (m:=3) (by omega);have u:0<=aR .i64 a 3:=u;have r:aR .i64 a 3<=3:=r;omega
theorem xB {n:aa}(r:ax (aa.table n)){v:Int}(y:v∈ce n):0<=v:=by
 obtain⟨f,u,rfl⟩:=B7.1 y;exact (r.1 f (BR.1 u).1).1.1
theorem Bi (K:Nat)(n:aa)(d:Int)(J:(aa.table n).length<=1048576)(I:1048577<K):Q205.f K (n,d,())=some ((bif decide (ce n=[]) then -1 else gO (ce n) d,()),()):=by
 refine (pD (step:=λrec a=>Q205.s0 K (n,d,()) rec a) (aa.table n) (m9 n) (λf=>f.1) (λy=>some ((bif decide (y=[]) then -1 else gO y d,()),())) ?_ ?_ (by omega)).trans rfl
 ·intro rec r i z M;simp only[Q205.s0];rw[show decide ((i:Int)<(BL n.2.2.2.2.2.2.2.2.1:Int))=true from bk (by omega:(i:Int)<(BL (aa.table n):Int)),show idx n.2.2.2.2.2.2.2.2.1 (i:Int)=some (aa.table n)[i] from af z,ar i (by omega)];simp only[cond_true,BK,m9];rw[szb _ _ _ (by omega) (by simp;omega)];cases (aa.table n)[i].1 != n.1 <;> cases (aa.table n)[i].2.2.1 != 4 <;> rfl
 ·intro rec r _;simp only[Q205.s0];rw[show decide ((BL (aa.table n):Int)<(BL n.2.2.2.2.2.2.2.2.1:Int))=false from aP _];simp only[cond_false];by_cases u:r=[]
  ·subst u;rfl
  ·have H:0<r.length:=Cb.2 u;rw[show ((r.length:Int)==0)=false by simp;exact u,decide_eq_false (by omega:¬ (r.length:Int)=0),decide_eq_false u,(eL u).1,(eL u).2.1];rfl
theorem xC (K:Nat)(n:aa)(r:Int)(h:ia n)(J:ax (aa.table n))(H:(aa.table n).length<=1048576)(I:1048577<K):Q210.f K (n,r,())=some ((eY n r,()),()):=by
 simp only[Q210.f];rw[Bi K n _ H I];simp only[BK];rw[wan_s K n _ h H I];simp only[BK,eY];by_cases u:ce n=[]
 ·rw[decide_eq_true u];simp only[cond_true,DY,show decide ((-1:Int)>=0)=false from rfl,cond_false];rcases and3 r with e|e|e|e <;> rw[e] <;> rfl
 ·have O:=xB J (eL (d:=CB r (2 ^ 2)) u).2.2;rw[decide_eq_false u];simp only[cond_false,Bool.or_false];rw[decide_eq_true (by omega:gO (ce n) (CB r (2 ^ 2))>=0)];simp only[cond_true];rw[show Q156.f K (n,4,gO (ce n) (CB r (2 ^ 2)),0,n.1,n.2.2.2.2.2.2.2.2.1,())=_ from nT K n 4 _ H];simp only[BK];rcases and3 r with e|e|e|e
  ·rw[e];rfl
  ·rw[e];rfl
  ·rw[e];simp only[show ((2:Int)==0)=false from rfl,show ((2:Int)==1)=false from rfl,show ((2:Int)==2)=true from rfl,show ((2:Int)==3)=false from rfl,cond_false,cond_true];unfold na
   match y:aa.others n with
   |[] =>
    rw[show decide ((BL n.2.2.2.2.2.2.2.2.2.2.2.2.2.2:Int)>0)=false by show decide (((aa.others n).length:Int)>0)=false;rw[y];rfl];rfl
   |[x] =>
    have M:=h.table x (by rw[y];simp);have z:(aa.others n).length=1:=by rw[y];rfl
    rw[show decide ((BL n.2.2.2.2.2.2.2.2.2.2.2.2.2.2:Int)>0)=true by show decide (((aa.others n).length:Int)>0)=true;rw[z];rfl,show decide ((BL n.2.2.2.2.2.2.2.2.2.2.2.2.2.2:Int)=0)=false by show decide (((aa.others n).length:Int)=0)=false;rw[z];rfl];simp only[cond_true,cond_false];rw[show idx n.2.2.2.2.2.2.2.2.2.2.2.2.2.2 (CN (aR .i64 (CB r (2 ^ 10)) 255) (BL n.2.2.2.2.2.2.2.2.2.2.2.2.2.2:Int))=some x by
     show idx (aa.others n) (CN (aR .i64 (CB r (2 ^ 10)) 255) ((aa.others n).length:Int))=some x;rw[z,y,show ((1:Nat):Int)=1 from rfl,Int.tmod_one];rfl]
    simp only[BK,Q156.f];rw[szb _ _ _ (by omega) (by have:=M.2;simp;omega)];rfl
   |_::_::_=>exact absurd h.short (by rw[y];simp)
  ·rw[e];rfl
theorem An (K:Nat)(n:aa)(r:Int)(M:NB n)(h:ia n)(R:ax (aa.table n))(J:1048577<K):Q109.f K (n,r,())=some ((eY n r,()),()):=by
 have I:=M.table;simp only[Q109.f,zcp4];rw[zd K n _ M h R J];simp only[BK,eY];cases aR .i64 r 3==1 with
 |true=>rfl
 |false =>
  simp only[cond_false];rw[show Q77.f K (n.2.2.2.2.2.2.2.2.1,(λX=>(Q108.f K (X.1,n,())).map λy=>y.1.1),())=_ from qx K (aa.table n) _ (m9 n) I J (λf _=>by
   simp only[Q108.f,m9];cases f.2.2.1 != 4 <;> cases f.1 != n.1 <;> rfl)]
  simp only[BK];show (bif aR .i64 r 3==3 then some (([],()),()) else (bif ((ce n).length:Int)==0 then _ else _))=_;cases aR .i64 r 3==3 with
  |true=>rfl
  |false =>
   simp only[cond_false,Cx];by_cases u:ce n=[]
   ·rw[decide_eq_true u,show (((ce n).length:Int)==0)=true by rw[u];rfl];rfl
   ·have Y:0<(ce n).length:=Cb.2 u;rw[decide_eq_false u,show (((ce n).length:Int)==0)=false by simp;exact u];simp only[cond_false];show (bif decide (((ce n).length:Int)=0) then none else ((idx (ce n) (CN (aR .i64 (CB r (2 ^ 2)) 255) ((ce n).length:Int))).bind λ_=>(idx (ce n) ((BN (CN (aR .i64 (CB r (2 ^ 2)) 255) ((ce n).length:Int)):Nat):Int)).bind λZ=>_))=_;rw[decide_eq_false (by omega:¬ ((ce n).length:Int)=0),(eL u).1,(eL u).2.1];simp only[cond_false,BK];cases aR .i64 r 3==0 with
    |true =>
     simp only[cond_true];rw[uV K n 4 _ I];rfl
    |false =>
     simp only[cond_false,Q81.f,BK,Q0.f];unfold na
     match H:aa.others n with
     |[] =>
      rw[show ((BL n.2.2.2.2.2.2.2.2.2.2.2.2.2.2:Int)==0)=true by show (((aa.others n).length:Int)==0)=true;rw[H];rfl];rfl
     |[x] =>
      have O:=h.table x (by rw[H];simp);have z:(aa.others n).length=1:=by rw[H];rfl
      rw[show ((BL n.2.2.2.2.2.2.2.2.2.2.2.2.2.2:Int)==0)=false by show (((aa.others n).length:Int)==0)=false;rw[z];rfl,show decide ((BL n.2.2.2.2.2.2.2.2.2.2.2.2.2.2:Int)=0)=false by show decide (((aa.others n).length:Int)=0)=false;rw[z];rfl];simp only[cond_false];rw[show idx n.2.2.2.2.2.2.2.2.2.2.2.2.2.2 (CN (aR .i64 (CB (CB r (2 ^ 2)) (2 ^ 10)) 255) (BL n.2.2.2.2.2.2.2.2.2.2.2.2.2.2:Int))=some x by
       show idx (aa.others n) (CN (aR .i64 (CB (CB r (2 ^ 2)) (2 ^ 10)) 255) ((aa.others n).length:Int))=some x;rw[z,H,show ((1:Nat):Int)=1 from rfl,Int.tmod_one];rfl]
      simp only[BK];rw[dY (by have:=O.2;omega)];rfl
     |_::_::_=>exact absurd h.short (by rw[H];simp)
def rk (f:ag):Int:=f.2.1*16+f.2.2.1*2+(if f.2.2.2=true then 1 else 0)
theorem qB {f g:ag}(r:bA f)(u:bA g):bR f g<->rk g<rk f:=by
 obtain⟨_,_,y,I⟩:=r;obtain⟨_,_,z,H⟩:=u;unfold bR rk;by_cases a:f.2.1=g.2.1
 ·rw[if_neg (by simpa using a)];by_cases c:f.2.2.1=g.2.2.1
  ·rw[if_neg (by simpa using c),a,c];cases f.2.2.2 <;> cases g.2.2.2 <;> simp <;> omega
  ·rw[if_pos c];cases f.2.2.2 <;> cases g.2.2.2 <;> simp <;> omega
 ·rw[if_pos a];cases f.2.2.2 <;> cases g.2.2.2 <;> simp <;> omega
theorem ol {t:List ag}(z:Asc (λg:ag=>g.1) t)(f:ag):bS t f=(t,false)\/(bS t f=(bE (λg=>g.1) f t,true)/\∀ g∈t,g.1=f.1->bR f g):=by
 by_cases h:∃ g∈t,g.1=f.1
 ·obtain⟨g,r,e⟩:=h;obtain⟨i,J,rfl⟩:=BS r;rw[kx z J e];by_cases u:bR f t[i]
  ·rw[if_pos u];refine .inr ⟨rfl,λM y I=>?_⟩;rw[gw z y r (by rw[e,I])];exact u
  ·rw[if_neg u];exact .inl rfl
 ·have H:∀ g∈t,g.1≠f.1:=λg r e=>h ⟨g,r,e⟩
  exact .inr ⟨ip H,λg r e=>absurd e (H g r)⟩
theorem om {n:aa}(X:ax (aa.table n)):iG n<->(∀ d∈aa.doubts n,lI n d)/\Asc (λd:bB=>d.1) (aa.doubts n)/\∀ f∈aa.table n,f.2.2.1=2->∃ d∈aa.doubts n,d.1=f.1:=by
 have M:((aV (aa.table n)).map (λf:ag=>f.1)).Pairwise (·<·):=by
  rw[CD];exact Cj _ X.2
 constructor
 ·rintro⟨h1,h2,h3⟩;refine⟨h1,h2,λf I u=>?_⟩;have r:((aa.doubts n).map (λd:bB=>d.1)).Pairwise (·<·):=by rw[CD];exact h2
  have:=(jj _ _ r M (λx y=>by
   obtain⟨d,r,rfl⟩:=B7.1 y;obtain⟨⟨g,H,e,J,_⟩,_⟩:=h1 d r;exact B7.2 ⟨g,BR.2 ⟨H,by simpa using J⟩,e⟩)).2 (by rw[BY,BY,h3])
  have O:f.1∈(aV (aa.table n)).map (λf:ag=>f.1):=B7.2 ⟨f,BR.2 ⟨I,by simpa using u⟩,rfl⟩;rw[<- this]at O;obtain⟨d,r,e⟩:=B7.1 O;exact⟨d,r,e⟩
 ·rintro⟨h1,h2,h3⟩;refine⟨h1,h2,?_⟩;have r:((aa.doubts n).map (λd:bB=>d.1)).Pairwise (·<·):=by rw[CD];exact h2
  have R:=(jj _ _ r M (λx y=>by
   obtain⟨d,r,rfl⟩:=B7.1 y;obtain⟨⟨g,H,e,J,_⟩,_⟩:=h1 d r;exact B7.2 ⟨g,BR.2 ⟨H,by simpa using J⟩,e⟩)).1
  have Y:=(jj _ _ M r (λx y=>by
   obtain⟨f,I,rfl⟩:=B7.1 y;obtain⟨z,u⟩:=BR.1 I;obtain⟨d,r,e⟩:=h3 f z (by simpa using u);exact B7.2 ⟨d,r,e⟩)).1
  rw[BY,BY]at R Y;omega
def aU (n:aa):Int:=n.2.2.2.2.2.1
def fh (n:aa)(b:Int):Prop:=InP b 0 7/\ao b=ao n.1
theorem lk {n:aa}(u:Asc (λg:ag=>g.1) (aa.table n))(f:ag)(b:Int):sayOf n f b=n \/
  (sayOf n f b=iV n (bE (λg=>g.1) f (aa.table n)) (dp (aa.cast n) f) (bif kf n f then aa.doubts n else cM (aU n) (aa.doubts n) f b)/\∀ g∈aa.table n,g.1=f.1->bR f g):=by
 rcases ol u f with h|⟨h,r⟩
 ·left;unfold sayOf;rw[h];rfl
 ·right;refine⟨?_,r⟩;unfold sayOf;rw[h];rfl
theorem vU {n:aa}{f:ag}{b:Int}(O:ax (aa.table n))(hD:iG n)(hf:bA f)(hb:fh n b)(hn:0<=aU n)(c:List aM) :
  iG (iV n (bE (λg=>g.1) f (aa.table n)) c (bif kf n f then aa.doubts n else cM (aU n) (aa.doubts n) f b)):=by
 obtain⟨h1,h2,h3⟩:=(om O).1 hD;have Z:ax (bE (λg:ag=>g.1) f (aa.table n)):=⟨λg y=>by
  rcases aZ.1 y with rfl|⟨y,_⟩
  ·exact hf
  ·exact O.1 g y,fk O.2⟩
 refine (om (n:=iV n _ c _) Z).2 ?_;have I:∀ d∈aa.doubts n,d.1≠f.1->∀ ds,lI (iV n (bE (λg:ag=>g.1) f (aa.table n)) c ds) d:=λd z u ds=>by
  obtain⟨⟨g,y,Y,X,R⟩,r⟩:=h1 d z;exact⟨⟨g,aZ.2 (.inr ⟨y,by rw[Y];exact u⟩),Y,X,R⟩,r⟩
 have J:∀ g∈bE (λg:ag=>g.1) f (aa.table n),g.1≠f.1->g.2.2.1=2->∃ d∈aa.doubts n,d.1=g.1:=λg y u h=>by
  rcases aZ.1 y with rfl|⟨y,_⟩
  ·exact absurd rfl u
  ·exact h3 g y h
 cases hs:kf n f with
 |true =>
  obtain⟨g0,M,s1,s2,s3⟩:=of_decide_eq_true hs;refine⟨λd z=>?_,h2,λg y h=>?_⟩
  ·by_cases u:d.1=f.1
   ·obtain⟨⟨g,y,Y,X,R⟩,r⟩:=h1 d z;rw[gw O.2 y M (by rw[Y,s1,u])]at X R;exact⟨⟨f,aZ.2 (.inl rfl),u.symm,by rw[<- s3];exact X,by rw[<- s2];exact R⟩,r⟩
   ·exact I d z u _
  ·by_cases u:g.1=f.1
   ·have a0:g=f:=by
     rcases aZ.1 y with h|⟨_,h⟩
     ·exact h
     ·exact absurd u h
    rw[a0]at h ⊢;obtain⟨d,z,e⟩:=h3 g0 M (by rw[s3];exact h);exact⟨d,z,by rw[e,s1]⟩
   ·exact J g y u h
 |false =>
  by_cases H:f.2.2.1=2
  ·have e:cM (aU n) (aa.doubts n) f b=bE (λd=>d.1) (mkD (aU n) f b) (aa.doubts n):=by unfold cM;rw[if_pos H]
   simp only[cond_false];rw[e];refine⟨λd z=>?_,fk h2,λg y h=>?_⟩
   ·rcases aZ.1 z with rfl|⟨z,u⟩
    ·exact⟨⟨f,aZ.2 (.inl rfl),rfl,H,rfl⟩,⟨hn,CQ _⟩,List.cons_ne_nil _ _,λx hx=>by rw[CK.1 hx];exact hb,C9 _ _⟩
    ·exact I d z u _
   ·by_cases u:g.1=f.1
    ·exact⟨mkD (aU n) f b,aZ.2 (.inl rfl),u.symm⟩
    ·obtain⟨d,z,e⟩:=J g y u h;exact⟨d,aZ.2 (.inr ⟨z,λe'=>u (e.symm.trans e')⟩),e⟩
  ·have e:cM (aU n) (aa.doubts n) f b=(aa.doubts n).filter (λd=>!(d.1==f.1)):=by unfold cM;rw[if_neg H]
   simp only[cond_false];rw[e];refine⟨λd z=>?_,mg h2 _,λg y h=>?_⟩
   ·obtain⟨z,u⟩:=BR.1 z;exact I d z (by simpa using u) _
   ·have u:g.1≠f.1:=λu=>by
     rcases aZ.1 y with h'|⟨_,h'⟩
     ·rw[h']at h;exact H h
     ·exact h' u
    obtain⟨d,z,e⟩:=J g y u h;exact⟨d,BR.2 ⟨z,by rw[e];simpa using u⟩,e⟩
theorem vV {n:aa}{f:ag}(R:ax (aa.table n))(X:cQ (aa.cast n))(Y:gZ (aa.table n) (aa.cast n))(M:bA f)(O:∀ g∈aa.table n,g.1=f.1->bR f g) :
  gZ (bE (λg=>g.1) f (aa.table n)) (dp (aa.cast n) f):=by
 have y:∀ x∈aa.cast n,∃ g∈bE (λg:ag=>g.1) f (aa.table n),g.1=x.1.1/\¬ bR x.1 g:=λx r=>by
  obtain⟨g,J,e,I⟩:=Y x r;by_cases u:g.1=f.1
  ·refine⟨f,aZ.2 (.inl rfl),by rw[<- e,u],λh=>I ?_⟩;have H:=(X.1 x r).1;have z:=R.1 g J;have:=O g J u;rw[qB M z]at this;rw[qB H M]at h;rw[qB H z];omega
  ·exact⟨g,aZ.2 (.inr ⟨J,u⟩),e,I⟩
 intro x r;unfold dp at r;split at r
 ·exact y x r
 ·rcases aZ.1 r with rfl|⟨r,_⟩
  ·exact⟨f,aZ.2 (.inl rfl),rfl,xz f⟩
  ·exact y x r
structure UpX (n:aa):Prop where
 me:InP n.1 0 7
 now0:0<=aU n
 table:ax (aa.table n)
 site:cf (aa.table n) (ao n.1)
 cast:cQ (aa.cast n)
 vs:gZ (aa.table n) (aa.cast n)
 probe:cW n
 doubts:iG n
 coord:cD (aa.coord n)
 places:ey n.1 (aa.places n)
 others:c8 n.1 (aa.others n)
theorem UpX.of {n:aa}(h:UpP n)(O:InP n.1 0 7)(M:0<=aU n):UpX n:=by
 obtain⟨I,R,_,⟨J,X⟩,z,H,u,y,r⟩:=h;exact⟨O,M,I,R,J,X,z,H,u,y,r⟩
theorem UpX.up {n:aa}(h:UpX n)(r:cK n):UpP n:=⟨h.table,h.site,r,⟨h.cast,h.vs⟩,h.probe,h.doubts,h.coord,h.places,h.others⟩
theorem UpX.say {n:aa}(h:UpX n):b8 n:=by
 refine b8.mk' h.table h.cast h.doubts.2.1 λd r=>?_
 obtain⟨f,u,e,_⟩:=(h.doubts.1 d r).1;rw[<- e];exact (h.table.1 f u).1
theorem fh.me {n:aa}(h:InP n.1 0 7):fh n n.1:=⟨h,rfl⟩
theorem rh {n m:aa}(h:cW n)(O:m.1=n.1)(M:aa.probe m=aa.probe n)(H:∀ g∈aa.table n,∃ y∈aa.table m,y.1=g.1)(hn:aU n<=aU m)(X:n.2.2.2.2.2.2.1<=m.2.2.2.2.2.2.1):cW m:=by
 unfold cW at h ⊢;rw[M,O];split at h
 ·rename_i r;rw[if_pos r];exact h
 ·rename_i r;rw[if_neg r];obtain⟨J,⟨g,I,Y⟩,⟨p2,Z⟩,⟨z,R⟩⟩:=h;obtain⟨y,u,e'⟩:=H g I;exact⟨J,⟨y,u,e'.trans Y⟩,⟨p2,Cz Z hn⟩,⟨z,Cz R X⟩⟩
theorem UpX.said {n:aa}{f:ag}{b:Int}(h:UpX n)(u:bA f)(H:ao f.1=ao n.1)(I:fh n b):UpX (sayOf n f b):=by
 rcases lk h.table.2 f b with e|⟨e,z⟩
 ·rw[e];exact h
 ·have y:=λg r=>iK (n:=n) (f:=f) (b:=b) (g:=g) r
  rw[e]at y ⊢;refine⟨h.me,h.now0,⟨λg r=>?_,fk h.table.2⟩,λg r=>?_,pJ h.cast u,vV h.table h.cast h.vs u z,rh h.probe rfl rfl y (CQ _) (CQ _),vU h.table h.doubts u I h.now0 _,h.coord,h.places,h.others⟩
  ·rcases aZ.1 r with rfl|⟨r,_⟩
   ·exact u
   ·exact h.table.1 g r
  ·rcases aZ.1 r with rfl|⟨r,_⟩
   ·exact H
   ·exact h.site g r
theorem xD {n:aa}(u:Asc (λg:ag=>g.1) (aa.table n)){f g:ag}{b:Int}(r:g.1≠f.1):g∈aa.table (sayOf n f b)<->g∈aa.table n:=by
 rcases lk u f b with e|⟨e,_⟩
 ·rw[e]
 ·rw[e];exact aZ.trans ⟨λh=>h.elim (λh=>absurd (by rw[h]) r) (·.1),λh=>.inr ⟨h,r⟩⟩
theorem ri {n:aa}(y:Asc (λg:ag=>g.1) (aa.table n)){f:ag}{b:Int}(h:∀ g∈aa.table n,g.1=f.1->bR f g):f∈aa.table (sayOf n f b):=by
 have H:bS (aa.table n) f=(bE (λg=>g.1) f (aa.table n),true):=by
  rcases ol y f with e|⟨e,_⟩
  ·by_cases u:∃ g∈aa.table n,g.1=f.1
   ·obtain⟨g,r,z⟩:=u;obtain⟨i,I,rfl⟩:=BS r;rw[kx y I z,if_pos (h _ r z)]
   ·exact ip λg r e=>u ⟨g,r,e⟩
  ·exact e
 unfold Go.Proofs.YtaegajachoklkaaGreatEv.sayOf;rw[H];exact aZ.2 (.inl rfl)
def OnN (n m:aa):Prop:=∃ t c r,m=iV n t c r
theorem OnN.refl (n:aa):OnN n n:=⟨_,_,_,rfl⟩
theorem OnN.say {n m:aa}(h:OnN n m)(f:ag)(b:Int):OnN n (Go.Proofs.YtaegajachoklkaaGreatEv.sayOf m f b):=by
 obtain⟨t,c,u,rfl⟩:=h;obtain⟨y,z,r,e,_⟩:=iJ (iV n t c u) f b;exact⟨y,z,r,e⟩
def mn (n:aa):ag:=(n.1,n.2.2.2.2.1,(if n.2.2.1=true then 4 else 1),n.2.2.2.1)
theorem mo {n m:aa}(I:Asc (λg:ag=>g.1) (aa.table m))(u:OnN n m){f:ag}{b:Int}(r:f.1≠n.1)(h:cK m):cK (sayOf m f b):=by
 obtain⟨t,c,M,e⟩:=u.say f b;obtain⟨O,R,z,J⟩:=u;have H:mn n∈aa.table m:=by rw[J]at h ⊢;exact h
 have y:=(xD I (f:=f) (b:=b) (g:=mn n) (λh=>r h.symm)).2 H;rw[e]at y ⊢;exact y
theorem tj {n:aa}(h:UpX n)(z:cK n){d:bB}(u:d∈aa.doubts n):d.1≠n.1:=by
 obtain⟨⟨g,I,e,r,_⟩,_⟩:=h.doubts.1 d u;intro H;have y:mn n∈aa.table n:=z;have:=gw h.table.2 I y (by rw[e,H];rfl);rw[this]at r;revert r;show (if n.2.2.1=true then (4:Int) else 1)=2->False;split <;> omega
theorem kU {n:aa}(h:UpX n)(hs:cK n):UpX (dA n)/\cK (dA n)/\OnN n (dA n):=by
 have:=jm (st:=cN) (Inv:=λm=>(UpX m/\cK m/\OnN n m)/\∀ g∈aa.table n,∃ Y∈aa.table m,Y.1=g.1) (ds:=aa.doubts n) (n:=n) ⟨⟨h,hs,OnN.refl n⟩,λg y=>⟨g,y,rfl⟩⟩ ?_
 ·exact this.1
 ·rintro m d Z ⟨⟨r,u,z⟩,H⟩;have O:=tj h hs Z;unfold cN;cases gV m.2.2.2.2.2.1 d.2.2.1 d.2.2.2.length with
  |false=>exact⟨⟨r,u,z⟩,H⟩
  |true =>
   obtain⟨⟨g,y,e,_⟩,_⟩:=h.doubts.1 d Z;obtain⟨Y,X,e'⟩:=H g y;obtain⟨h1,h2,h3⟩:=cE r.table ⟨Y,X,e'.trans e⟩;have M:ao (ff (aC (aa.table m) d.1)).1=ao m.1:=by
    show ao (aC (aa.table m) d.1).1=ao m.1;exact r.site _ h3
   have R:(ff (aC (aa.table m) d.1)).1≠n.1:=by rw[show (ff (aC (aa.table m) d.1)).1=_ from h2];exact O
   refine⟨⟨r.said (lL h1) M (fh.me r.me),mo r.table.2 z R u,z.say _ _⟩,λg y=>?_⟩;obtain⟨g1,I,e1⟩:=H g y;obtain⟨g2,J,e2⟩:=iK (f:=ff (aC (aa.table m) d.1)) (b:=m.1) I;exact⟨g2,J,e2.trans e1⟩
theorem UpX.setProbe {n:aa}(h:UpX n){p:ag}(r:cW (setP n p)):UpX (setP n p):=⟨h.me,h.now0,h.table,h.site,h.cast,h.vs,r,h.doubts,h.coord,h.places,h.others⟩
theorem xE (n:aa):cW (setP n noP):=by
 unfold cW;exact (if_pos rfl).mpr rfl
theorem xF {n:aa}(h:UpX n)(H:cK n):UpX (a8 n).1/\cK (a8 n).1/\∃ p,OnN (setP n p) (a8 n).1:=by
 have r:UpX n/\cK n/\∃ p,OnN (setP n p) n:=⟨h,H,aa.probe n,OnN.refl n⟩;have y:UpX (setP n noP):=h.setProbe (xE n);unfold a8;cases M:(aa.probe n).1==-1 with
 |true=>exact r
 |false =>
  have z:(aa.probe n).1≠-1:=by simpa using M
  have u:=h.probe;unfold cW at u;rw[if_neg z]at u;simp only[cond_false];cases J:cL (aC (aa.table n) (aa.probe n).1) with
  |false=>exact⟨y,H,_,OnN.refl _⟩
  |true =>
   obtain⟨X,R,O⟩:=cE h.table (eo J);simp only[BT,cond_false];cases decide (n.2.2.2.2.2.1-(aa.probe n).2.1>=4) with
   |true =>
    simp only[cond_true];cases (aC (aa.table n) (aa.probe n).1).2.2.1==1 with
    |true =>
     have I:ao (mh (aC (aa.table n) (aa.probe n).1)).1=ao (setP n noP).1:=by
      show ao (aC (aa.table n) (aa.probe n).1).1=ao n.1;exact h.site _ O
     refine⟨y.said (qy X) I (fh.me (n:=setP n noP) h.me),mo (n:=setP n noP) (m:=setP n noP) h.table.2 (OnN.refl (setP n noP)) ?_ H,noP,(OnN.refl (setP n noP)).say _ _⟩;rw[show (mh (aC (aa.table n) (aa.probe n).1)).1=_ from R];exact u.1
    |false=>exact⟨y,H,_,OnN.refl _⟩
   |false =>
    simp only[cond_false];cases decide (n.2.2.2.2.2.1-(aa.probe n).2.1>=2) with
    |false=>exact r
    |true =>
     simp only[cond_true];cases (aa.probe n).2.2.2 with
     |true=>exact r
     |false =>
      refine⟨h.setProbe ?_,H,_,OnN.refl _⟩;show cW (jO n);unfold cW;rw[if_neg (show ¬ (aa.probe (jO n)).1=-1 from z)];exact u
def hX (n:aa):Option Int:=((List.range 8).map (bh n)).find? λx=>x != n.1&&cL (aC (aa.table n) x)
def jp (n:aa):Int:=n.2.2.2.2.2.2.1
def dM (n:aa):aa×List aq:=bif decide (jp n>=999999) then (n,[]) else match hX n with
 |some to=>(qA n to,[sj n to])
 |none=>(n,[])
theorem rj {n:aa}{to:Int}(h:hX n=some to):to≠n.1/\cL (aC (aa.table n) to)=true:=by
 have:=DD h;simpa using this
theorem xG {l:List aM}{T:List Int}{x:aM}(h:x∈dx l T l.length):∃ y∈l,x.1=y.1:=by
 unfold dx at h;obtain⟨u,_⟩:=BR.1 h;obtain⟨i,r,rfl⟩:=BS u;rw[eK]at r;rw[fm l T r];refine⟨l[i],BM r,?_⟩;unfold dL;rw[cn r];cases decide ((i:Int)∈T) <;> rfl
theorem UpX.way {n:aa}(h:UpX n):UpX (is n):=⟨h.me,h.now0,h.table,h.site,th h.cast _,λx r=>by
 obtain⟨y,z,e⟩:=xG r;obtain⟨g,I,H,u⟩:=h.vs y z;exact⟨g,I,by rw[e,H],by rw[e];exact u⟩,h.probe,h.doubts,h.coord,h.places,h.others⟩
structure tk (n:aa):Prop where
 seq:InP (jp n) 0 999999
 turn:InP n.2.2.2.2.2.2.2.1 0 8
theorem Bj {n:aa}(h:UpX n)(y:cK n)(u:tk n):UpX (dM n).1/\cK (dM n).1/\tk (dM n).1/\(dM n).1.1=n.1/\aU (dM n).1=aU n/\(dM n).1.2.2.2.2.1=n.2.2.2.2.1:=by
 unfold dM;by_cases H:jp n>=999999
 ·rw[decide_eq_true H];exact⟨h,y,u,rfl,rfl,rfl⟩
 ·rw[decide_eq_false H];simp only[cond_false];cases R:hX n with
  |none=>exact⟨h,y,u,rfl,rfl,rfl⟩
  |some to =>
   obtain⟨z,M⟩:=rj R;obtain⟨O,I,X⟩:=cE h.table (eo M);obtain⟨⟨Y,Z⟩,_⟩:=u;have r:InP to 0 7:=I ▸ O.1;have J:=h.way;refine⟨⟨h.me,h.now0,h.table,h.site,J.cast,J.vs,?_,h.doubts,h.coord,h.places,h.others⟩,y,⟨⟨show 0<=jp n+1 by omega,show jp n+1<=999999 by omega⟩,show 0<=to+1 by have:=r.1;omega,show to+1<=8 by have:=r.2;omega⟩,rfl,rfl,rfl⟩;show cW (qA n to);unfold cW;rw[if_neg (show ¬ (aa.probe (qA n to)).1=-1 by have:=r.1;show ¬ to=-1;omega)];exact⟨z,⟨_,X,I⟩,⟨h.now0,CQ _⟩,show 1<=jp n+1 by omega,CQ _⟩
def cX (n:aa):aa:=(n.1,n.2.1,n.2.2.1,n.2.2.2.1,n.2.2.2.2.1,n.2.2.2.2.2.1+1,n.2.2.2.2.2.2)
def dQ (m:aa):aa×List aq:=bif (aa.probe m).1==-1 then dM m else (m,[])
def fp (n:aa):aa×List aq:=a8 (dA (cX n))
def ge (n:aa):aa:=(dQ (fp n).1).1
def mp (n:aa)(r:Int):List aq:=(fp n).2++(dQ (fp n).1).2++eY (ge n) r
theorem UpX.later {n:aa}(h:UpX n):UpX (cX n):=by
 have J:aU (cX n)=aU n+1:=rfl;have M:=h.now0;refine⟨h.me,by omega,h.table,h.site,h.cast,h.vs,rh h.probe rfl rfl (λg I=>⟨g,I,rfl⟩) (by omega) (CQ _),⟨λd r=>?_,h.doubts.2⟩,h.coord,h.places,h.others⟩;obtain⟨u,⟨H,y⟩,z⟩:=h.doubts.1 d r;exact⟨u,⟨H,Cz y (show aU n<=aU (cX n) by omega)⟩,z⟩
structure UpN (n:aa):Prop where
 x:UpX n
 self:cK n
 now1:aU n<=999999
 seq:tk n
 inc:InP n.2.2.2.2.1 0 999
 up:n.2.1=true
theorem UpN.of {n:aa}(h:gb n)(u:n.2.1=true):UpN n:=by
 obtain⟨J,y,z,H,I,r⟩:=h;rw[if_pos u]at r;exact⟨UpX.of r J y.1,r.2.2.1,y.2,⟨z,H⟩,I,u⟩
theorem UpN.ok {n:aa}(h:UpN n):gb n:=⟨h.x.me,⟨h.x.now0,h.now1⟩,h.seq.seq,h.seq.turn,h.inc,by rw[if_pos h.up];exact h.x.up h.self⟩
theorem pN {n:aa}(h:UpN n)(Y:aU n<999999):UpN (fp n).1/\(fp n).1.1=n.1/\(fp n).1.2.2.1=n.2.2.1:=by
 have J:cK (cX n):=h.self;obtain⟨M,u,r⟩:=kU h.x.later J;obtain⟨z,H,p,R⟩:=xF M u;obtain⟨t,c,X,O⟩:=r;obtain⟨Z,c',I,y⟩:=R;have e:(fp n).1=_:=y;rw[O]at e;refine⟨⟨z,H,?_,⟨?_,?_⟩,?_,?_⟩,?_,?_⟩
 ·show aU (fp n).1<=999999;rw[e];show aU n+1<=999999;omega
 ·show InP (jp (fp n).1) 0 999999;rw[e];exact h.seq.seq
 ·show InP (fp n).1.2.2.2.2.2.2.2.1 0 8;rw[e];exact h.seq.turn
 ·show InP (fp n).1.2.2.2.2.1 0 999;rw[e];exact h.inc
 ·show (fp n).1.2.1=true;rw[e];exact h.up
 ·rw[e];rfl
 ·rw[e];rfl
theorem tm {m:aa}:(dM m).1.2.1=m.2.1/\(dM m).1.2.2.1=m.2.2.1:=by
 unfold dM;cases decide (jp m>=999999) with
 |true=>exact⟨rfl,rfl⟩
 |false =>
  cases hX m with
  |none=>exact⟨rfl,rfl⟩
  |some to=>exact⟨rfl,rfl⟩
theorem vW {m:aa}(h:UpN m):UpN (dQ m).1/\(dQ m).1.1=m.1/\(dQ m).1.2.2.1=m.2.2.1:=by
 unfold dQ;cases (aa.probe m).1==-1 with
 |false=>exact⟨h,rfl,rfl⟩
 |true =>
  obtain⟨r,H,z,u,y,I⟩:=Bj h.x h.self h.seq;refine⟨⟨r,H,?_,z,?_,?_⟩,u,tm.2⟩
  ·show aU (dM m).1<=999999;rw[y];exact h.now1
  ·show InP (dM m).1.2.2.2.2.1 0 999;rw[I];exact h.inc
  ·show (dM m).1.2.1=true;rw[tm.1];exact h.up
theorem nU {n:aa}(h:UpN n)(y:aU n<999999):UpN (ge n)/\(ge n).1=n.1/\(ge n).2.2.1=n.2.2.1:=by
 obtain⟨J,H,u⟩:=pN h y;obtain⟨z,I,r⟩:=vW J;exact⟨z,I.trans H,r.trans u⟩
theorem ze {f g:ag}(h:g.2.1<f.2.1):bR f g:=by
 unfold bR;rw[if_pos (by omega)];exact h
theorem Ao {f g:ag}(h:bR f g):g.2.1<=f.2.1:=by
 unfold bR at h;split at h <;> omega
theorem UpX.inc {n:aa}(h:UpX n)(i:Int):UpX (iq n i):=⟨h.me,h.now0,h.table,h.site,h.cast,h.vs,h.probe,h.doubts,h.coord,h.places,h.others⟩
theorem rl {n:aa}(h:UpX n)(r:cK n){g:ag}(u:g∈aa.table n)(e:g.1=n.1):g=mn n:=gw h.table.2 u r (by rw[e];rfl)
theorem xH {n:aa}(h:UpX n)(r:cK n):aC (aa.table n) n.1=mn n:=jL h.table.2 (f:=mn n) r
theorem zf {n:aa}(h:UpN n)(H:n.2.2.1=false):UpN (mW n)/\(mW n).1=n.1:=by
 have z:bA (n.1,n.2.2.2.2.1,4,n.2.2.2.1):=⟨h.x.me,h.inc,show (1:Int)<=4 by omega,show (4:Int)<=4 by omega⟩;have r:=h.x.said z rfl (fh.me h.x.me);have y:(n.1,n.2.2.2.2.1,(4:Int),n.2.2.2.1)∈aa.table (sayOf n (n.1,n.2.2.2.2.1,4,n.2.2.2.1) n.1):=ri h.x.table.2 λg u e=>by
  rw[rl h.x h.self u e];unfold bR mn;rw[H];simp
 obtain⟨t,c,I,e⟩:=(OnN.refl n).say (n.1,n.2.2.2.2.1,4,n.2.2.2.1) n.1;unfold mW;rw[e]at r y ⊢;exact⟨⟨⟨r.me,r.now0,r.table,r.site,r.cast,r.vs,r.probe,r.doubts,r.coord,r.places,r.others⟩,y,h.now1,⟨h.seq.seq,h.seq.turn⟩,h.inc,h.up⟩,rfl⟩
theorem xI {n:aa}{f:ag}(h:UpN n)(y:n.2.2.1=false)(R:bA f):UpN (fK n f)/\(fK n f).1=n.1/\(fK n f).2.2.1=false:=by
 unfold fK;cases I:decide (bR f (aC (aa.table n) n.1))&&decide (f.2.1<999) with
 |false=>exact⟨h,rfl,y⟩
 |true =>
  rw[CR,decide_eq_true_eq,decide_eq_true_eq,xH h.x h.self]at I;obtain⟨O,M⟩:=I;have J:n.2.2.2.2.1<=f.2.1:=Ao O;have r:=uX (n:=n) h.x.me R M;have z:UpX (sayOf (iq n (f.2.1+1)) (n.1,f.2.1+1,1,n.2.2.2.1) n.1):=(h.x.inc (f.2.1+1)).said r rfl (fh.me (n:=iq n (f.2.1+1)) h.x.me);have H:(n.1,f.2.1+1,(1:Int),n.2.2.2.1)∈aa.table (sayOf (iq n (f.2.1+1)) (n.1,f.2.1+1,1,n.2.2.2.1) n.1):=ri (n:=iq n (f.2.1+1)) h.x.table.2 λg u e=>by
   rw[rl h.x h.self u e];exact ze (show n.2.2.2.2.1<f.2.1+1 by omega)
  obtain⟨t,c,X,e⟩:=(OnN.refl (iq n (f.2.1+1))).say (n.1,f.2.1+1,1,n.2.2.2.1) n.1;simp only[cond_true];rw[show sayOf (iq n (f.2.1+1)) (n.1,f.2.1+1,1,n.2.2.2.1) n.1=iV (iq n (f.2.1+1)) t c X from e]at z H ⊢;refine⟨⟨z,?_,h.now1,⟨h.seq.seq,h.seq.turn⟩,r.2.1,h.up⟩,rfl,y⟩;show (n.1,f.2.1+1,(if n.2.2.1=true then (4:Int) else 1),n.2.2.2.1)∈_;rw[y];exact H
theorem nc (f:ag)(b:Int)(d:bB):(ei f b d).1=d.1/\(ei f b d).2.1=d.2.1/\(ei f b d).2.2.1=d.2.2.1:=by
 unfold ei;cases d.1==f.1&&d.2.1==f.2.1&&f.2.2.1==2 <;> exact⟨rfl,rfl,rfl⟩
theorem UpX.conf {n:aa}(h:UpX n)(f:ag){b:Int}(X:fh n b):UpX (kT n f b):=by
 refine⟨h.me,h.now0,h.table,h.site,h.cast,h.vs,h.probe,⟨λd M=>?_,?_,?_⟩,h.coord,h.places,h.others⟩
 ·obtain⟨r,y,rfl⟩:=B7.1 M;obtain⟨Z,R,H⟩:=nc f b r;obtain⟨⟨g,I,e1,O,J⟩,Y,h3,z⟩:=h.doubts.1 r y;refine⟨⟨g,I,by rw[Z];exact e1,O,by rw[R];exact J⟩,by rw[H];exact Y,?_⟩;unfold ei;cases r.1==f.1&&r.2.1==f.2.1&&f.2.2.1==2 with
  |false=>exact⟨h3,z⟩
  |true =>
   refine⟨List.ne_nil_of_mem (aZ.2 (.inl rfl)),λx u=>?_,fk z.2⟩;rcases aZ.1 u with rfl|⟨u,_⟩
   ·exact X
   ·exact z.1 x u
 ·show Asc _ ((aa.doubts n).map (ei f b));unfold Asc;rw[CD];exact h.doubts.2.1.imp λ {a c} h=>by show (ei f b a).1<(ei f b c).1;rw[(nc f b a).1,(nc f b c).1];exact h
 ·show _=((aa.doubts n).map (ei f b)).length;rw[BY];exact h.doubts.2.2
theorem tn {n:aa}{f:ag}{b:Int}(h:UpN n)(I:n.2.2.1=false)(z:bA f)(J:ao f.1=ao n.1)(H:fh n b):UpN (eq b n f)/\(eq b n f).1=n.1/\(eq b n f).2.2.1=false:=by
 unfold eq;by_cases r:f.1=n.1
 ·rw[show (f.1==n.1)=true by simpa using r];exact xI h I z
 ·rw[show (f.1==n.1)=false by simpa using r];have y:=h.x.said z J H;have u:=mo h.x.table.2 (OnN.refl n) (b:=b) r h.self;obtain⟨t,c,M,e⟩:=(OnN.refl n).say f b;simp only[cond_false];rw[show sayOf n f b=iV n t c M from e]at y u ⊢;exact⟨⟨y.conf f H,u,h.now1,⟨h.seq.seq,h.seq.turn⟩,h.inc,h.up⟩,rfl,I⟩
theorem mq {n:aa}{t:List ag}{b:Int}(h:UpN n)(M:n.2.2.1=false)(I:ax t)(H:cf t (ao n.1))(y:fh n b):UpN (jn n t b)/\(jn n t b).1=n.1/\(jn n t b).2.2.1=false:=by
 refine jm (st:=eq b) (Inv:=λm=>UpN m/\m.1=n.1/\m.2.2.1=false) (ds:=t) (n:=n) ⟨h,rfl,M⟩ λm f u ⟨J,r,z⟩=>?_
 have:=tn (b:=b) J z (I.1 f u) (by rw[r];exact H f u) ⟨y.1,by rw[r];exact y.2⟩;exact⟨this.1,this.2.1.trans r,this.2.2⟩
theorem UpN.learns {n:aa}(h:UpN n):eC n:=⟨h.x.say,h.x.me,⟨_,h.self,rfl⟩,λd u=>by
 obtain⟨_,_,_,r⟩:=h.x.doubts.1 d u;exact⟨r.2,λx y=>(r.1 x y).1⟩⟩
def setO (n:aa)(o:List cU):aa:=(n.1,n.2.1,n.2.2.1,n.2.2.2.1,n.2.2.2.2.1,n.2.2.2.2.2.1,n.2.2.2.2.2.2.1,n.2.2.2.2.2.2.2.1,n.2.2.2.2.2.2.2.2.1,n.2.2.2.2.2.2.2.2.2.1,n.2.2.2.2.2.2.2.2.2.2.1,n.2.2.2.2.2.2.2.2.2.2.2.1,n.2.2.2.2.2.2.2.2.2.2.2.2.1,n.2.2.2.2.2.2.2.2.2.2.2.2.2.1,o)
theorem UpN.setOthers {n:aa}(h:UpN n){o:List cU}(r:c8 n.1 o):UpN (setO n o):=⟨⟨h.x.me,h.x.now0,h.x.table,h.x.site,h.x.cast,h.x.vs,h.x.probe,h.x.doubts,h.x.coord,h.x.places,r⟩,h.self,h.now1,⟨h.seq.seq,h.seq.turn⟩,h.inc,h.up⟩
theorem vX {u s:Int}{r:List ag}{o:List cU}(I:c8 u o)(M:InP s 0 1)(H:s≠ao u)(J:r≠[])(O:ax r)(z:cf r s):c8 u (bE (λx:cU=>x.1) (s,r) o) :=
 ⟨λx y=>by
  rcases aZ.1 y with rfl|⟨y,_⟩
  ·exact⟨M,H,J,O,z⟩
  ·exact I.1 x y,fk I.2⟩
def hY (l:List Int)(t:Int):List Int:=(l++[t]).drop ((l++[t]).length-3)
def dE (l:List dI)(r:Int):List Int:=((l.find? λp=>p.1==r).map (·.2.2)).getD []
def o8 (l:List dI)(r:Int)(c:dw)(t:Int):List dI:=bE (λp=>p.1) (r,c,hY (dE l r) t) l
def pO (n:aa)(c:dw)(p:List dI):aa:=(n.1,n.2.1,n.2.2.1,n.2.2.2.1,n.2.2.2.2.1,n.2.2.2.2.2.1,n.2.2.2.2.2.2.1,n.2.2.2.2.2.2.2.1,n.2.2.2.2.2.2.2.2.1,n.2.2.2.2.2.2.2.2.2.1,noP,n.2.2.2.2.2.2.2.2.2.2.2.1,c,p,n.2.2.2.2.2.2.2.2.2.2.2.2.2.2)
theorem uu {l:List dI}{r:Int}{t:Int}(h:t∈dE l r):∃ p∈l,t∈p.2.2:=by
 unfold dE at h;cases u:l.find? λp=>p.1==r with
 |none=>rw[u]at h;simp at h
 |some p =>
  rw[u]at h;exact⟨p,Cm u,h⟩
theorem xJ {l:List Int}{t:Int}(r:∀ x∈l,InP x 1 60000)(y:InP t 1 60000):InP ((hY l t).length:Int) 1 3/\∀ x∈hY l t,InP x 1 60000:=by
 unfold hY;constructor
 ·simp only[CH,BZ,BQ,BU];constructor <;> omega
 ·intro x u;have:=List.mem_of_mem_drop u;rcases CU.1 this with h|h
  ·exact r x h
  ·rw[CK.1 h];exact y
theorem vY {y r:Int}{l:List dI}{c:dw}{t:Int}(h:ey y l)(I:InP r 0 7)(R:ao r=ao y)(J:r≠y)(M:cD c)(O:InP t 1 60000):ey y (o8 l r c t):=by
 have H:=xJ (l:=dE l r) (t:=t) (λx z=>by
  obtain⟨p,u,z⟩:=uu z;exact (h.1 p u).2.2.2.2.2 x z) O
 exact⟨λp u=>by
  rcases aZ.1 u with rfl|⟨u,_⟩
  ·exact⟨I,R,J,M,H.1,H.2⟩
  ·exact h.1 p u,fk h.2⟩
theorem UpN.heard {n:aa}(h:UpN n){c:dw}{p:List dI}(u:cD c)(r:ey n.1 p):UpN (pO n c p):=⟨⟨h.x.me,h.x.now0,h.x.table,h.x.site,h.x.cast,h.x.vs,xE n,h.x.doubts,u,r,h.x.others⟩,h.self,h.now1,⟨h.seq.seq,h.seq.turn⟩,h.inc,h.up⟩
theorem UpN.way {n:aa}(h:UpN n):UpN (is n):=⟨h.x.way,h.self,h.now1,⟨h.seq.seq,h.seq.turn⟩,h.inc,h.up⟩
def Tot {α:Type}(o:Option α)(P:α->Prop):Prop:=∃ v,o=some v/\P v
section
variable {α β:Type} {P:α->Prop} {Q:β->Prop}
theorem Tot.ret {v:α}(h:P v):Tot (some v) P:=⟨v,rfl,h⟩
theorem Tot.mono {o:Option α}{r:α->Prop}(h:Tot o P)(k:∀ v,P v->r v):Tot o r:=by obtain⟨v,e,u⟩:=h;exact⟨v,e,k v u⟩
theorem Tot.bind {o:Option α}{g:α->Option β}(h:Tot o P)(k:∀ v,P v->Tot (g v) Q):Tot (o.bind g) Q:=by obtain⟨v,e,r⟩:=h;rw[e];exact k v r
theorem Tot.vl {o:Option α}{v:α}{g:α->Option β}(e:o=some v)(k:Tot (g v) Q):Tot (o.bind g) Q:=by rw[e];exact k
theorem Tot.cnd {b:Bool}{x y:Option α}(u:b=true->Tot x P)(r:b=false->Tot y P):Tot (bif b then x else y) P:=by
 cases b
 ·exact r rfl
 ·exact u rfl
theorem Tot.must {b:Bool}{x y:Option α}(r:b=true)(h:Tot x P):Tot (bif b then x else y) P:=by rw[r];exact h
theorem Tot.not {b:Bool}{x y:Option α}(r:b=false)(h:Tot x P):Tot (bif b then y else x) P:=by rw[r];exact h
theorem Tot.ix {xs:List α}{i:Int}{g:α->Option β}(u:0<=i)(z:i<xs.length)(k:∀ y∈xs,idx xs i=some y->Tot (g y) Q):Tot ((idx xs i).bind g) Q:=by
 obtain⟨n,rfl⟩:=BP u;have r:n<xs.length:=by omega
 have:=af r;rw[this];exact k _ (BM r) this
theorem Tot.iter {A:Type}{step:(A->Option β)->A->Option β}(Inv:A->Prop)(m:A->Nat)(h:∀ (rec:A->Option β) (a:A),Inv a->(∀ r,Inv r->m r<m a->Tot (rec r) Q)->Tot (step rec a) Q):∀ (k:Nat) (a:A),m a<k->Inv a->Tot (ae step k a) Q:=by
 intro k;induction k with
 |zero=>intro a H;omega
 |succ k z =>
  intro a H I;exact h (ae step k) a I λr u y=>z r (by omega) u
end
theorem Ret.tot {o:Option RB}{P:Prop}(h:Ret o P):Tot o λv=>(v.1.1=true<->P):=by
 obtain⟨b,e,r⟩:=h;exact⟨_,e,r⟩
section
variable {α β:Type} {Q:β->Prop}
theorem Tot.cat {x y:ByteArray}{k:ByteArray->Option β}{a b:Nat}(r:x.size<=a)(H:y.size<=b)(h:∀ z:ByteArray,z.size<=a+b->Tot (k z) Q)(u:a+b<=4611686018427387904:=by omega):Tot (aW x y k) Q:=by
 unfold aW;rw[decide_eq_true (by omega)];exact h _ (by rw[ByteArray.size_append];omega)
theorem Tot.fit {a b c:Nat}{x y:Option β}(h:Tot x Q)(u:c<=1000:=by omega)(r:a+b<=2097152:=by omega):Tot (bif decide ((a+b)*c<=ak) then x else y) Q:=by
 have:=Cp r u;rw[decide_eq_true (by unfold ak;omega)];exact h
theorem Tot.ix2 {xs:List α}{i:Int}{g:α->Option β}(r:0<=i)(z:i<xs.length)(k:∀ y∈xs,idx xs i=some y->Tot (g y) Q):Tot ((idx xs i).bind λ_=>(idx xs ((BN i:Nat):Int)).bind g) Q :=
 Tot.ix r z λy u e=>by rw[Int.toNat_of_nonneg r,e];exact k y u e
end
theorem fN (s:ByteArray):s.data.toList.length=s.size:=Array.length_toList
theorem i8 (xs:List Int):(gI xs).size=xs.length:=by
 unfold gI;show (List.toArray _).size=_;rw[List.size_toArray,BY]
theorem rm (s:ByteArray):(ew s).length=s.size:=by
 unfold ew;rw[BY];exact fN s
theorem dec_t:∀ (d k:Nat) (n:Int),0<=n->n<10 ^ (d+1)->n<=1000000000->d<=100->d<k->Tot (Q10.f k (n,())) λr=>r.1.1.size<=d+1:=by
 intro d;induction d with
 |zero =>
  intro k n H y Y R O;obtain⟨k,rfl⟩:∃ m,k=m+1:=⟨k-1,by omega⟩;show Tot (Q10.step (Q10.f k) (n,())) _;simp only[Q10.step];refine Tot.not (decide_eq_false (show ¬ n< -9223372036854775807 by omega)) (Tot.not (decide_eq_false (show ¬ n<0 by omega)) (Tot.must (decide_eq_true (show n<10 by exact y)) (Tot.ret ?_)));show (gI _).size<=1;rw[i8];exact B3 _
 |succ d I =>
  intro k n H y Y R O;obtain⟨k,rfl⟩:∃ m,k=m+1:=⟨k-1,by omega⟩;show Tot (Q10.step (Q10.f k) (n,())) _;simp only[Q10.step];refine Tot.not (decide_eq_false (show ¬ n< -9223372036854775807 by omega)) (Tot.not (decide_eq_false (show ¬ n<0 by omega)) (Tot.cnd (λ_=>Tot.ret ?_) λh=>?_))
  ·show (gI _).size<=_;rw[i8];exact Nat.succ_le_succ (B4 _)
  ·have h:¬ n<10:=of_decide_eq_false h;have e:Cs n 10=n / 10:=by rw[CJ H]
   have u:(10:Int) ^ (d+1+1)=10 ^ (d+1)*10:=Int.pow_succ ..;have X:n / 10<10 ^ (d+1):=Int.ediv_lt_of_lt_mul (by omega) (by rw[<- u];exact y);rw[e,aA (by omega) (by omega)];refine Tot.bind (I k (n / 10) (by omega) X (by omega) (by omega) (by omega)) λv M=>Tot.cat M (b:=1) (by rw[i8];exact B3 _) (λz J=>Tot.ret J) (by omega)
theorem ll (K:Nat)(n:Int)(u:0<=n)(z:n<=999999)(y:1048577<K):Tot (Q10.f K (n,())) λr=>r.1.1.size<=6 :=
 dec_t 5 K n u (by show n<1000000;omega) (by omega) (by omega) (by omega)
theorem tp (K:Nat)(i:Int)(y:0<=i)(u:i<=4):Tot (Q140.f K (i,())) λr=>r.1.1.size<=7:=by
 have:i=0\/i=1\/i=2\/i=3\/i=4:=by omega
 rcases this with rfl|rfl|rfl|rfl|rfl <;> exact⟨_,rfl,by decide⟩
theorem tq (K:Nat)(i:Int)(y:0<=i)(u:i<=6):Tot (Q137.f K (i,())) λr=>r.1.1.size<=4:=by
 have:i=0\/i=1\/i=2\/i=3\/i=4\/i=5\/i=6:=by omega
 rcases this with rfl|rfl|rfl|rfl|rfl|rfl|rfl <;> exact⟨_,rfl,by decide⟩
theorem zg (K:Nat)(t:List ag)(I:ax t)(hK:1048577<K):Tot (Q143.f K (t,())) λr=>r.1.1.size<=240:=by
 have hl:=iW I.2 (λg hg=>(I.1 g hg).1);refine Tot.iter (step:=λrec a=>Q143.s0 K (t,()) rec a) (λa=>0<=a.2/\a.2<=t.length/\(a.1.size:Int)<=30*a.2) (λa=>t.length-a.2.toNat) ?_ K _ (by show t.length-BN 0<K;omega) ⟨by show (0:Int)<=0;omega,by show (0:Int)<=_;omega,by show (0:Int)<=30*0;omega⟩;rintro rec ⟨s,i⟩ ⟨h0,h1,h2⟩ ih;simp only at h0 h1 h2 ih ⊢;simp only[Q143.s0];refine Tot.cnd (λh=>?_) λh=>?_
 ·have h:=of_decide_eq_true h;obtain⟨n,rfl⟩:=BP h0;have hn:n<t.length:=by omega
  obtain⟨⟨f1,f2⟩,⟨f3,f4⟩,f5,f6⟩:=I.1 t[n] (BM hn);rw[af hn,ar n (by omega)];simp only[BK];have go:∀ z:ByteArray,z.size<=s.size+29->Tot (rec (z,((n+1:Nat):Int))) λr=>r.1.1.size<=240:=λz hz=>ih _ ⟨by show (0:Int)<=((n+1:Nat):Int);omega,by show ((n+1:Nat):Int)<=_;omega,by show (z.size:Int)<=30*((n+1:Nat):Int);omega⟩ (by show t.length-BN ((n+1:Nat):Int)<t.length-BN (n:Int);omega)
  have body:∀ J:ByteArray,J.size<=s.size+1->Tot ((Q10.f K (t[n].1,())).bind λy3=>aW J y3.1.1 λy4=>aW y4 (ByteArray.mk #[58]) λy5=>(Q10.f K (t[n].2.1,())).bind λy7=>aW y5 y7.1.1 λy8=>aW y8 (ByteArray.mk #[58]) λy9=>(Q140.f K (t[n].2.2.1,())).bind λM=>aW y9 M.1.1 λu=>bif t[n].2.2.2 then (aW u (ByteArray.mk #[42]) λY=>rec (Y,((n+1:Nat):Int))) else (rec (u,((n+1:Nat):Int)))) λr=>r.1.1.size<=240:=λJ Z =>
   Tot.bind (ll K _ f1 (by omega) hK) λv1 s1=>Tot.cat Z s1 λz1 X=>Tot.cat X (b:=1) (by decide) λz2 H =>
   Tot.bind (ll K _ f3 (by omega) hK) λv2 s2=>Tot.cat H s2 λz3 R=>Tot.cat R (b:=1) (by decide) λz4 O =>
   Tot.bind (tp K _ (by omega) f6) λv3 s3=>Tot.cat O s3 λz5 y =>
   Tot.cnd (λ_=>Tot.cat y (b:=1) (by decide) λz6 a0=>go z6 (by omega)) λ_=>go z5 (by omega)
  exact Tot.cnd (λ_=>Tot.cat (B3 _) (b:=1) (by decide) λz hz=>body z hz) λ_=>body s (by omega)
 ·have h:=of_decide_eq_false h;exact Tot.ret (by show s.size<=240;omega)
theorem oo (K:Nat)(t:List ag)(z:t.length<=1048576)(u:1048577<K):Tot (Q144.f K (t,())) λr=>r.1.1.size<=240:=by
 simp only[Q144.f];refine Tot.bind (gr K t z u).tot λv H=>Tot.cnd (λ_=>Tot.ret (by show (0:Nat)<=240;omega)) λh=>?_
 have y:=H.1 (by simpa using h);exact Tot.cnd (λ_=>Tot.ret (by show (1:Nat)<=240;omega)) λ_=>Tot.bind (zg K t y u) λv h=>Tot.ret h
theorem pP (K:Nat)(n:Int)(H:-999999<=n)(I:n<=999999)(y:1048577<K):Tot (Q147.f K (n,())) λr=>r.1.1.size<=7:=by
 simp only[Q147.f];refine Tot.cnd (λh=>?_) λh=>?_
 ·have h:n<0:=of_decide_eq_true h;rw[aA (by omega) (by omega)];exact Tot.bind (ll K _ (by omega) (by omega) y) λv s=>Tot.cat (a:=1) (by decide) s λz u=>Tot.ret u
 ·have h:¬ n<0:=of_decide_eq_false h;exact Tot.bind (ll K _ (by omega) (by omega) y) λv s=>Tot.cat (a:=1) (by decide) s λz u=>Tot.ret u
theorem zh (K:Nat)(w:aq)(O:iU w)(y:1048577<K):Tot (Q148.f K (w,())) λr=>r.1.1.size<=400:=by
 obtain⟨_,⟨a1,H⟩,⟨M,b2⟩,⟨J,c2⟩,⟨X,d2⟩,⟨Y,e2⟩,⟨⟨x1,x2⟩,⟨y1,y2⟩,⟨R,Z⟩,⟨u1,u2⟩⟩,I,_⟩:=O;have z:=cq I;simp only[Q148.f];have u:(ByteArray.mk #[32]).size<=1:=by decide
 refine Tot.cnd (λ_=>?_) λ_=>?_ <;>
 exact Tot.cat (a:=3) (by decide) u λ_ h=>Tot.bind (tq K _ (by omega) H) λ_ s=>Tot.cat h s λ_ h=>Tot.cat h u λ_ h =>
  Tot.bind (ll K _ M (by omega) y) λ_ s=>Tot.cat h s λ_ h=>Tot.cat h u λ_ h =>
  Tot.bind (ll K _ J (by omega) y) λ_ s=>Tot.cat h s λ_ h=>Tot.cat h u λ_ h =>
  Tot.bind (ll K _ X (by omega) y) λ_ s=>Tot.cat h s λ_ h=>Tot.cat h u λ_ h =>
  Tot.bind (ll K _ Y (by omega) y) λ_ s=>Tot.cat h s λ_ h=>Tot.cat h u λ_ h =>
  Tot.bind (pP K _ (by show -999999<=(aq.coord w).1;omega) (by show (aq.coord w).1<=999999;omega) y) λ_ s=>Tot.cat h s λ_ h=>Tot.cat h u λ_ h =>
  Tot.bind (pP K _ (by show -999999<=(aq.coord w).2.1;omega) (by show (aq.coord w).2.1<=999999;omega) y) λ_ s=>Tot.cat h s λ_ h=>Tot.cat h u λ_ h =>
  Tot.bind (ll K _ R (by show (aq.coord w).2.2.1<=999999;omega) y) λ_ s=>Tot.cat h s λ_ h=>Tot.cat h u λ_ h =>
  Tot.bind (ll K _ (by show 0<=(aq.coord w).2.2.2;omega) (by show (aq.coord w).2.2.2<=999999;omega) y) λ_ s=>Tot.cat h s λ_ h=>Tot.cat h u λ_ h =>
  Tot.bind (oo K _ z y) λ_ s=>Tot.cat h s λ_ h=>Tot.ret (B6 h (by decide))
theorem zi (K:Nat)(n:Int)(I:1048577<K):Tot (Q150.f K (n,())) λ_=>True:=by
 refine Tot.iter (step:=λrec a=>Q150.s0 K (n,()) rec a) (λa=>0<=a.2/\a.2<=8) (λa=>8-a.2.toNat) ?_ K _ (by show 8-BN 0<K;omega) ⟨by show (0:Int)<=0;omega,by show (0:Int)<=8;omega⟩;rintro rec ⟨s,i⟩ ⟨y,H⟩ r;simp only at y H r ⊢;simp only[Q150.s0];obtain⟨i,rfl⟩:=BP y;refine Tot.cnd (λh=>?_) λ_=>Tot.ret trivial
 have h:=of_decide_eq_true h;rw[ar i (by omega)];have u:∀ z:Int,Tot (rec (z,((i+1:Nat):Int))) λ_=>True:=λz=>r _ ⟨by show (0:Int)<=((i+1:Nat):Int);omega,by show ((i+1:Nat):Int)<=8;omega⟩ (by show 8-BN ((i+1:Nat):Int)<8-BN (i:Int);omega)
 exact Tot.cnd (λ_=>u _) λ_=>u _
theorem Ap (K:Nat)(s:ByteArray)(J:s.size<=1000000)(I:1048577<K):Tot (Q151.f K (s,())) λ_=>True:=by
 refine Tot.iter (step:=λrec a=>Q151.s0 K (s,()) rec a) (λa=>0<=a.2/\a.2<=s.size) (λa=>s.size-a.2.toNat) ?_ K _ (by show s.size-BN 0<K;omega) ⟨by show (0:Int)<=0;omega,by show (0:Int)<=_;omega⟩;rintro rec ⟨z,i⟩ ⟨r,H⟩ u;simp only at r H u ⊢;simp only[Q151.s0];obtain⟨i,rfl⟩:=BP r;refine Tot.cnd (λh=>?_) λ_=>Tot.ret trivial
 have h:=of_decide_eq_true h;rw[ar i (by omega)];exact Tot.ix r (by rw[fN];exact h) λy _ _=>Tot.bind (zi K _ I) λv _=>u _ ⟨by show (0:Int)<=((i+1:Nat):Int);omega,by show ((i+1:Nat):Int)<=_;omega⟩ (by show s.size-BN ((i+1:Nat):Int)<s.size-BN (i:Int);omega)
theorem hex_t (K:Nat)(n:Int)(R:1048577<K):Tot (Q149.f K (n,())) λr=>r.1.1.size<=8:=by
 refine Tot.iter (step:=λrec a=>Q149.s0 K (n,()) rec a) (λa=>-1<=a.2/\a.2<=7/\a.1.length=7-a.2) (λa=>(a.2+1).toNat) ?_ K _ (by show BN 8<K;omega) ⟨by show (-1:Int)<=7;omega,by show (7:Int)<=7;omega,by show (0:Int)=7-7;omega⟩;rintro rec ⟨z,i⟩ ⟨I,H,J⟩ u;simp only at I H J u ⊢;simp only[Q149.s0];refine Tot.cnd (λh=>?_) λh=>?_
 ·have h:=of_decide_eq_true h;rw[aA (n:=4*i) (by omega) (by omega),aA (n:=i-1) (by omega) (by omega)];obtain⟨M,O⟩:=lN (a:=CB n (2 ^ min (BN (4*i)) 64)) (m:=15) (by omega);refine Tot.not (decide_eq_false (by omega)) (Tot.ix M (Int.lt_of_le_of_lt O (by decide)) λy _ _=>Tot.fit ?_ (by omega) (by simp only[BQ,BU];omega));exact u _ ⟨by show -1<=i-1;omega,by show i-1<=7;omega,by show ((z++[_]).length:Int)=7-(i-1);rw[BZ,Cg];omega⟩ (by show BN (i-1+1)<BN (i+1);omega)
 ·have h:=of_decide_eq_false h;refine Tot.ret ?_;show (gI z).size<=8;rw[i8];omega
theorem ot (K:Nat)(w:aq)(O:(aq.table w).length<=1048576)(u:1048577<K):Tot (Q152.f K (w,())) λr=>r.1.1.size<=409/\(¬ iU w->r.1.1=ByteArray.mk #[]):=by
 simp only[Q152.f];refine Tot.bind (sP K w O u).tot λv M=>Tot.cnd (λ_=>Tot.ret ⟨by show (0:Nat)<=409;omega,λ_=>rfl⟩) λh=>?_
 have H:=M.1 (by simpa using h);exact Tot.bind (zh K w H u) λb J=>Tot.cat J (b:=1) (by decide) λz y=>Tot.bind (Ap K _ (by omega) u) λs _=>Tot.bind (hex_t K _ u) λx I=>Tot.cat y I λz y=>Tot.ret ⟨y,λh=>absurd H h⟩
theorem vZ (K:Nat)(s:ByteArray)(c:Int)(hs:s.size<=100000)(hK:1048577<K):Tot (Q136.f K (s,c,())) λr=>r.1.1.length<=s.size+1/\∀ p∈r.1.1,p.size<=s.size:=by
 have I:∀ i j:Nat,(s.extract i j).size<=s.size:=λi j=>by rw[Ct];omega
 refine Tot.iter (step:=λrec a=>Q136.s0 K (s,c,()) rec a) (λa=>0<=a.2.1/\a.2.1<=a.2.2/\a.2.2<=s.size/\a.1.length<=a.2.2/\∀ p∈a.1,p.size<=s.size) (λa=>s.size-a.2.2.toNat) ?_ K _ (by show s.size-BN 0<K;omega) ⟨by show (0:Int)<=0;omega,by show (0:Int)<=0;omega,by show (0:Int)<=_;omega,by show (0:Int)<=0;omega,λp O=>by cases O⟩;rintro rec ⟨u,from_,i⟩ ⟨z,J,X,Z,R⟩ M;simp only at z J X Z R M ⊢;simp only[Q136.s0];obtain⟨i,rfl⟩:=BP (Cz z J);have H:∀ x:ByteArray,x.size<=s.size->∀ p∈u++[x],p.size<=s.size:=λx Y p O=>by
  rcases CU.1 O with h|h
  ·exact R p h
  ·rw[CK.1 h];exact Y
 refine Tot.cnd (λh=>?_) λh=>?_
 ·have h:=of_decide_eq_true h;rw[ar i (by omega)];refine Tot.ix (Cz z J) (by rw[fN];exact h) λy _ _=>Tot.cnd (λ_=>Tot.must (by rw[decide_eq_true z,decide_eq_true J,decide_eq_true X];rfl) (Tot.fit (M _ ⟨?_,?_,?_,?_,H _ (I _ _)⟩ ?_) (by omega) (by simp only[BQ,BU];omega))) λ_=>M _ ⟨z,?_,?_,?_,R⟩ ?_
  ·show (0:Int)<=((i+1:Nat):Int);omega
  ·show ((i+1:Nat):Int)<=((i+1:Nat):Int);omega
  ·show ((i+1:Nat):Int)<=s.size;omega
  ·show ((u++[_]).length:Int)<=((i+1:Nat):Int);rw[BZ,Cg];omega
  ·show s.size-BN ((i+1:Nat):Int)<s.size-BN (i:Int);omega
  ·show from_<=((i+1:Nat):Int);omega
  ·show ((i+1:Nat):Int)<=s.size;omega
  ·show (u.length:Int)<=((i+1:Nat):Int);omega
  ·show s.size-BN ((i+1:Nat):Int)<s.size-BN (i:Int);omega
 ·refine Tot.must (by rw[decide_eq_true z,decide_eq_true (by omega),decide_eq_true (CQ _)];rfl) (Tot.fit (Tot.ret ⟨?_,H _ (I _ _)⟩) (by omega) (by simp only[BQ,BU];omega));show (u++[_]).length<=_;rw[BZ,Cg];omega
theorem kg (K:Nat)(s:ByteArray)(R:s.size<=100000)(X:1048577<K):Tot (Q138.f K (s,())) λ_=>True:=by
 simp only[Q138.f,Q138.pre];have r:((s.size:Int)<=6)->Tot (Q138.l0 K (s,()) (0,0)) λ_=>True:=λY=>by
  refine Tot.iter (step:=λrec a=>Q138.s0 K (s,()) rec a) (λa=>0<=a.2/\a.2<=s.size) (λa=>s.size-a.2.toNat) ?_ K _ (by show s.size-BN 0<K;omega) ⟨by show (0:Int)<=0;omega,by show (0:Int)<=_;omega⟩;rintro rec ⟨z,i⟩ ⟨u,O⟩ J;simp only at u O J ⊢;simp only[Q138.s0];obtain⟨i,rfl⟩:=BP u;refine Tot.cnd (λh=>?_) λ_=>Tot.ret trivial
  have h:=of_decide_eq_true h;have I:((i:Nat):Int)<s.data.toList.length:=by rw[fN];exact h
  rw[ar i (by omega)];exact Tot.ix u I λy _ _=>Tot.cnd (λ_=>Tot.ret trivial) λ_=>Tot.ix u I λy _ _=>Tot.cnd (λ_=>Tot.ret trivial) λ_=>Tot.ix u I λy _ _=>J _ ⟨by show (0:Int)<=((i+1:Nat):Int);omega,by show ((i+1:Nat):Int)<=_;omega⟩ (by show s.size-BN ((i+1:Nat):Int)<s.size-BN (i:Int);omega)
 refine Tot.bind (cC K _ _ _).tot λv M=>Tot.cnd (λ_=>Tot.ret trivial) λh=>?_
 have H:=M.1 (by simpa using h);exact Tot.cnd (λh=>Tot.ix (by omega) (by rw[fN];have:=of_decide_eq_true h;omega) λy _ _=>Tot.cnd (λ_=>Tot.ret trivial) λ_=>r H.2) λ_=>r H.2
theorem u6 (K:Nat)(s:ByteArray)(J:s.size<=100000)(I:1048577<K):Tot (Q139.f K (s,())) λ_=>True:=by
 simp only[Q139.f];refine Tot.cnd (λ_=>Tot.ret trivial) λh=>?_
 have h:=of_decide_eq_false h;have u:(0:Int)<s.data.toList.length:=by rw[fN];omega
 have r:Tot (bif decide ((0:Int)<=1)&&decide ((1:Int)<=(s.size:Int))&&decide ((s.size:Int)<=(s.size:Int)) then ((Q138.f K (s.extract (BN 1) (BN (s.size:Int)),())).bind λz=>bif decide (z.1.1<0) then (some (((-1),false,()),())) else (bif s.toList==(ByteArray.mk #[45,48]).toList then (some (((-1),false,()),())) else ((idx s.data.toList 0).bind λH=>bif (H.toNat:Int)==45 then (some ((wr .i64 (0-z.1.1),true,()),())) else (some ((z.1.1,true,()),()))))) else none) λ (_:(Int×Bool×Unit)×Unit)=>True :=
  Tot.must (by rw[decide_eq_true (by omega:(0:Int)<=1),decide_eq_true (by omega:(1:Int)<=s.size),decide_eq_true (CQ _)];rfl) (Tot.bind (kg K _ (by rw[Ct];omega) I) λv _=>Tot.cnd (λ_=>Tot.ret trivial) λ_=>Tot.cnd (λ_=>Tot.ret trivial) λ_=>Tot.ix (by omega) u λy _ _=>Tot.cnd (λ_=>Tot.ret trivial) λ_=>Tot.ret trivial)
 exact Tot.ix (by omega) u λy _ _=>Tot.cnd (λ_=>Tot.ix (by omega) u λy _ _=>Tot.cnd (λ_=>Tot.ret trivial) λ_=>r) λ_=>r
theorem Aq (K:Nat)(s:ByteArray)(hs:s.size<=100000)(O:1048577<K):Tot (Q141.f K (s,())) λ_=>True:=by
 simp only[Q141.f,Q141.pre];have H:∀ (I:List ByteArray) (n1 n2:Int) (b:Bool),I.length=3->Tot (Q141.l0 K (s,()) (I,1,n1,n2,0,b)) λ_=>True:=λI n1 n2 b hx=>by
  refine Tot.iter (step:=λrec a=>Q141.s0 K (s,()) rec a) (λa=>a.1.length=3/\1<=a.2.1/\a.2.1<=5) (λa=>5-a.2.1.toNat) ?_ K _ (by show 5-BN 1<K;omega) ⟨hx,by show (1:Int)<=1;omega,by show (1:Int)<=5;omega⟩;rintro rec ⟨ys,i,m1,m2,m3,m4⟩ ⟨h0,h1,h2⟩ Z;simp only at h0 h1 h2 Z ⊢;simp only[Q141.s0];refine Tot.cnd (λh=>?_) λ_=>Tot.bind (oT K _).tot λ_ _=>Tot.ret trivial
  have h:=of_decide_eq_true h;rw[aA (n:=i+1) (by omega) (by omega)];have go:∀ m:Int,Tot (rec (ys,i+1,m1,m2,m,m4)) λ_=>True:=λm=>Z _ ⟨h0,by show 1<=i+1;omega,by show i+1<=5;omega⟩ (by show 5-BN (i+1)<5-BN i;omega)
  exact Tot.bind (tp K i (by omega) h) λv _=>Tot.ix2 (by omega) (by omega) λy _ _=>Tot.cnd (λ_=>go _) λ_=>go _
 have u:∀ (z:ByteArray) (b:Bool),z.size<=s.size->Tot ((Q136.f K (z,58,())).bind λr=>bif (BL r.1.1:Int) != 3 then (some (((0,(0,(0,b))),false,()),())) else ((idx r.1.1 0).bind λ_=>(idx r.1.1 (BN 0:Nat)).bind λY=>(Q138.f K (Y,())).bind λJ=>(idx r.1.1 1).bind λ_=>(idx r.1.1 (BN 1:Nat)).bind λX=>(Q138.f K (X,())).bind λM=>Q141.l0 K (s,()) (r.1.1,1,J.1.1,M.1.1,0,b))) λ_=>True:=λz b hz =>
  Tot.bind (vZ K z 58 (by omega) O) λv ⟨_,hp⟩=>Tot.cnd (λ_=>Tot.ret trivial) λh=>by
   have h3:(v.1.1.length:Int)=3:=by simpa using h
   exact Tot.ix2 (by omega) (by omega) λy R _=>Tot.bind (kg K y (by have:=hp y R;omega) O) λ_ _=>Tot.ix2 (by omega) (by omega) λy R _=>Tot.bind (kg K y (by have:=hp y R;omega) O) λ_ _=>H _ _ _ _ (by omega)
 refine Tot.cnd (λh=>?_) λ_=>u s false (B3 _)
 have h:=of_decide_eq_true h;rw[aA (n:=(s.size:Int)-1) (by omega) (by omega)];exact Tot.ix (by omega) (by rw[fN];omega) λy _ _=>Tot.cnd (λ_=>Tot.must (by simp only[CR,decide_eq_true_eq];omega) (u _ true (by rw[Ct];omega))) λ_=>u s false (B3 _)
theorem Ar (K:Nat)(s:ByteArray)(O:s.size<=100000)(J:1048577<K):Tot (Q142.f K (s,())) λr=>r.1.1.length<=100001:=by
 simp only[Q142.f,Q142.pre];refine Tot.cnd (λ_=>Tot.ret (by show (0:Nat)<=_;omega)) λ_=>Tot.bind (vZ K s 44 O J) ?_
 rintro⟨⟨xs,⟨⟩⟩,⟨⟩⟩ ⟨hl,hp⟩;dsimp only at hl hp ⊢;refine Tot.iter (step:=λrec a=>Q142.s0 K (s,()) rec a) (λa=>a.2.1=xs/\0<=a.2.2/\a.2.2<=xs.length/\(a.1.length:Int)<=a.2.2) (λa=>xs.length-a.2.2.toNat) ?_ K _ (by show xs.length-BN 0<K;omega) ⟨rfl,by show (0:Int)<=0;omega,by show (0:Int)<=_;omega,by show (0:Int)<=0;omega⟩;rintro rec ⟨u,I,i⟩ ⟨rfl,z,M,R⟩ H;simp only at z M R hl hp H ⊢;simp only[Q142.s0];obtain⟨i,rfl⟩:=BP z;refine Tot.cnd (λh=>?_) λ_=>Tot.ret (by show u.length<=_;omega)
 have h:=of_decide_eq_true h;rw[ar i (by omega)];exact Tot.ix2 z h λy X _=>Tot.bind (Aq K y (by have:=hp y X;omega) J) λv _=>Tot.cnd (λ_=>Tot.ret (by show (0:Nat)<=_;omega)) λ_=>Tot.fit (H _ ⟨rfl,by show (0:Int)<=((i+1:Nat):Int);omega,by show ((i+1:Nat):Int)<=_;omega,by show ((u++[_]).length:Int)<=((i+1:Nat):Int);rw[BZ,Cg];omega⟩ (by show I.length-BN ((i+1:Nat):Int)<I.length-BN (i:Int);omega)) (by omega) (by simp only[BQ,BU];omega)
theorem At (K:Nat)(s:ByteArray)(y:s.size<=100000)(u:1048577<K):Tot (Q145.f K (s,())) λr=>r.1.1.length<=100001:=by
 simp only[Q145.f];exact Tot.bind (Ar K s y u) λv z=>Tot.cnd (λ_=>Tot.ret (by show (0:Nat)<=_;omega)) λ_=>Tot.bind (oo K _ (by omega) u) λx _=>Tot.cnd (λ_=>Tot.ret (by show (0:Nat)<=_;omega)) λ_=>Tot.ret z
theorem pQ (K:Nat)(s:ByteArray)(X:s.size<=100000)(H:1048577<K):Tot (Q153.f K (s,())) λr=>r.1.2.1=true->iU r.1.1:=by
 simp only[Q153.f,Q153.pre];refine Tot.bind (vZ K s 32 X H) ?_;rintro⟨⟨xs,⟨⟩⟩,⟨⟩⟩ ⟨hl,hp⟩;dsimp only at hl hp ⊢;refine Tot.cnd (λ_=>Tot.ret λh=>by cases h) λ_=>Tot.cnd (λ_=>Tot.ret λh=>by cases h) λh=>?_
 have M:(xs.length:Int)=12:=by simpa using h
 have u:∀ y∈xs,y.size<=100000:=λy z=>B6 (hp y z) X
 have I:∀ p:Int,Tot (Q153.l0 K (s,()) (xs,1,p,0)) λr=>r.1.2.1=true->iU r.1.1:=λp=>by
  refine Tot.iter (step:=λrec a=>Q153.s0 K (s,()) rec a) (λa=>a.1=xs/\1<=a.2.1/\a.2.1<=7) (λa=>7-a.2.1.toNat) ?_ K _ (by show 7-BN 1<K;omega) ⟨rfl,by show (1:Int)<=1;omega,by show (1:Int)<=7;omega⟩;rintro rec ⟨ys,i,p,k⟩ ⟨rfl,R,h2⟩ O;simp only at R h2 hl M u O ⊢;simp only[Q153.s0];refine Tot.cnd (λh=>?_) λ_=>?_
  ·have h:=of_decide_eq_true h;rw[aA (n:=i+1) (by omega) (by omega)];have Z:∀ m:Int,Tot (rec (ys,i+1,p,m)) λr=>r.1.2.1=true->iU r.1.1:=λm=>O _ ⟨rfl,by show 1<=i+1;omega,by show i+1<=7;omega⟩ (by show 7-BN (i+1)<7-BN i;omega)
   exact Tot.bind (tq K i (by omega) h) λv _=>Tot.ix2 (by omega) (by omega) λy _ _=>Tot.cnd (λ_=>Z _) λ_=>Z _
  ·refine Tot.ix2 (by omega) (by omega) λy z _=>Tot.bind (kg K y (u y z) H) λ_ _=>Tot.ix2 (by omega) (by omega) λy z _=>Tot.bind (kg K y (u y z) H) λ_ _=>Tot.ix2 (by omega) (by omega) λy z _=>Tot.bind (kg K y (u y z) H) λ_ _=>Tot.ix2 (by omega) (by omega) λy z _=>Tot.bind (kg K y (u y z) H) λ_ _ =>
    Tot.ix2 (by omega) (by omega) λy z _=>Tot.bind (u6 K y (u y z) H) λ_ _=>Tot.ix2 (by omega) (by omega) λy z _=>Tot.bind (u6 K y (u y z) H) λ_ _=>Tot.ix2 (by omega) (by omega) λy z _=>Tot.bind (At K y (u y z) H) λt ht=>Tot.ix2 (by omega) (by omega) λy z _=>Tot.bind (kg K y (u y z) H) λ_ _=>Tot.ix2 (by omega) (by omega) λy z _=>Tot.bind (kg K y (u y z) H) λ_ _ =>
    Tot.cnd (λ_=>Tot.ret λh=>by cases h) λ_=>Tot.cnd (λ_=>Tot.ret λh=>by cases h) λ_=>Tot.cnd (λ_=>Tot.ret λh=>by cases h) λ_=>Tot.bind (ot K _ (by show t.1.1.length<=1048576;omega) H) λx ⟨_,hx⟩=>Tot.cnd (λ_=>Tot.ret λh=>by cases h) λJ=>Tot.ret λ_=>?_
   refine Classical.byContradiction λhn=>?_
   rw[hx hn]at J;have Y:(ByteArray.mk #[]).toList=s.toList:=by
    have:((ByteArray.mk #[]).toList != s.toList)=false:=J;simpa using this
   rw[DK,DK]at Y;have h0:=congrArg BL Y;rw[fN,fN]at h0;have R:(ByteArray.mk #[]).size=0:=rfl;omega
 exact Tot.ix2 (by omega) (by omega) λy _ _=>Tot.cnd (λ_=>I 2) λ_=>I 1
def Rt (v r:Nat):Prop:=r*r<=v/\v<(r+1)*(r+1)
theorem Bk (K:Nat)(v:Nat)(Z:v<1500000001*1500000001)(hK:1048577<K):∃ r,Rt v r/\Q176.f K ((v:Int),())=some (((r:Int),()),()):=by
 have z:∀ (e k l h:Nat),h-l<2 ^ e->e<k->l<=h->h<=1500000000->l*l<=v->v<(h+1)*(h+1)->∃ r,Rt v r/\ae (λrec a=>Q176.s0 K ((v:Int),()) rec a) k ((l:Int),(h:Int))=some (((r:Int),()),()):=by
  intro e;induction e with
  |zero =>
   intro k l h R hk H O u y;obtain⟨k,rfl⟩:∃ I,k=I+1:=⟨k-1,by omega⟩;have:l=h:=by omega
   subst this;refine⟨l,⟨u,y⟩,?_⟩;show Q176.s0 K _ _ _=_;simp only[Q176.s0];rw[decide_eq_false (by omega)];rfl
  |succ e J =>
   intro k l h R hk H O u y;obtain⟨k,rfl⟩:∃ I,k=I+1:=⟨k-1,by omega⟩;show ∃ r,Rt v r/\Q176.s0 K _ _ _=_;simp only[Q176.s0];by_cases hl:l<h
   ·rw[decide_eq_true (show (l:Int)<(h:Int) by omega)];have e1:wr .i64 ((l:Int)+(h:Int))=(l:Int)+h:=aA (by omega) (by omega);have e2:wr .i64 ((l:Int)+(h:Int)+1)=((l+h+1:Nat):Int):=(aA (by omega) (by omega)).trans (by omega);have e3:Cs ((l+h+1:Nat):Int) 2=(((l+h+1) / 2:Nat):Int):=by
     rw[CJ (by omega)];omega
    rw[e1,e2,e3];have hm:l<(l+h+1) / 2/\(l+h+1) / 2<=h:=by omega
    have Y:h-(l+h+1) / 2<2 ^ e/\(l+h+1) / 2-1-l<2 ^ e:=by
     rw[Nat.pow_succ]at R;omega
    generalize (l+h+1) / 2=m at *;have e4:wr .i64 (m:Int)=m:=aA (by omega) (by omega);have e5:Cs (v:Int) (m:Int)=((v / m:Nat):Int):=by
     rw[CJ (by omega)];rfl
    have a1:v / m<=v:=Nat.div_le_self _ _;have X:m<=v / m<->m*m<=v:=Nat.le_div_iff_mul_le (by omega);generalize v / m=q at *;have e6:wr .i64 (q:Int)=(q:Int):=aA (by omega) (by omega);rw[e4,e5,e6,decide_eq_false (show ¬ (m:Int)=0 by omega)];simp only[cond_true,cond_false];by_cases M:m<=q
    ·rw[decide_eq_true (by omega)];exact J k m h Y.1 (by omega) (by omega) O (X.1 M) y
    ·rw[decide_eq_false (by omega)];have a0:¬ m*m<=v:=λh4=>M (X.2 h4)
     have e7:wr .i64 ((m:Int)-1)=((m-1:Nat):Int):=eX m (by omega) (by omega);rw[e7];exact J k l (m-1) Y.2 (by omega) (by omega) (by omega) u (by rw[show m-1+1=m by omega];omega)
   ·have:l=h:=by omega
    subst this;refine⟨l,⟨u,y⟩,?_⟩;rw[decide_eq_false (by omega)];rfl
 exact z 31 K 0 1500000000 (by decide) (by omega) (by omega) (by omega) (by omega) Z
def i9 (x:Int):Int:=if x< -1000000000 then -1000000000 else if x>1000000000 then 1000000000 else x
theorem qC (K:Nat)(x:Int):Q175.f K (x,())=some ((i9 x,()),()):=by
 simp only[Q175.f,Q172.f,i9];by_cases h:x< -1000000000
 ·rw[decide_eq_true h,if_pos h];rfl
 ·rw[decide_eq_false h,if_neg h];by_cases r:x>1000000000
  ·rw[decide_eq_true r,if_pos r];rfl
  ·rw[decide_eq_false r,if_neg r];rfl
theorem tr (x:Int):-1000000000<=i9 x/\i9 x<=1000000000:=by
 unfold i9;split
 ·omega
 ·split <;> omega
theorem zP {a:Int}(h:-1000000000<=a/\a<=1000000000):0<=a*a/\a*a<=1000000000000000000:=by
 have e:∃ b:Nat,b<=1000000000/\a*a=((b*b:Nat):Int):=by
  refine⟨a.natAbs,by omega,?_⟩;exact (Int.natAbs_mul_self).symm
 obtain⟨b,r,u⟩:=e;have:=Cp r r;omega
theorem xK (K:Nat)(x y:Int)(H:1048577<K):Tot (Q177.f K (x,y,())) λ_=>True:=by
 simp only[Q177.f];rw[qC K x,qC K y];simp only[BK];have O:=zP (tr x);have M:=zP (tr y);generalize i9 x*i9 x=a at *;generalize i9 y*i9 y=b at *;have J:wr .i64 a=a:=aA (by omega) (by omega);have z:wr .i64 b=b:=aA (by omega) (by omega);have u:wr .i64 (a+b)=(((a+b).toNat:Nat):Int):=(aA (by omega) (by omega)).trans (by omega);rw[J,z,u];obtain⟨r,_,I⟩:=Bk K (a+b).toNat (by omega) H;rw[I];simp only[BK];rw[qC K r];exact⟨_,rfl,trivial⟩
theorem Bl (K:Nat)(c d:dw)(r:1048577<K):Tot (Q178.f K (c,d,())) λ_=>True:=by
 simp only[Q178.f];exact Tot.bind (iF K c).tot λ_ _=>Tot.cnd (λ_=>Tot.ret trivial) λ_=>Tot.bind (iF K d).tot λ_ _=>Tot.cnd (λ_=>Tot.ret trivial) λ_=>Tot.bind (xK K _ _ r) λ_ _=>Tot.ret trivial
theorem kV (K:Nat)(n y u:Int)(h:y<=u):Tot (Q172.f K (n,y,u,())) λr=>InP r.1.1 y u:=by
 simp only[Q172.f];exact Tot.cnd (λ_=>Tot.ret ⟨CQ _,h⟩) λz=>Tot.cnd (λ_=>Tot.ret ⟨h,CQ _⟩) λH=>Tot.ret ⟨Int.not_lt.1 (of_decide_eq_false z),Int.not_lt.1 (of_decide_eq_false H)⟩
theorem Bm (K:Nat)(c b:dw)(t s:Int)(H:cD c)(X:1048577<K):Tot (Q183.f K (c,b,t,s,())) λr=>cD r.1.1:=by
 simp only[Q183.f];refine Tot.bind (iF K c).tot λv I=>Tot.cnd (λh=>?_) λ_=>Tot.bind (iF K b).tot λv I=>Tot.cnd (λ_=>Tot.ret H) λy=>Tot.bind (cC K _ _ _).tot λv' O=>Tot.cnd (λ_=>Tot.ret H) λz=>?_
 ·rw[I.2 H]at h;cases h
 have hb:=I.1 (by simpa using y);have Z:=O.1 (by simpa using z);obtain⟨_,_,_,⟨c1,c2⟩⟩:=H;obtain⟨_,_,_,⟨b1,b2⟩⟩:=hb;obtain⟨t1,t2⟩:=Z;have R:¬ wr .i64 (c.2.2.2+b.2.2.2)=0:=by rw[aA (by omega) (by omega)];omega
 have u:∀ w:Int,Tot (Q182.f K (c,b,w,t,())) λr=>InP r.1.1 1 1500:=λw=>by
  simp only[Q182.f,Q181.f];refine Tot.bind (P:=λ_=>True) (Tot.cnd (λ_=>Tot.ret trivial) λ_=>Tot.ret trivial) λ_ _=>Tot.not (decide_eq_false (show ¬ t=0 by omega)) (Tot.bind (kV K _ _ _ (by omega)) λ_ _=>Tot.not (decide_eq_false R) (Tot.bind (kV K _ _ _ (by omega)) λ_ h=>Tot.ret h))
 refine Tot.bind (Bl K c b X) λ_ _=>?_
 simp only[Q179.f];refine Tot.bind (P:=λ_=>True) (Tot.not (decide_eq_false R) (Tot.ret trivial)) λ_ _=>Tot.bind (xK K _ _ X) λn _=>Tot.cnd (λ_=>?_) λh=>?_
 ·simp only[Q180.f];refine Tot.bind (P:=λ_=>True) (Tot.cnd (λ_=>Tot.ret trivial) λ_=>Tot.cnd (λ_=>Tot.ret trivial) λ_=>Tot.cnd (λ_=>Tot.ret trivial) λ_=>Tot.ret trivial) λ_ _=>Tot.cnd (λ_=>?_) λ_=>?_ <;>
  exact Tot.bind (kV K _ _ _ (by omega)) λ_ J=>Tot.bind (kV K _ _ _ (by omega)) λ_ y=>Tot.bind (kV K _ _ _ (by omega)) λ_ z=>Tot.bind (u _) λ_ M=>Tot.ret ⟨J,y,z,M⟩
 ·have Y:¬ n.1.1=0:=by simpa using h
  refine Tot.cnd (λ_=>?_) λ_=>?_ <;>
  exact Tot.not (decide_eq_false Y) (Tot.bind (kV K _ _ _ (by omega)) λ_ J=>Tot.not (decide_eq_false Y) (Tot.bind (kV K _ _ _ (by omega)) λ_ y=>Tot.bind (kV K _ _ _ (by omega)) λ_ z=>Tot.bind (u _) λ_ M=>Tot.ret ⟨J,y,z,M⟩))
noncomputable def pR (K:Nat)(c b:dw)(t s:Int):dw:=((Q183.f K (c,b,t,s,())).getD (((0,0,0,0),()),())).1.1
noncomputable def sk (K:Nat)(l:List Int):Int:=((Q184.f K (l,())).getD ((0,()),())).1.1
theorem xL (K:Nat)(c b:dw)(t s:Int)(u:cD c)(r:1048577<K):Q183.f K (c,b,t,s,())=some ((pR K c b t s,()),())/\cD (pR K c b t s):=by
 obtain⟨⟨⟨v,⟨⟩⟩,⟨⟩⟩,e,h⟩:=Bm K c b t s u r;unfold pR;rw[e];exact⟨rfl,h⟩
theorem med_t (K:Nat)(l:List Int)(hl:l.length<=100)(hK:1048577<K):Tot (Q184.f K (l,())) λ_=>True:=by
 simp only[Q184.f,Q184.pre];have H:∀ I:List Int,I.length<=100->Tot (Q184.l0 K (l,()) (I,[],0)) λ_=>True:=λI hx=>by
  refine Tot.iter (step:=λrec a=>Q184.s0 K (l,()) (Q184.l1 K (l,()) rec) rec a) (λa=>a.1=I/\0<=a.2.2/\a.2.2<=I.length/\(a.2.1.length:Int)=a.2.2) (λa=>I.length-a.2.2.toNat) ?_ K _ (by show I.length-BN 0<K;omega) ⟨rfl,by show (0:Int)<=0;omega,by show (0:Int)<=_;omega,rfl⟩;rintro rec ⟨ys,z,i⟩ ⟨rfl,X,h1,h2⟩ Y;simp only at X h1 h2 hx Y ⊢;simp only[Q184.s0];obtain⟨i,rfl⟩:=BP X;refine Tot.cnd (λh=>?_) λ_=>Tot.cnd (λ_=>Tot.ret trivial) λh=>?_
  ·have J:=of_decide_eq_true h;clear h;refine Tot.iter (step:=λu a=>Q184.s1 K (l,()) rec u a) (λa=>a.1=ys/\a.2.1=z/\a.2.2.1=i/\0<=a.2.2.2/\a.2.2.2<=z.length) (λa=>z.length-a.2.2.2.toNat) ?_ K _ (by show z.length-BN 0<K;omega) ⟨rfl,rfl,rfl,by show (0:Int)<=0;omega,by show (0:Int)<=_;omega⟩;rintro u ⟨O,r,j,k⟩ ⟨rfl,rfl,e,Z,k1⟩ M;simp only at e Z k1 J h1 h2 hx M Y ⊢;subst e;simp only[Q184.s1];obtain⟨k,rfl⟩:=BP Z;have a0:∀ y:Int,Tot (rec (O,(([]++((r.take (BN (k:Int))).drop (BN 0)))++([y]))++((r.take (BN (BL r:Int))).drop (BN (k:Int))),wr .i64 ((i:Int)+1))) λ_=>True:=λy=>by
    rw[ar i (by omega)];refine Y _ ⟨rfl,by show (0:Int)<=((i+1:Nat):Int);omega,by show ((i+1:Nat):Int)<=_;omega,?_⟩ (by show O.length-BN ((i+1:Nat):Int)<O.length-BN (i:Int);omega);simp only[BO,Ch,B8,BX,BZ,B5,CH,BQ,BU];omega
   have R:Tot (bif decide (0<=0)&&decide ((0:Int)<=(k:Int))&&decide ((k:Int)<=(BL r:Int))&&true then (bif decide ((BL ([]:List (Ty.den (.int .i64)))+BL ((r.take (BN (k:Int))).drop (BN 0)))*8<=ak) then ((idx O (i:Int)).bind λy3=>bif decide ((BL ([]++((r.take (BN (k:Int))).drop (BN 0)))+BL ([y3]))*8<=ak) then (bif decide ((0:Int)<=(k:Int))&&decide ((k:Int)<=(BL r:Int))&&decide ((BL r:Int)<=(BL r:Int))&&true then (bif decide ((BL (([]++((r.take (BN (k:Int))).drop (BN 0)))++([y3]))+BL ((r.take (BN (BL r:Int))).drop (BN (k:Int))))*8<=ak) then (rec (O,(([]++((r.take (BN (k:Int))).drop (BN 0)))++([y3]))++((r.take (BN (BL r:Int))).drop (BN (k:Int))),wr .i64 ((i:Int)+1))) else none) else none) else none) else none) else none) λ_=>True:=by
    refine Tot.must (by simp only[CR,decide_eq_true_eq,C7];omega) (Tot.fit (Tot.ix X J λy _ _=>Tot.fit (Tot.must (by simp only[CR,decide_eq_true_eq,C7];omega) (Tot.fit (a0 y) (by omega) ?_)) (by omega) ?_) (by omega) ?_) <;>
    simp only[BO,Ch,B8,BX,BZ,B5,CH,BQ,BU] <;> omega
   refine Tot.cnd (λh4=>?_) λ_=>R
   have h4:=of_decide_eq_true h4;refine Tot.ix Z h4 λy1 _ _=>Tot.ix X J λy2 _ _=>Tot.cnd (λ_=>?_) λ_=>R
   rw[ar k (by omega)];exact M _ ⟨rfl,rfl,rfl,by show (0:Int)<=((k+1:Nat):Int);omega,by show ((k+1:Nat):Int)<=_;omega⟩ (by show r.length-BN ((k+1:Nat):Int)<r.length-BN (k:Int);omega)
  ·have h:¬ (z.length:Int)=0:=by simpa using h
   rw[aA (n:=(z.length:Int)-1) (by omega) (by omega)];have e:Cs ((z.length:Int)-1) 2=((z.length:Int)-1) / 2:=by rw[CJ (by omega)]
   rw[e,aA (by omega) (by omega)];exact Tot.ix (by omega) (by omega) λy _ _=>Tot.ret trivial
 refine Tot.cnd (λh=>?_) λ_=>H l hl
 have h:=of_decide_eq_true h;rw[aA (n:=(l.length:Int)-3) (by omega) (by omega)];exact Tot.must (by simp only[CR,decide_eq_true_eq,C7];omega) (H _ (by simp only[CH,B5];omega))
theorem med_s (K:Nat)(l:List Int)(r:l.length<=100)(u:1048577<K):Q184.f K (l,())=some ((sk K l,()),()):=by
 obtain⟨⟨⟨v,⟨⟩⟩,⟨⟩⟩,e,_⟩:=med_t K l r u;unfold sk;rw[e];rfl
end Go.Proofs.YtaegajachoklkaaGreatEv
