/- The marks that a law writes into what was answered, and the look whether they still stand. -/
import Derived.Test.YtaegajachoklkabGreatP1
import Derived.Test.YtaegajachoklkabGreatE0
import Derived.Laws.Strings
set_option linter.unusedVariables false
set_option linter.unusedSimpArgs false
open Bool renaming not_true->BP,not_false->CB,and_eq_true->CN,eq_iff_iff->CR,true_and->CV,and_self->Ca,false_and->Ce,false_or->Ct,and_true->C3,true_or->C7,and_false->DE,or_true->DU
open ByteArray renaming size_extract->Cp
open Classical renaming not_not->Cm
open Eq renaming trans->Cw
open Go.ByteArray renaming toList_eq->DG
open Go.IntKind renaming wrap_i64->DP
open Int renaming toNat->BJ,toNat_natCast->BK,eq_ofNat_of_zero_le->BL,fdiv->B7,tdiv_eq_ediv_of_nonneg->CF,tmod->CJ,le_refl->CM,toNat_zero->Cd,tdiv->Co,le_trans->Cv,tmod_lt_of_pos->Cx,tmod_eq_emod_of_nonneg->Cy,le_of_lt->C6,tmod_nonneg->DB,tdiv_le_self->DQ,tdiv_nonneg->DS
open List renaming length->BH,getElem_mem->BI,length_cons->BM,mem_filter->BN,getElem_of_mem->BO,length_nil->BQ,append_nil->BR,getElem?_eq_getElem->BS,nil_append->BT,length_map->BU,length_append->BV,length_take->BY,mem_map->B3,drop_zero->B4,pairwise_cons->B5,reverse_reverse->B6,drop_eq_getElem_cons->B8,pairwise_map->B9,length_filter_le->CA,filter_cons->CC,length_drop->CD,take_of_length_le->CE,mem_singleton->CG,append_assoc->CH,filter_eq_self->CI,mem_cons->CK,pairwise_iff_getElem->CP,mem_append->CQ,pairwise_append->CS,take_succ_eq_append_getElem->CT,reverse_cons->CU,length_take_le->CW,length_pos_iff->CX,filter_append->CY,filter_eq_nil_iff->CZ,getElem?_eq_none->Cb,length_singleton->Cc,replicate->Cg,take_length->Ch,mem_of_find?_eq_some->Ci,length_reverse->Cj,getElem_take->Ck,length_replicate->Cq,not_mem_nil->Cr,ext_getElem->Cs,map_append->Cu,filter_congr->Cz,map_cons->C0,drop_length->C4,pairwise_singleton->C5,find?_cons->C8,find?_some->C9,length_set->DA,take_append_drop->DC,set_append_right->DD,mem_of_mem_take->DF,find?_eq_none->DH,mem_cons_self->DI,getElem_drop->DJ,getElem_map->DK,perm_middle->DL,cons_append->DM,getElem_set->DN,mem_range->DT,map_nil->DV
open List.Pairwise renaming filter->Cf
open Nat renaming le_refl->BW,zero_le->BX,le_trans->BZ,lt_or_eq_of_le->CO,mul_le_mul->Cl,lt_trichotomy->Cn
open Option renaming bind_some->BG,bind->CL,getD_some->DO,map_some->DR
namespace Go.Proofs.YtaegajachoklkabGreatEv
open Go
theorem k9 {α β R:Type}(t:List α)(p:α->Bool)(g:α->β)(n:Nat)(y:List β->Option R){step:(List β×Int->Option R)->List β×Int->Option R}
  (h:∀ (rec:List β×Int->Option R) (r:List β) (i:Nat) (J:i<t.length),r.length<=i->r.length<n->step rec (r,(i:Int))=rec (bif p t[i] then r++[g t[i]] else r,((i+1:Nat):Int)))
  (X:∀ (rec:List β×Int->Option R) (r:List β) (i:Nat),i<t.length->r.length<=i->n<=r.length->step rec (r,(i:Int))=y r)
  (z:∀ (rec:List β×Int->Option R) (r:List β),r.length<=t.length->step rec (r,(t.length:Int))=y r) :
  ∀ (d i k:Nat) (r:List β),i+d=t.length->d<k->r.length<=i->r.length<=n->ae step k (r,(i:Int))=y (r++(((t.drop i).filter p).map g).take (n-r.length)):=by
 intro d;induction d with
 |zero =>
  intro i k r J O H _;obtain⟨k,rfl⟩:∃ I,k=I+1:=⟨k-1,by omega⟩;have:i=t.length:=by omega
  subst this;show step (ae step k) _=_;rw[z _ _ H];simp
 |succ d M =>
  intro i k r J O H Y;obtain⟨k,rfl⟩:∃ I,k=I+1:=⟨k-1,by omega⟩;have u:i<t.length:=by omega
  show step (ae step k) _=_;by_cases hc:r.length<n
  ·rw[h _ _ _ u H hc,B8 u,CC];cases hp:p t[i] with
   |true =>
    simp only[cond_true,if_true,C0];rw[M (i+1) k _ (by omega) (by omega) (by simp;omega) (by simp;omega)];congr 1;obtain⟨m,Z⟩:∃ m,n-r.length=m+1:=⟨n-r.length-1,by omega⟩;rw[Z,List.take_succ_cons,CH];simp only[BV,BM,BQ];rw[show n-(r.length+(0+1))=m by omega];rfl
   |false =>
    simp only[cond_false];rw[M (i+1) k _ (by omega) (by omega) (by omega) (by omega)];rfl
  ·rw[X _ _ _ u H (by omega)];rw[show n-r.length=0 by omega];simp
theorem pD {α β R:Type}(t:List α)(p:α->Bool)(g:α->β)(u:List β->Option R){step:(List β×Int->Option R)->List β×Int->Option R}
  (h:∀ (rec:List β×Int->Option R) (r:List β) (i:Nat) (z:i<t.length),r.length<=i->step rec (r,(i:Int))=rec (bif p t[i] then r++[g t[i]] else r,((i+1:Nat):Int)))
  (y:∀ (rec:List β×Int->Option R) (r:List β),r.length<=t.length->step rec (r,(t.length:Int))=u r) {k:Nat} (I:t.length<k) :
  ae step k ([],0)=u ((t.filter p).map g):=by
 have:=k9 t p g (t.length+1) u (λrec r i z H _=>h rec r i z H) (λrec r i z H J=>by omega) y t.length 0 k [] (by omega) I (BW _) (by simp);refine this.trans ?_;congr 1;simp only[BT,BQ,B4];exact CE (by have:=CA p t;simp;omega)
theorem dU {e:Ty}{b:Nat}{xs:List e.den}(h:xs.length*b<=140737488355328):e8 e b xs=some ((xs,()),()):=by
 unfold e8;rw[decide_eq_true (by simpa[ak]using h)];rfl
theorem xe {α β:Type}{xs r:List α}{b:Nat}{x y:β}(h:(xs.length+r.length)*b<=140737488355328):(bif decide ((BH xs+BH r)*b<=ak) then x else y)=x:=by
 rw[decide_eq_true (by simpa[ak]using h)];rfl
theorem qv (K:Nat)(xs:List Int)(n:Int)(I:xs.length<=1048576):Q156.f K (xs,n,())=some ((xs.take n.toNat,()),()):=by
 simp only[Q156.f,Q155.f,BG,Q9.f];obtain⟨c,z,u,y,r⟩:∃ c:Int,(bif decide (0<(bif decide ((xs.length:Int)<n) then (xs.length:Int) else n)) then bif decide ((xs.length:Int)<n) then (xs.length:Int) else n else 0)=c/\0<=c/\c<=xs.length/\xs.take c.toNat=xs.take n.toNat:=by
  by_cases h:(xs.length:Int)<n
  ·rw[decide_eq_true h];simp only[cond_true];by_cases r:0<(xs.length:Int)
   ·rw[decide_eq_true r];refine⟨_,rfl,by simp,by simp,?_⟩;simp only[cond_true];rw[CE (by omega),CE (by omega)]
   ·rw[decide_eq_false r];refine⟨_,rfl,by simp,by simp,?_⟩;have:xs=[]:=List.eq_nil_of_length_eq_zero (by omega);subst this;simp
  ·rw[decide_eq_false h];simp only[cond_false];by_cases r:0<n
   ·rw[decide_eq_true r];exact⟨_,rfl,by simp;omega,by simp;omega,rfl⟩
   ·rw[decide_eq_false r];refine⟨_,rfl,by simp,by simp,?_⟩;simp only[cond_false];rw[show n.toNat=0 by omega];rfl
 rw[z,decide_eq_true u,decide_eq_true y];simp only[Cd,B4,decide_true,Ca,cond_true];rw[dU (by
  have:=CW c.toNat xs;have H:(List.take c.toNat xs).length<=1048576:=by omega
  omega)]
 simp only[BG];rw[r];rfl
theorem qw (K:Nat)(t:List ag)(r:ag×Unit->Option Bool)(p:ag->Bool)(J:t.length<=1048576)(I:1048577<K)(hφ:∀ f∈t,r (f,())=some (p f)) :
  Q157.f K (t,r,())=some (((t.filter p).map (·.1),()),()):=by
 refine pD (step:=λrec a=>Q157.s0 K (t,r,()) rec a) t p (λf=>f.1) (λz=>some ((z,()),())) ?_ ?_ (by omega)
 ·intro rec u i y H;simp only[Q157.s0];rw[bi (by omega:(i:Int)<(BH t:Int)),af y,ar i (by omega)];simp only[cond_true,BG];rw[hφ _ (BI y)];simp only[BG];cases p t[i] with
  |true=>simp only[cond_true];rw[xe (by simp;omega)]
  |false=>rfl
 ·intro rec u _;simp only[Q157.s0,aR];rfl
def gu (f:ag):Bool:=f.2.2.2&&f.2.2.1==1
def ct (t:List ag):List Int:=((t.filter gu).map (·.1)).take 2
theorem uU (K:Nat)(t:List ag)(J:t.length<=1048576)(I:1048577<K):Q96.f K (t,2,())=some ((ct t,()),()):=by
 have:=k9 (step:=λrec a=>Q96.s0 K (t,2,()) rec a) t gu (λf=>f.1) 2 (λH=>some ((H,()),())) ?_ ?_ ?_ t.length 0 K [] (by omega) (by omega) (BW _) (by simp)
 ·exact this
 ·intro rec r i u z y;simp only[Q96.s0];rw[bi (by omega:(i:Int)<(BH t:Int)),af u,ar i (by omega),decide_eq_true (by omega:(BH r:Int)<2)];simp only[cond_true,BG,gu];cases t[i].2.2.2 with
  |true =>
   simp only[cond_true,CV];cases t[i].2.2.1==1 with
   |true=>simp only[cond_true];rw[xe (by simp;omega)]
   |false=>rfl
  |false=>rfl
 ·intro rec r i u z y;simp only[Q96.s0];rw[bi (by omega:(i:Int)<(BH t:Int)),decide_eq_false (by omega:¬ (BH r:Int)<2)];rfl
 ·intro rec r _;simp only[Q96.s0,aR];rfl
theorem qx (K:Nat)(t:List ag)(u:t.length<=1048576)(r:1048577<K)(z:az t):Q184.f K (t,2,())=some ((ct t,()),()):=by
 obtain⟨b,y,H⟩:=jC K t u r;simp only[Q184.f];rw[y];simp only[BG,H.2 z,BP,cond_false];rw[qw K t _ gu u r (λf _=>by
  simp only[Q183.f,gu];cases f.2.2.2 <;> rfl)]
 simp only[BG];rw[qv K _ 2 (by have:=CA gu t;simp;omega)];rfl
theorem mN (t:List ag):(ct t).length<=2:=by
 unfold ct;exact CW _ _
def cW (l:List cR)(s:Int):List ag:=((l.find? λx=>x.1==s).map (·.2)).getD []
theorem pE {R:Type}(l:List cR)(s:Int)(r:List ag->Option R){step:(Int->Option R)->Int->Option R}
  (h:∀ (rec:Int->Option R) (i:Nat) (H:i<l.length),step rec (i:Int)=bif l[i].1==s then r l[i].2 else rec ((i+1:Nat):Int))
  (u:∀ rec:Int->Option R,step rec (l.length:Int)=r []) :
  ∀ (d i k:Nat),i+d=l.length->d<k->ae step k (i:Int)=r (cW (l.drop i) s):=by
 intro d;induction d with
 |zero =>
  intro i k H I;obtain⟨k,rfl⟩:∃ z,k=z+1:=⟨k-1,by omega⟩;have:i=l.length:=by omega
  subst this;show step (ae step k) _=_;rw[u];simp[cW]
 |succ d J =>
  intro i k H I;obtain⟨k,rfl⟩:∃ z,k=z+1:=⟨k-1,by omega⟩;have y:i<l.length:=by omega
  show step (ae step k) _=_;rw[h _ _ y,B8 y];simp only[cW,C8];cases l[i].1==s with
  |true=>rfl
  |false=>exact J (i+1) k (by omega) (by omega)
theorem z8 (K:Nat)(n:aa)(s:Int)(u:NB n)(y:1048577<K):Q185.f K (n,s,())=some ((cW (aa.others n) s,()),()):=by
 have z:=u.others;refine pE (step:=λrec a=>Q185.s0 K (n,s,()) rec a) (aa.others n) s (λt=>some ((t,()),())) ?_ ?_ (aa.others n).length 0 K (by omega) (by omega)
 ·intro rec i r;simp only[Q185.s0];rw[bi (by omega:(i:Int)<(BH (aa.others n):Int)),af r,ar i (by omega)];rfl
 ·intro rec;simp only[Q185.s0,aR];rfl
theorem mO {l:List cR}{s:Int}:cW l s=[]\/∃ x∈l,x.1=s/\cW l s=x.2:=by
 unfold cW;cases h:l.find? λx=>x.1==s with
 |none=>exact .inl rfl
 |some x=>exact .inr ⟨x,Ci h,by simpa using C9 h,rfl⟩
def bG {α:Type}(k:α->Int)(x:α)(xs:List α):List α:=xs.filter (λy=>decide (k y<k x))++x::xs.filter (λy=>decide (k x<k y))
theorem qZ {α:Type}{k:α->Int}{xs:List α}{v:Int}{m:Nat}(J:m<=xs.length)(H:∀ i,(z:i<xs.length)->i<m->k xs[i]<v)(z:∀ i,(h:i<xs.length)->m<=i->v<=k xs[i]):xs.filter (λy=>decide (k y<v))=xs.take m:=by
 conv=>lhs;rw[<- DC m xs]
 rw[CY];have r:(xs.take m).filter (λy=>decide (k y<v))=xs.take m:=by
  rw[CI];intro y u;obtain⟨i,r,rfl⟩:=BO u;rw[BY]at r;rw[Ck];exact decide_eq_true (H i (by omega) (by omega))
 have I:(xs.drop m).filter (λy=>decide (k y<v))=[]:=by
  rw[CZ];intro y u;obtain⟨i,r,rfl⟩:=BO u;rw[CD]at r;rw[DJ];have:=z (m+i) (by omega) (by omega);simp only[decide_eq_true_eq];omega
 rw[r,I,BR]
theorem q8 {α:Type}{k:α->Int}{xs:List α}{v:Int}{m:Nat}(J:m<=xs.length)(H:∀ i,(z:i<xs.length)->i<m->k xs[i]<=v)(z:∀ i,(h:i<xs.length)->m<=i->v<k xs[i]):xs.filter (λy=>decide (v<k y))=xs.drop m:=by
 conv=>lhs;rw[<- DC m xs]
 rw[CY];have r:(xs.take m).filter (λy=>decide (v<k y))=[]:=by
  rw[CZ];intro y u;obtain⟨i,r,rfl⟩:=BO u;rw[BY]at r;rw[Ck];have:=H i (by omega) (by omega);simp only[decide_eq_true_eq];omega
 have I:(xs.drop m).filter (λy=>decide (v<k y))=xs.drop m:=by
  rw[CI];intro y u;obtain⟨i,r,rfl⟩:=BO u;rw[CD]at r;rw[DJ];exact decide_eq_true (z (m+i) (by omega) (by omega))
 rw[r,I,BT]
theorem ku {α:Type}{k:α->Int}{xs:List α}{x:α}{m:Nat}(h:Asc k xs)(H:m<xs.length)(e:k xs[m]=k x):xs.set m x=bG k x xs:=by
 have M:=dl.1 h;have J:∀ i,(u:i<xs.length)->i<m->k xs[i]<k x:=λi u z=>by rw[<- e];exact M i m u H z
 have I:∀ i,(u:i<xs.length)->m<i->k x<k xs[i]:=λi u z=>by rw[<- e];exact M m i H u z
 rw[bG,qZ (m:=m) (by omega) J (λi u r=>by
   rcases CO r with y|y
   ·exact C6 (I i u y)
   ·subst y;omega),
  q8 (m:=m+1) (by omega) (λi u r=>by
   rcases CO (Nat.le_of_lt_succ r) with y|y
   ·exact C6 (J i u y)
   ·subst y;omega) (λi u r=>I i u r),
  List.set_eq_take_append_cons_drop,if_pos H]
theorem jf {α:Type}{k:α->Int}{xs:List α}{x:α}{m:Nat}(H:m<=xs.length)(z:∀ i,(y:i<xs.length)->i<m->k xs[i]<k x)(y:∀ i,(h:i<xs.length)->m<=i->k x<k xs[i]):xs.take m++[x]++xs.drop m=bG k x xs:=by
 rw[bG,qZ H z (λi r u=>C6 (y i r u)),q8 H (λi r u=>C6 (z i r u)) y,CH];rfl
theorem aZ {α:Type}{k:α->Int}{xs:List α}{x y:α}:y∈bG k x xs<->y=x\/(y∈xs/\k y≠k x):=by
 simp only[bG,CQ,CK,BN,decide_eq_true_eq];constructor
 ·rintro (⟨r,z⟩|rfl|⟨r,z⟩)
  ·exact .inr ⟨r,by omega⟩
  ·exact .inl rfl
  ·exact .inr ⟨r,by omega⟩
 ·rintro (rfl|⟨r,z⟩)
  ·exact .inr (.inl rfl)
  ·rcases Int.lt_or_gt_of_ne z with u|u
   ·exact .inl ⟨r,u⟩
   ·exact .inr (.inr ⟨r,u⟩)
theorem fg {α:Type}{k:α->Int}{xs:List α}{x:α}(h:Asc k xs):Asc k (bG k x xs):=by
 unfold Asc bG;rw[CS,B5];refine⟨h.filter _,⟨λy u=>?_,h.filter _⟩,λy u z r=>?_⟩
 ·simpa using (BN.1 u).2
 ·have H:k y<k x:=by simpa using (BN.1 u).2
  rcases CK.1 r with rfl|r
  ·exact H
  ·have I:k x<k z:=by simpa using (BN.1 r).2
   omega
theorem yI {α:Type}{k:α->Int}{xs:List α}{x:α}:(bG k x xs).length<=xs.length+1:=by
 have:∀ l:List α,(l.filter (λy=>decide (k y<k x))).length+(l.filter (λy=>decide (k x<k y))).length<=l.length:=by
  intro l;induction l with
  |nil=>simp
  |cons y l u =>
   simp only[CC,BM];by_cases r:k y<k x
   ·rw[if_pos (decide_eq_true r),if_neg (by simp;omega)];simp only[BM];omega
   ·rw[if_neg (by simpa using r)];split <;> (try simp only[BM]) <;> omega
 have:=this xs;simp only[bG,BV,BM];omega
theorem oY {α:Type}{k:α->Int}{xs:List α}(h:Asc k xs){i:Nat}(u:i<xs.length){v:Int}(e:k xs[i]=v):xs.find? (λy=>k y==v)=some xs[i]:=by
 cases r:xs.find? (λy=>k y==v) with
 |none =>
  have:=DH.1 r xs[i] (BI u);simp[e]at this
 |some y =>
  have H:k y=v:=by simpa using C9 r
  obtain⟨j,z,rfl⟩:=BO (Ci r);have:=oR h z u (by rw[H,e]);subst this;rfl
theorem nO {α:Type}{k:α->Int}{xs:List α}{v:Int}(h:∀ y∈xs,k y≠v):xs.find? (λy=>k y==v)=none:=by
 rw[DH];intro y r;simpa using h y r
def kb {α:Type}(k:α->Int)(x:α):Bool->List α->List α
 |d,[]=>bif d then [] else [x]
 |d,y::r=>(bif !d&&decide (k x<=k y) then [x] else [])++((bif k y != k x then [y] else [])++kb k x (d||decide (k x<=k y)) r)
theorem pF {α:Type}{k:α->Int}{x:α}:∀ {r:List α},(∀ y∈r,k x<k y)->kb k x true r=r
 |[],_=>rfl
 |y::r,h=>by
  have H:=h y (by simp);simp only[kb,BP,Ce,cond_false,C7,BT];rw[pF (λz u=>h z (by simp[u])),show (k y != k x)=true by simp;omega];rfl
theorem la {α:Type}{k:α->Int}{x:α}:∀ {xs:List α},Asc k xs->kb k x false xs=bG k x xs
 |[],_=>rfl
 |y::r,h=>by
  have O:Asc k r:=(B5.1 h).2;have H:∀ z∈r,k y<k z:=(B5.1 h).1;simp only[kb,CB,CV,Ct];by_cases I:k x<=k y
  ·rw[decide_eq_true I,pF (λz u=>by have:=H z u;omega)];simp only[cond_true,bG,CC];have R:r.filter (λz=>decide (k z<k x))=[]:=by
    rw[CZ];intro z u;have:=H z u;simp;omega
   have M:r.filter (λz=>decide (k x<k z))=r:=by
    rw[CI];intro z u;have:=H z u;simp;omega
   rw[R,M,if_neg (by simp;omega)];by_cases J:k y=k x
   ·rw[if_neg (by simp;omega),show (k y != k x)=false by simpa using J];rfl
   ·rw[if_pos (by simp;omega),show (k y != k x)=true by simpa using J];rfl
  ·rw[decide_eq_false I,la O,show (k y != k x)=true by simp;omega];simp only[cond_false,cond_true,bG,CC,BT];rw[if_pos (by simp;omega),if_neg (by simp;omega)];rfl
theorem sP {α A R:Type}(k:α->Int)(x:α)(t:List α)(q:α->Bool)(O:Option R)(I:List α->Option R)(S:List α->Bool->Nat->A){step:(A->Option R)->A->Option R}
  (h:∀ (rec:A->Option R) (r:List α) (d:Bool) (i:Nat) (X:i<t.length),r.length<=i+1->(d=false->r.length<=i)->step rec (S r d i)=bif q t[i] then O else rec (S ((r++(bif !d&&decide (k x<=k t[i]) then [x] else []))++(bif k t[i] != k x then [t[i]] else [])) (d||decide (k x<=k t[i])) (i+1)))
  (H:∀ (rec:A->Option R) (r:List α) (d:Bool),r.length<=t.length+1->(d=false->r.length<=t.length)->step rec (S r d t.length)=I (r++(bif d then [] else [x]))) :
  ∀ (n i K:Nat) (r:List α) (d:Bool),i+n=t.length->n<K->r.length<=i+1->(d=false->r.length<=i)->ae step K (S r d i)=bif (t.drop i).any q then O else I (r++kb k x d (t.drop i)):=by
 intro n;induction n with
 |zero =>
  intro i K r d X Z M u;obtain⟨K,rfl⟩:∃ J,K=J+1:=⟨K-1,by omega⟩;have:i=t.length:=by omega
  subst this;show step (ae step K) _=_;rw[H _ _ _ M u,C4];rfl
 |succ n ih =>
  intro i K r d X Z M u;obtain⟨K,rfl⟩:∃ J,K=J+1:=⟨K-1,by omega⟩;have y:i<t.length:=by omega
  show step (ae step K) _=_;rw[h _ _ _ _ y M u,B8 y,List.any_cons];cases hq:q t[i] with
  |true=>rfl
  |false =>
   simp only[cond_false,Ct,kb];rw[ih (i+1) K _ _ (by omega) (by omega) ?_ ?_]
   ·simp only[CH]
   ·cases d with
    |true =>
     simp only[BP,Ce,cond_false,BR];cases k t[i] != k x <;> simp <;> omega
    |false =>
     have:=u rfl;cases Y:decide (k x<=k t[i]) <;> cases k t[i] != k x <;> simp <;> omega
   ·intro z;rw[Bool.or_eq_false_iff]at z;obtain⟨rfl,Y⟩:=z;have:=u rfl;rw[Y];cases k t[i] != k x <;> simp <;> omega
theorem lf (K:Nat)(n:aa)(y:NB n)(r:1048577<K):∃ b,Q224.f K (n,())=rb b/\Q212.f K (n,())=rb b/\(b=true<->iP n):=by
 obtain⟨b,H,u⟩:=sN K n y r;obtain⟨J,z,I⟩:=sO K n y r;have:b=J:=by rw[CR,u,I]
 subst this;exact⟨b,H,z,u⟩
theorem iP.up {n:aa}(h:iP n)(r:n.2.1=true):UpP n:=by
 have:=h.2.2.2.2.2
 rwa [if_pos r]at this
abbrev ap:=Int×Int×Int×Int×Int×Int×du×List ag
abbrev ap.table (w:ap):List ag:=w.2.2.2.2.2.2.2
abbrev ap.coord (w:ap):du:=w.2.2.2.2.2.2.1
def pG:List ag->Prop
 |[]=>False
 |f::l=>ce (f::l) (ao f.1)
def iQ (w:ap):Prop:=InP w.1 1 2/\InP w.2.1 1 6/\InP w.2.2.1 0 7/\InP w.2.2.2.1 0 7/\InP w.2.2.2.2.1 0 999999/\InP w.2.2.2.2.2.1 0 7/\cD (ap.coord w)/\az (ap.table w) /\
 (if w.2.1=6 then pG (ap.table w) else ce (ap.table w) (ao w.2.2.1))
theorem sQ (K:Nat)(w:ap)(u:(ap.table w).length<=1048576)(r:1048577<K):Ret (Q33.f K (w,())) (iQ w):=by
 refine Ret.nx (cC K _ _ _) λ_=>Ret.nx (cC K _ _ _) λ_=>Ret.nx (cC K _ _ _) λ_=>Ret.nx (cC K _ _ _) λ_=>Ret.nx (cC K _ _ _) λ_=>Ret.nx (cC K _ _ _) λ_=>Ret.nx (iD K _) λ_=>Ret.nx (gq K _ u r) λ_=>?_
 dsimp only;by_cases h:w.2.1=6
 ·rw[show (w.2.1==6)=true by simpa using h,if_pos h];obtain⟨w1,w2,w3,w4,w5,z,y,t⟩:=w;cases t with
  |nil=>exact Ret.no (λh=>h)
  |cons f l =>
   rw[show decide ((BH (f::l):Int)>0)=true from decide_eq_true (by simp only[BM];omega)];simp only[cond_true];exact Ret.vl (af (xs:=f::l) (i:=0) (by simp)) (gr K _ _ u r).id
 ·rw[show (w.2.1==6)=false by simpa using h,if_neg h];exact (gr K _ _ u r).id
theorem iF {α A R:Type}(xs:List α)(S:List α->Nat->A)(r:Option R){step:(A->Option R)->A->Option R}
  (h:∀ (rec:A->Option R) (u:List α) (i:Nat) (z:i<xs.length),u.length=i->step rec (S u i)=rec (S (u++[xs[i]]) (i+1))) (y:∀ rec:A->Option R,step rec (S xs xs.length)=r) {k:Nat} (H:xs.length<k):ae step k (S [] 0)=r:=by
 refine er (step:=step) xs.length (λi=>S (xs.take i) i) r ?_ ?_ H
 ·intro rec i z;show step rec (S (xs.take i) i)=rec (S (xs.take (i+1)) (i+1));rw[h rec (xs.take i) i z (by simp;omega),CT z]
 ·intro rec;show step rec (S (xs.take xs.length) xs.length)=r;rw[Ch];exact y rec
theorem szb (a b c:Nat)(r:c<=64)(h:a+b<=2097152):decide ((a+b)*c<=ak)=true:=by
 have:=Cl h r;exact decide_eq_true (by unfold ak;omega)
theorem jG (K:Nat)(n:aa)(y:NB n)(H:1048577<K):Q109.f K (n,())=some ((n,()),()):=by
 have R:=y.table;have I:=y.cast;have O:=y.doubts;have M:=y.places;have J:=y.others;simp only[Q109.f,Q109.pre];rw[szb _ _ _ (by omega) (by show (BH ([]:List ag))+(aa.table n).length<=_;simp;omega),szb _ _ _ (by omega) (by show (BH ([]:List aM))+(aa.cast n).length<=_;simp;omega)];simp only[cond_true];refine iF (aa.doubts n) (step:=λrec a=>Q109.s0 K (n,()) (Q109.l1 K (n,())) rec a) (λr i=>((i:Int),r)) _ ?_ ?_ (by omega)
 ·intro rec r i u z;have:=y.by_ _ (BI u);simp only[Q109.s0];rw[bi (by omega:(i:Int)<(BH (aa.doubts n):Int)),af u,ar i (by omega)];simp only[cond_true,BG];rw[szb _ _ _ (by omega) (by simp;omega),szb _ _ _ (by omega) (by simp;omega)];rfl
 ·intro rec;simp only[Q109.s0,aR,cond_false];refine iF (aa.places n) (step:=λrec a=>Q109.s1 K (n,()) (Q109.l2 K (n,())) rec a) (λr i=>((i:Int),aa.doubts n,r)) _ ?_ ?_ (by omega)
  ·intro rec r i u z;have:=y.trips _ (BI u);simp only[Q109.s1];rw[bi (by omega:(i:Int)<(BH (aa.places n):Int)),af u,ar i (by omega)];simp only[cond_true,BG];rw[szb _ _ _ (by omega) (by simp;omega),szb _ _ _ (by omega) (by simp;omega)];rfl
  ·intro rec;simp only[Q109.s1,aR,cond_false];refine iF (aa.others n) (step:=λrec a=>Q109.s2 K (n,()) rec a) (λr i=>((i:Int),aa.doubts n,aa.places n,r)) _ ?_ ?_ (by omega)
   ·intro rec r i u z;have:=y.facts _ (BI u);simp only[Q109.s2,zcp8];rw[bi (by omega:(i:Int)<(BH (aa.others n):Int)),af u,ar i (by omega)];simp only[cond_true,BG];rw[szb _ _ _ (by omega) (by simp;omega),szb _ _ _ (by omega) (by simp;omega)];rfl
   ·intro rec;simp only[Q109.s2,zcp8,aR,cond_false];rfl
theorem yJ (K:Nat)(n:aa)(y:NB n)(H:1048577<K):Q213.f K (n,())=some ((n,()),()):=by
 have R:=y.table;have I:=y.cast;have O:=y.doubts;have M:=y.places;have J:=y.others;simp only[Q213.f,Q213.pre];refine iF (aa.doubts n) (step:=λrec a=>Q213.s0 K (n,()) (Q213.l1 K (n,())) rec a) (λr i=>(r,(i:Int))) _ ?_ ?_ (by omega)
 ·intro rec r i u z;have:=y.by_ _ (BI u);simp only[Q213.s0,Q9.f];rw[bi (by omega:(i:Int)<(BH (aa.doubts n):Int)),af u,ar i (by omega)];simp only[cond_true,BG];rw[dU (by omega)];simp only[BG];rw[szb _ _ _ (by omega) (by simp;omega)];rfl
 ·intro rec;simp only[Q213.s0,aR,cond_false];refine iF (aa.places n) (step:=λrec a=>Q213.s1 K (n,()) (Q213.l2 K (n,())) rec a) (λr i=>(aa.doubts n,r,(i:Int))) _ ?_ ?_ (by omega)
  ·intro rec r i u z;have:=y.trips _ (BI u);simp only[Q213.s1,Q9.f];rw[bi (by omega:(i:Int)<(BH (aa.places n):Int)),af u,ar i (by omega)];simp only[cond_true,BG];rw[dU (by omega)];simp only[BG];rw[szb _ _ _ (by omega) (by simp;omega)];rfl
  ·intro rec;simp only[Q213.s1,aR,cond_false];refine iF (aa.others n) (step:=λrec a=>Q213.s2 K (n,()) rec a) (λr i=>(aa.doubts n,aa.places n,r,(i:Int))) _ ?_ ?_ (by omega)
   ·intro rec r i u z;have:=y.facts _ (BI u);simp only[Q213.s2,zcp8,Q3.f];rw[bi (by omega:(i:Int)<(BH (aa.others n):Int)),af u,ar i (by omega)];simp only[cond_true,BG];rw[dU (by omega)];simp only[BG];rw[szb _ _ _ (by omega) (by simp;omega)];rfl
   ·intro rec;simp only[Q213.s2,zcp8,aR,cond_false,Q3.f,Q5.f];rw[dU (by show (aa.table n).length*_<=_;omega),dU (by show (aa.cast n).length*_<=_;omega)];rfl
instance (f g:ag):Decidable (bQ f g):=by unfold bQ;infer_instance
theorem pH (K:Nat)(f g:ag):Q45.f K (f,g,())=rb (decide (bQ f g)):=by
 obtain⟨b,r,u⟩:=sM K f g;rw[r,show b=decide (bQ f g) by rw[CR,u];simp]
def bS (t:List ag)(f:ag):List ag×Bool :=
 match t.find? (λg=>g.1==f.1) with
 |some g=>if bQ f g then (bG (λg=>g.1) f t,true) else (t,false)
 |none=>(bG (λg=>g.1) f t,true)
theorem kv {t:List ag}{f:ag}(r:Asc (λg:ag=>g.1) t){i:Nat}(u:i<t.length)(e:t[i].1=f.1):bS t f=if bQ f t[i] then (bG (λg=>g.1) f t,true) else (t,false):=by
 unfold bS;rw[show t.find? (λg=>g.1==f.1)=some t[i] from oY r u e]
theorem im {t:List ag}{f:ag}(h:∀ g∈t,g.1≠f.1):bS t f=(bG (λg=>g.1) f t,true):=by
 unfold bS;rw[show t.find? (λg=>g.1==f.1)=none from nO h]
theorem mP {e:Ty}{b:Nat}{xs:List e.den}{m:Nat}{v:e.den}(u:m<=xs.length)(r:b<=64)(y:xs.length<=1048576):iz e b xs (m:Int) [v]=some ((xs.take m++[v]++xs.drop m,()),()):=by
 unfold iz;have:(xs.length+[v].length)*b<=140737488355328:=BZ (Cl (show xs.length+[v].length<=1048577 by simp;omega) r) (by decide);rw[if_pos ⟨by omega,by omega,by simp,by simpa only[ak]using this⟩,BK]
theorem q9 {e:Ty}{xs:List e.den}{u:e.den×Unit->Option Bool}(p:e.den->Bool)(z:xs.length<=1048576)(h:∀ x∈xs,u (x,())=some (p x)):gI e xs u=some ((xs.filter (λx=>!p x),()),()):=by
 have:∀ r:List e.den,(∀ x∈r,u (x,())=some (p x))->lY u r=some (r.filter (λx=>!p x)):=by
  intro r;induction r with
  |nil=>intro _;rfl
  |cons y r H =>
   intro h;simp only[lY,h y (by simp),BG,H (λx z=>h x (by simp[z])),DR,CC];cases p y <;> rfl
 unfold gI;rw[if_pos z,this xs h];rfl
theorem put_s (K:Nat)(t:List ag)(f:ag)(ht:t.length<=1048576)(R:Asc (λg:ag=>g.1) t)(Z:1048577<K):Q46.f K (t,f,())=some (((bS t f).1,(bS t f).2,()),()):=by
 simp only[Q46.f,Q46.pre];obtain⟨o,H,I⟩:=fw K t f.1 ht Z;rw[I];simp only[BG];cases H with
 |at_ i r e =>
  simp only;rw[kv R r e,decide_eq_true (by omega:((i:Nat):Int)>=0),af r];simp only[cond_true,BG];rw[show Q45.f K (f,t[i],())=_ from pH K f t[i]];simp only[BG];by_cases H:bQ f t[i]
  ·rw[decide_eq_true H,if_pos H];simp only[BP,cond_false];rw[szb _ _ _ (by omega) (by show (BH ([]:List ag))+t.length<=_;simp;omega)];simp only[cond_true,BT,af r,BG,BK];rw[ku (k:=λg:ag=>g.1) R r e]
  ·rw[decide_eq_false H,if_neg H];rfl
 |no h =>
  simp only;rw[im h,decide_eq_false (by omega:¬ (-1:Int)>=0)];simp only[cond_false];have J:∀ m:Nat,m<=t.length->(bif decide ((0:Int)<=0)&&decide ((0:Int)<=(m:Int))&&decide ((m:Int)<=(BH t:Int))&&true then (bif decide ((BH ([]:List ag)+BH ((t.take (BJ (m:Int))).drop (BJ 0)))*32<=ak) then (bif decide ((BH ([]++((t.take (BJ (m:Int))).drop (BJ 0)))+BH ([f]))*32<=ak) then (bif decide ((0:Int)<=(m:Int))&&decide ((m:Int)<=(BH t:Int))&&decide ((BH t:Int)<=(BH t:Int))&&true then (bif decide ((BH (([]++((t.take (BJ (m:Int))).drop (BJ 0)))++([f]))+BH ((t.take (BJ (BH t:Int))).drop (BJ (m:Int))))*32<=ak) then (some (((([]++((t.take (BJ (m:Int))).drop (BJ 0)))++([f]))++((t.take (BJ (BH t:Int))).drop (BJ (m:Int))),true,()),())) else none) else none) else none) else none) else (none:Option ((List ag×Bool×Unit)×Unit)))=some ((t.take m++[f]++t.drop m,true,()),()):=by
   intro m X;rw[decide_eq_true (by omega:(0:Int)<=0),decide_eq_true (by omega:(0:Int)<=(m:Int)),decide_eq_true (by omega:(m:Int)<=(BH t:Int)),decide_eq_true (by omega:(BH t:Int)<=(BH t:Int))];simp only[BK,Cd,B4,BT,Ch,Ca,cond_true];have I:(t.take m).length=m:=by rw[BY];omega
   have z:(t.drop m).length=t.length-m:=CD;rw[szb _ _ _ (by omega) (by simp only[BQ];omega),szb _ _ _ (by omega) (by simp only[BM,BQ];omega),szb _ _ _ (by omega) (by simp only[BV,BM,BQ];omega)];rfl
  have:=ch (step:=λrec a=>Q46.s0 K (t,f,()) rec a) t.length (λi=>(i:Int)) (λj=>∃ h:j<t.length,¬ t[j].1<f.1) (some ((t.take t.length++[f]++t.drop t.length,true,()),())) (λj=>some ((t.take j++[f]++t.drop j,true,()),())) ?_ ?_ t.length K 0 (by omega) (by omega)
  ·have M:∀ m,m<=t.length->(∀ i,(r:i<t.length)->i<m->t[i].1<f.1)->(∀ i,(r:i<t.length)->m<=i->f.1<t[i].1)->t.take m++[f]++t.drop m=bG (λg=>g.1) f t:=λm X Y r=>jf (k:=λg:ag=>g.1) X Y r
   rcases this with ⟨I,z⟩|⟨j,_,I,⟨h3,h4⟩,h5,z⟩
   ·rw[M t.length (BW _) (λi r _=>by
     have:=I i (BX _) r;exact Cm.1 λh=>this ⟨r,h⟩) (λi r h=>by omega)]at z
    exact z
   ·rw[M j (by omega) (λi r y=>by
     have:=h5 i (BX _) y;exact Cm.1 λh=>this ⟨r,h⟩) (λi r y=>by
     have a0:=h t[i] (BI r);rcases CO y with O|O
     ·have:=dl.1 R j i h3 r O;omega
     ·subst O;omega)]at z
    exact z
  ·intro rec i r;simp only[Q46.s0];rw[bi (by omega:(i:Int)<(BH t:Int)),af r,ar i (by omega)];simp only[cond_true,BG];by_cases u:t[i].1<f.1
   ·exact .inl ⟨λ⟨_,h⟩=>h u,by rw[decide_eq_true u];rfl⟩
   ·exact .inr ⟨⟨r,u⟩,by rw[decide_eq_false u];exact J i (by omega)⟩
  ·intro rec;simp only[Q46.s0,aR,cond_false];exact J t.length (BW _)
theorem zJ (K:Nat)(t:List ag)(f:ag)(X:t.length<=1048576)(H:Asc (λg:ag=>g.1) t)(R:1048577<K):Q142.f K (t,f,())=some (((bS t f).1,(bS t f).2,()),()):=by
 simp only[Q142.f,Q3.f,Q4.f];rw[dU (by omega)];simp only[BG];obtain⟨m,r,Y⟩:=sL K t f.1 X H R;rw[Y];simp only[BG];by_cases J:∃ h:m<t.length,t[m].1=f.1
 ·obtain⟨I,z⟩:=J;rw[decide_eq_true ⟨I,z⟩,kv H I z];simp only[BP,cond_false,af I,BG,BK];rw[mM K f t[m] R];simp only[BG];by_cases M:bQ f t[m]
  ·rw[decide_eq_true ((jE z.symm).2 M),if_pos M,ku (k:=λg:ag=>g.1) H I z];rfl
  ·rw[decide_eq_false (λh=>M ((jE z.symm).1 h)),if_neg M];rfl
 ·rw[decide_eq_false J,im (λg hg e=>by
   obtain⟨i,u,rfl⟩:=BO hg;rcases Cn i m with h|h|h
   ·have:=r.lo i u h;omega
   ·subst h;exact J ⟨u,e⟩
   ·have Z:=r.hi m (by omega) (BW _);have O:=dl.1 H m i (by omega) u h;omega)]
  simp only[CB,cond_true];rw[mP r.le (by omega) X];simp only[BG];rw[jf (k:=λg:ag=>g.1) r.le r.lo (λi u y=>by
   have:=r.hi i u y;rcases CO y with O|O
   ·have Z:=r.hi m (by omega) (BW _);have h7:=dl.1 H m i (by omega) u O;omega
   ·subst O;have:t[m].1≠f.1:=λe=>J ⟨u,e⟩
    omega)]
def dm (l:List aM)(f:ag):List aM:=if ∃ x∈l,x.1.1=f.1/\¬ bQ f x.1 then l else bG (λx=>x.1.1) (f,4) l
theorem ui {l:List aM}{f:ag}:dm l f=bif l.any (λx=>x.1.1==f.1&&!decide (bQ f x.1)) then l else bG (λx=>x.1.1) (f,4) l:=by
 unfold dm;have:(∃ x∈l,x.1.1=f.1/\¬ bQ f x.1)<->l.any (λx=>x.1.1==f.1&&!decide (bQ f x.1))=true:=by
  rw[List.any_eq_true];simp
 by_cases h:∃ x∈l,x.1.1=f.1/\¬ bQ f x.1
 ·rw[if_pos h,this.1 h];rfl
 ·rw[if_neg h,show l.any (λx=>x.1.1==f.1&&!decide (bQ f x.1))=false by rw[Bool.eq_false_iff];exact λr=>h (this.2 r)];rfl
theorem z9 (K:Nat)(l:List aM)(f:ag)(X:l.length<=1048576)(R:Asc (λx:aM=>x.1.1) l)(Y:1048577<K):Q47.f K (l,f,())=some ((dm l f,()),()):=by
 have:=sP (step:=λrec a=>Q47.s0 K (l,f,()) rec a) (λx:aM=>x.1.1) (f,4) l (λx=>x.1.1==f.1&&!decide (bQ f x.1)) (some ((l,()),())) (λJ=>some ((J,()),())) (λr d i=>(r,d,(i:Int))) ?_ ?_ l.length 0 K [] false (by omega) (by omega) (by simp) (by simp)
 ·refine Cw (this:Q47.f K (l,f,())=_) ?_;rw[B4,ui,la R];cases l.any (λx=>x.1.1==f.1&&!decide (bQ f x.1)) <;> rfl
 ·intro rec r d i M I z;simp only[Q47.s0];rw[bi (by omega:(i:Int)<(BH l:Int)),af M,ar i (by omega)];simp only[cond_true,BG];have y:decide ((r.length+[((f,4):ag×Nat)].length)*40<=ak)=true:=szb _ _ _ (by omega) (by simp;omega);have O:decide (((r++[((f,4):aM)]).length+[l[i]].length)*40<=ak)=true:=szb _ _ _ (by omega) (by simp;omega);have H:decide ((r.length+[l[i]].length)*40<=ak)=true:=szb _ _ _ (by omega) (by simp;omega);by_cases u:l[i].1.1=f.1
  ·rw[show (l[i].1.1==f.1)=true by simpa using u,show (l[i].1.1 != f.1)=false by simpa using u,show decide (f.1<=l[i].1.1)=true from decide_eq_true (by omega)];simp only[cond_true,cond_false,CV,C3,DU,BR];rw[show Q45.f K (f,l[i].1,())=_ from pH K f l[i].1];simp only[BG];cases decide (bQ f l[i].1) with
   |false=>rfl
   |true =>
    simp only[BP,cond_false];cases d with
    |true=>simp only[BP,cond_false,BR]
    |false =>
     simp only[CB,cond_true];rw[y];rfl
  ·rw[show (l[i].1.1==f.1)=false by simpa using u,show (l[i].1.1 != f.1)=true by simpa using u];simp only[cond_true,cond_false,Ce];cases d with
   |true =>
    simp only[BP,cond_false,Ce,BR,C7];rw[H];rfl
   |false =>
    simp only[CB,cond_true,CV,Ct];cases decide (f.1<=l[i].1.1) with
    |true =>
     simp only[cond_true];rw[y];simp only[cond_true];rw[O];rfl
    |false =>
     simp only[cond_false,BR];rw[H];rfl
 ·intro rec r d I z;simp only[Q47.s0,aR];cases d with
  |true=>simp only[BP,cond_false,cond_true,BR]
  |false =>
   have:=z rfl;have y:decide ((r.length+[((f,4):ag×Nat)].length)*40<=ak)=true:=szb _ _ _ (by omega) (by simp;omega);simp only[CB,cond_true,cond_false];rw[y];rfl
theorem xf (K:Nat)(l:List aM)(f:ag)(Y:l.length<=1048576)(O:cO l)(hf:bz f)(Z:1048577<K):Q148.f K (l,f,())=some ((dm l f,()),()):=by
 simp only[Q148.f,Q5.f,Q6.f];obtain⟨b1,e1,e2⟩:=oW K l Y Z;have a2:=e2.2 O;subst a2;obtain⟨b2,e3,e4⟩:=ma K f;have a1:=e4.2 hf;subst a1;rw[e1];simp only[BG,BP,cond_false];rw[e3];simp only[BG,BP,cond_false];rw[dU (by omega)];simp only[BG];rw[uT K l Y Z];simp only[BG];have hA:Asc (λg:ag=>g.1) (l.map (·.1)):=by
  have:=O.2;unfold Asc at this ⊢;rw[B9];exact this
 have r:(l.map (·.1)).length=l.length:=BU _;obtain⟨m,hm,h1⟩:=sL K (l.map (·.1)) f.1 (by rw[r];exact Y) hA Z;rw[h1];simp only[BG];have y:∀ i (h:i<l.length),(l.map (·.1))[i]'(by rw[r];exact h)=l[i].1:=λi h=>DK _
 have I:=hm.le;rw[r]at I;have lo:∀ i,(u:i<l.length)->i<m->l[i].1.1<f.1:=λi u M=>by have:=hm.lo i (by rw[r];exact u) M;rwa [y i u]at this
 have R:∀ i,(u:i<l.length)->m<=i->f.1<=l[i].1.1:=λi u M=>by have:=hm.hi i (by rw[r];exact u) M;rwa [y i u]at this
 by_cases he:∃ h:m<l.length,l[m].1.1=f.1
 ·obtain⟨z,H⟩:=he;rw[decide_eq_true ⟨by rw[r];exact z,by rw[y m z];exact H⟩];simp only[BP,cond_false,af z,BG,BK];rw[show Q141.f K (f,l[m].1,())=_ from mM K f l[m].1 Z];simp only[BG];have a3:∀ x∈l,x.1.1=f.1->x=l[m]:=λx J e=>by
   obtain⟨i,u,rfl⟩:=BO J;have:=oR O.2 u z (by show l[i].1.1=l[m].1.1;rw[e,H]);subst this;rfl
  by_cases ho:bQ f l[m].1
  ·rw[decide_eq_true ((jE H.symm).2 ho),dm,if_neg (λ⟨x,J,e,hn⟩=>hn (by rw[a3 x J e];exact ho)),ku (k:=λx:aM=>x.1.1) (x:=(f,4)) O.2 z H];rfl
  ·rw[decide_eq_false (λh=>ho ((jE H.symm).1 h)),dm,if_pos ⟨l[m],BI z,H,ho⟩];rfl
 ·have X:∀ x∈l,x.1.1≠f.1:=λx J e=>by
   obtain⟨i,u,rfl⟩:=BO J;rcases Cn i m with h|h|h
   ·have:=lo i u h;omega
   ·subst h;exact he ⟨u,e⟩
   ·have h5:=R m (by omega) (BW _);have h6:l[m].1.1<l[i].1.1:=dl.1 O.2 m i (by omega) u h;omega
  rw[decide_eq_false (λ⟨z,H⟩=>he ⟨by rw[r]at z;exact z,by rw[y m (by rw[r]at z;exact z)]at H;exact H⟩),dm,if_neg (λ⟨x,J,e,_⟩=>X x J e)];simp only[CB,cond_true];rw[mP I (by omega) Y];simp only[BG];rw[jf (k:=λx:aM=>x.1.1) (x:=(f,4)) I lo (λi u a0=>by
   have h1:=R i u a0;have z:=X l[i] (BI u);show f.1<l[i].1.1;omega)]
theorem oe {α:Type}{k:α->Int}{x:α}:∀ {r:List α},kb k x true r=r.filter (λy=>k y != k x)
 |[]=>rfl
 |y::r=>by
  simp only[kb,BP,Ce,cond_false,C7,BT,CC];rw[oe];cases k y != k x <;> rfl
theorem uj {α:Type}{k:α->Int}{x:α}{xs:List α}:bG k x (xs.filter λy=>!(k y==k x))=bG k x xs:=by
 simp only[bG,List.filter_filter];congr 1
 ·refine Cz λy _=>?_
  by_cases h:k y<k x
  ·rw[decide_eq_true h];simp;omega
  ·rw[decide_eq_false h];rfl
 ·congr 1;refine Cz λy _=>?_
  by_cases h:k x<k y
  ·rw[decide_eq_true h];simp;omega
  ·rw[decide_eq_false h];rfl
def mkD (r:Int)(f:ag)(b:Int):bM:=(f.1,f.2.1,r,[b])
def cM (r:Int)(ds:List bM)(f:ag)(b:Int):List bM:=if f.2.2.1=2 then bG (λd=>d.1) (mkD r f b) ds else ds.filter (λd=>!(d.1==f.1))
theorem Aa (K:Nat)(n:aa)(f:ag)(b:Int)(X:(aa.doubts n).length<=1048576)(R:Asc (λd:bM=>d.1) (aa.doubts n))(Y:1048577<K) :
  Q48.f K (n,f,b,())=some ((cM n.2.2.2.2.2.1 (aa.doubts n) f b,()),()):=by
 have:=sP (step:=λrec a=>Q48.s0 K (n,f,b,()) rec a) (λd:bM=>d.1) (mkD n.2.2.2.2.2.1 f b) (aa.doubts n) (λ_=>false) none (λJ=>some ((J,()),())) (λr d i=>(r,d,(i:Int))) ?_ ?_ (aa.doubts n).length 0 K [] (f.2.2.1 != 2) (by omega) (by omega) (by simp) (by simp)
 ·refine Cw (this:Q48.f K (n,f,b,())=_) ?_;rw[B4,show (aa.doubts n).any (λ_=>false)=false by simp,cM];by_cases u:f.2.2.1=2
  ·rw[if_pos u,show (f.2.2.1 != 2)=false by simpa using u,la R];rfl
  ·rw[if_neg u,show (f.2.2.1 != 2)=true by simpa using u,oe];rfl
 ·intro rec r d i M I z;simp only[Q48.s0];rw[bi (by omega:(i:Int)<(BH (aa.doubts n):Int)),af M,ar i (by omega)];simp only[cond_true,cond_false,BG];have y:decide ((r.length+[mkD n.2.2.2.2.2.1 f b].length)*48<=ak)=true:=szb _ _ _ (by omega) (by simp;omega);have O:decide (((r++[mkD n.2.2.2.2.2.1 f b]).length+[(aa.doubts n)[i]].length)*48<=ak)=true:=szb _ _ _ (by omega) (by simp;omega);have H:decide ((r.length+[(aa.doubts n)[i]].length)*48<=ak)=true:=szb _ _ _ (by omega) (by simp;omega);show (bif !d then (bif decide (f.1<=(aa.doubts n)[i].1) then (bif decide ((r.length+[mkD n.2.2.2.2.2.1 f b].length)*48<=ak) then (bif (aa.doubts n)[i].1 != f.1 then (bif decide (((r++[mkD n.2.2.2.2.2.1 f b]).length+[(aa.doubts n)[i]].length)*48<=ak) then (rec ((r++[mkD n.2.2.2.2.2.1 f b])++[(aa.doubts n)[i]],true,((i+1:Nat):Int))) else none) else (rec (r++[mkD n.2.2.2.2.2.1 f b],true,((i+1:Nat):Int)))) else none) else (bif (aa.doubts n)[i].1 != f.1 then (bif decide ((r.length+[(aa.doubts n)[i]].length)*48<=ak) then (rec (r++[(aa.doubts n)[i]],d,((i+1:Nat):Int))) else none) else (rec (r,d,((i+1:Nat):Int))))) else (bif (aa.doubts n)[i].1 != f.1 then (bif decide ((r.length+[(aa.doubts n)[i]].length)*48<=ak) then (rec (r++[(aa.doubts n)[i]],d,((i+1:Nat):Int))) else none) else (rec (r,d,((i+1:Nat):Int)))))=rec ((r++(bif !d&&decide (f.1<=(aa.doubts n)[i].1) then [mkD n.2.2.2.2.2.1 f b] else []))++(bif (aa.doubts n)[i].1 != f.1 then [(aa.doubts n)[i]] else []),d||decide (f.1<=(aa.doubts n)[i].1),((i+1:Nat):Int));rw[y,O,H];cases d <;> cases decide (f.1<=(aa.doubts n)[i].1) <;> cases (aa.doubts n)[i].1 != f.1 <;> simp only[BP,CB,CV,Ce,C7,Ct,cond_true,cond_false,BR]
 ·intro rec r d I z;simp only[Q48.s0,aR];cases d with
  |true=>simp only[BP,cond_false,cond_true,BR]
  |false =>
   have:=z rfl;have y:decide ((r.length+[mkD n.2.2.2.2.2.1 f b].length)*48<=ak)=true:=szb _ _ _ (by omega) (by simp;omega);show (bif decide ((r.length+[mkD n.2.2.2.2.2.1 f b].length)*48<=ak) then some ((r++[mkD n.2.2.2.2.2.1 f b],()),()) else none)=some ((r++[mkD n.2.2.2.2.2.1 f b],()),());rw[y];rfl
theorem Ab (K:Nat)(t:List bM)(r:Int)(ht:t.length<=1048576)(H:Asc (λd:bM=>d.1) t)(h7:∀ d∈t,InP d.1 0 7)(Y:InP r 0 7)(hK:1048577<K) :
  ∃ m,m<=t.length/\(∀ i,(h:i<t.length)->i<m->t[i].1<r)/\(∀ i,(h:i<t.length)->m<=i->r<=t[i].1)/\∃ b,Q151.f K (t,r,(λI=>(Q152.f K (I.1,I.2.1,())).map λy=>y.1.1),())=some ((((m:Nat):Int),b,()),()):=by
 let ks:Nat->Int:=λi=>if h:i<t.length then t[i].1 else 0
 have u:∀ i (h:i<t.length),ks i=t[i].1:=λi h=>by simp[ks,h]
 let J:Nat->Option ((Int×Bool×Unit)×Unit):=λm=>some ((((m:Nat):Int),decide (∃ h:m<t.length,t[m].1=r),()),())
 have X:∀ d∈t,((Q152.f K (d,r,())).map λy=>y.1.1)=some (d.1-r):=λd hd=>by
  obtain⟨a1,a2⟩:=h7 d hd;obtain⟨a3,a4⟩:=Y;simp only[Q152.f];rw[aD (by omega) (by omega)];rfl
 have:=wZ (step:=λrec a=>Q151.s0 K (t,r,(λI=>(Q152.f K (I.1,I.2.1,())).map λy=>y.1.1),()) rec a) (ks:=ks) (n:=t.length) (t:=r) J ht
  (λi j M R=>by
   rw[u i (by omega),u j R];exact dl.1 H i j (by omega) R M) ?_ ?_ t.length K 0 t.length (by omega) (BX _) (BW _) (by omega) (λi z=>by omega) (λi z Y=>by omega)
 ·obtain⟨m,Z,h2,h3,h4⟩:=this;exact⟨m,Z,λi h z=>by rw[<- u i h];exact h2 i z,λi h z=>by rw[<- u i h];exact h3 i z h,_,h4⟩
 ·intro rec a b a0 hb;have O:(a+b) / 2<t.length:=by omega
  simp only[Q151.s0];rw[decide_eq_true (by omega:(a:Int)<(b:Int)),uQ (by omega)];simp only[cond_true];rw[af O];simp only[BG,X _ (BI O)];rw[u _ O,ar _ (by omega)];by_cases h:t[(a+b) / 2].1<r
  ·rw[if_pos h,decide_eq_true (by omega:t[(a+b) / 2].1-r<0)];rfl
  ·rw[if_neg h,decide_eq_false (by omega:¬ t[(a+b) / 2].1-r<0)];rfl
 ·intro rec a ha;simp only[Q151.s0];rw[decide_eq_false (by omega)];simp only[cond_false];by_cases h:a<t.length
  ·rw[decide_eq_true (by omega:(a:Int)<(BH t:Int)),af h];simp only[cond_true,BG,X _ (BI h)];have:(t[a].1-r==0)=decide (∃ h:a<t.length,t[a].1=r):=by
    rw[CR];simp only[beq_iff_eq,decide_eq_true_eq];exact⟨λe=>⟨h,by omega⟩,λ⟨_,e⟩=>by omega⟩
   rw[this]
  ·rw[decide_eq_false (by omega:¬ (a:Int)<(BH t:Int))];simp only[cond_false,J];rw[decide_eq_false (λ⟨h',_⟩=>h h')]
def iR (n:aa)(t:List ag)(c:List aM)(ds:List bM):aa :=
 (n.1,n.2.1,n.2.2.1,n.2.2.2.1,n.2.2.2.2.1,n.2.2.2.2.2.1,n.2.2.2.2.2.2.1,n.2.2.2.2.2.2.2.1,t,c,n.2.2.2.2.2.2.2.2.2.2.1,ds,n.2.2.2.2.2.2.2.2.2.2.2.2)
def kc (n:aa)(f:ag):Bool:=decide (∃ g∈aa.table n,g.1=f.1/\g.2.1=f.2.1/\g.2.2.1=f.2.2.1)
def sayOf (n:aa)(f:ag)(b:Int):aa :=
 bif (bS (aa.table n) f).2 then iR n (bS (aa.table n) f).1 (dm (aa.cast n) f) (bif kc n f then aa.doubts n else cM n.2.2.2.2.2.1 (aa.doubts n) f b) else n
structure b7 (n:aa):Prop where
 table:az (aa.table n)
 cast:cO (aa.cast n)
 asc:Asc (λd:bM=>d.1) (aa.doubts n)
 inp:∀ d∈aa.doubts n,InP d.1 0 7
 lt:(aa.table n).length<=1048576
 lc:(aa.cast n).length<=1048576
 ld:(aa.doubts n).length<=1048576
theorem sR {n:aa}{f g:ag}(u:Asc (λg:ag=>g.1) (aa.table n))(r:g∈aa.table n)(e:g.1=f.1):kc n f=(g.2.1==f.2.1&&g.2.2.1==f.2.2.1):=by
 rw[CR,kc,decide_eq_true_eq,CN,beq_iff_eq,beq_iff_eq];constructor
 ·rintro⟨x,hx,h1,h2,h3⟩;have:=il u hx r (by rw[h1,e]);subst this;exact⟨h2,h3⟩
 ·rintro⟨h1,h2⟩;exact⟨g,r,e,h1,h2⟩
theorem sS {n:aa}{f:ag}(h:∀ g∈aa.table n,g.1≠f.1):kc n f=false :=
 decide_eq_false λ⟨g,r,e,_⟩=>h g r e
theorem pI (K:Nat)(n:aa)(f:ag)(b:Int)(h:b7 n)(r:1048577<K):Q87.f K (n,f,b,())=some ((sayOf n f b,()),()):=by
 simp only[Q87.f,zcp8];rw[show Q46.f K (n.2.2.2.2.2.2.2.2.1,f,())=_ from put_s K (aa.table n) f h.lt h.table.2 r];simp only[BG];cases y:(bS (aa.table n) f).2 with
 |false =>
  simp only[sayOf,y];rfl
 |true =>
  simp only[sayOf,y,BP,cond_false,cond_true];obtain⟨o,J,M⟩:=fw K (aa.table n) f.1 h.lt r;rw[show Q44.f K (n.2.2.2.2.2.2.2.2.1,f.1,())=_ from M];simp only[BG];have H:=Aa K (n.1,n.2.1,n.2.2.1,n.2.2.2.1,n.2.2.2.2.1,n.2.2.2.2.2.1,n.2.2.2.2.2.2.1,n.2.2.2.2.2.2.2.1,(bS (aa.table n) f).1,dm (aa.cast n) f,n.2.2.2.2.2.2.2.2.2.2) f b h.ld h.asc r;have I:=z9 K (aa.cast n) f h.lc h.cast.2 r;cases J with
  |at_ i z e =>
   simp only;rw[sR h.table.2 (BI z) e,decide_eq_true (by omega:((i:Nat):Int)>=0)];simp only[cond_true];rw[show idx n.2.2.2.2.2.2.2.2.1 (i:Int)=some (aa.table n)[i] from af z];simp only[BG];rw[show Q47.f K (n.2.2.2.2.2.2.2.2.2.1,f,())=_ from I];simp only[BG];rw[H];cases (aa.table n)[i].2.1==f.2.1 with
   |true =>
    cases (aa.table n)[i].2.2.1==f.2.2.1 <;> rfl
   |false=>rfl
  |no u =>
   simp only;rw[sS u,decide_eq_false (by omega:¬ (-1:Int)>=0)];simp only[cond_false];rw[show Q47.f K (n.2.2.2.2.2.2.2.2.2.1,f,())=_ from I];simp only[BG];rw[H];rfl
theorem mb {α:Type}{k:α->Int}{xs:List α}(h:Asc k xs)(p:α->Bool):Asc k (xs.filter p):=Cf p h
theorem Ac {R:Type}(K:Nat)(r:Int)(ds:List bM)(f:ag)(b:Int)(G:List bM->Option R)(O:ds.length<=1048576)(hA:Asc (λd:bM=>d.1) ds)(h7:∀ d∈ds,InP d.1 0 7)(hf:bz f)(hK:1048577<K) :
  ((Q7.f K (ds,(λH=>(Q150.f K (H.1,f,())).map λy=>y.1.1),())).bind λJ=>bif f.2.2.1==2 then ((Q151.f K (J.1.1,f.1,(λM=>(Q152.f K (M.1,M.2.1,())).map λy=>y.1.1),())).bind λy7=>(Q8.f K (J.1.1,y7.1.1,[mkD r f b],())).bind λZ=>G Z.1.1) else G J.1.1)=G (cM r ds f b):=by
 rw[show Q7.f K (ds,(λH=>(Q150.f K (H.1,f,())).map λy=>y.1.1),())=some ((ds.filter (λd=>!(d.1==f.1)),()),()) by
  simp only[Q7.f];exact q9 _ O (λd _=>rfl)]
 simp only[BG,cM];by_cases z:f.2.2.1=2
 ·rw[if_pos z,show (f.2.2.1==2)=true by simpa using z];simp only[cond_true];have u:(ds.filter (λd=>!(d.1==f.1))).length<=1048576:=BZ (CA _ _) O;obtain⟨m,X,Y,hi,b',e⟩:=Ab K (ds.filter (λd=>!(d.1==f.1))) f.1 u (mb hA _) (λd hd=>h7 d (BN.1 hd).1) hf.1 hK;rw[e];simp only[BG];rw[show Q8.f K (ds.filter (λd=>!(d.1==f.1)),(m:Int),[mkD r f b],())=some (((ds.filter (λd=>!(d.1==f.1))).take m++[mkD r f b]++(ds.filter (λd=>!(d.1==f.1))).drop m,()),()) by
   simp only[Q8.f];exact mP X (by omega) u]
  simp only[BG];have:=jf (k:=λd:bM=>d.1) (x:=mkD r f b) X Y (λi h I=>by
   have h1:=hi i h I;have h3:(!((ds.filter (λd=>!(d.1==f.1)))[i].1==f.1))=true:=(BN.1 (BI h)).2;have h4:(ds.filter (λd=>!(d.1==f.1)))[i].1≠f.1:=by simpa using h3
   show f.1<_;omega)
  rw[this];exact congrArg G (uj (k:=λd:bM=>d.1) (x:=mkD r f b))
 ·rw[if_neg z,show (f.2.2.1==2)=false by simpa using z];rfl
theorem zK (K:Nat)(n:aa)(f:ag)(b:Int)(h:b7 n)(y:bz f)(u:1048577<K):Q153.f K (n,f,b,())=some ((),(sayOf n f b,())):=by
 simp only[Q153.f,zcp8];have X:∃ g:ag,∃ H,Q139.f K (aa.table n,f.1,())=some ((g,H,()),())/\kc n f=(g.2.2.1==f.2.2.1&&g.2.1==f.2.1):=by
  rcases jD K (aa.table n) f.1 h.lt u with ⟨r,_⟩|⟨_,⟨g,O,e,r⟩|⟨R,r⟩⟩
  ·exact absurd h.table r
  ·exact⟨g,_,r,by rw[sR h.table.2 O e,Bool.and_comm]⟩
  ·refine⟨_,_,r,?_⟩;rw[sS R,show ((0:Int)==f.2.2.1)=false by have:=y.2.2.1;simp;omega];rfl
 obtain⟨g,H,r,M⟩:=X;rw[show Q139.f K (n.2.2.2.2.2.2.2.2.1,f.1,())=_ from r];simp only[BG];rw[show Q142.f K (n.2.2.2.2.2.2.2.2.1,f,())=_ from zJ K (aa.table n) f h.lt h.table.2 u];simp only[BG];cases I:(bS (aa.table n) f).2 with
 |false =>
  simp only[sayOf,I];rfl
 |true =>
  simp only[sayOf,I,BP,cond_false,cond_true];rw[show Q148.f K (n.2.2.2.2.2.2.2.2.2.1,f,())=_ from xf K (aa.cast n) f h.lc h.cast y u];simp only[BG];have z:=Ac K n.2.2.2.2.2.1 (aa.doubts n) f b (λJ=>some ((),(iR n (bS (aa.table n) f).1 (dm (aa.cast n) f) J,()))) h.ld h.asc h.inp y u;rw[M];cases g.2.2.1==f.2.2.1 with
  |true =>
   cases g.2.1==f.2.1 with
   |true=>rfl
   |false=>exact z
  |false=>exact z
theorem iS {α:Type}{k:α->Int}{xs:List α}(h:Asc k xs)(u:∀ x∈xs,InP (k x) 0 7):xs.length<=8:=by
 have:=(je (xs.map k) [0,1,2,3,4,5,6,7] (by unfold Asc at h;rw[B9];exact h) (by decide) (λy z=>by
  obtain⟨x,r,rfl⟩:=B3.1 z;obtain⟨H,I⟩:=u x r;simp only[CK,Cr,or_false];omega)).1
 rw[BU]at this;exact this
theorem gX (t:List ag)(f:ag):(bS t f).1=t\/(bS t f).1=bG (λg=>g.1) f t:=by
 unfold bS;split
 ·split
  ·exact .inr rfl
  ·exact .inl rfl
 ·exact .inr rfl
theorem kw {t:List ag}{f:ag}(h:az t)(r:bz f):az (bS t f).1:=by
 rcases gX t f with e|e
 ·rw[e];exact h
 ·rw[e];refine⟨λg y=>?_,fg h.2⟩;rcases aZ.1 y with rfl|⟨u,_⟩
  ·exact r
  ·exact h.1 g u
theorem pJ {l:List aM}{f:ag}(h:cO l)(r:bz f):cO (dm l f):=by
 unfold dm;split
 ·exact h
 ·refine⟨λx y=>?_,fg h.2⟩;rcases aZ.1 y with rfl|⟨u,_⟩
  ·exact⟨r,show (1:Int)<=4 by omega,show (4:Int)<=4 by omega⟩
  ·exact h.1 x u
theorem kx {r:Int}{ds:List bM}{f:ag}{b:Int}{d:bM}(h:d∈cM r ds f b):d=mkD r f b\/d∈ds:=by
 unfold cM at h;split at h
 ·rcases aZ.1 h with h|h
  ·exact .inl h
  ·exact .inr h.1
 ·exact .inr (BN.1 h).1
theorem sU {r:Int}{ds:List bM}{f:ag}{b:Int}(h:Asc (λd:bM=>d.1) ds):Asc (λd:bM=>d.1) (cM r ds f b):=by
 unfold cM;split
 ·exact fg h
 ·exact mb h _
theorem iG (n:aa)(f:ag)(b:Int):∃ t c r,sayOf n f b=iR n t c r/\(t=aa.table n\/t=(bS (aa.table n) f).1)/\(c=aa.cast n\/c=dm (aa.cast n) f)/\(r=aa.doubts n\/r=cM n.2.2.2.2.2.1 (aa.doubts n) f b):=by
 unfold sayOf;cases (bS (aa.table n) f).2 with
 |false=>exact⟨aa.table n,aa.cast n,aa.doubts n,rfl,.inl rfl,.inl rfl,.inl rfl⟩
 |true =>
  cases kc n f with
  |true=>exact⟨_,_,_,rfl,.inr rfl,.inr rfl,.inl rfl⟩
  |false=>exact⟨_,_,_,rfl,.inr rfl,.inr rfl,.inr rfl⟩
theorem b7.mk' {n:aa}(r:az (aa.table n))(u:cO (aa.cast n))(y:Asc (λd:bM=>d.1) (aa.doubts n))(z:∀ d∈aa.doubts n,InP d.1 0 7):b7 n where
 table:=r
 cast:=u
 asc:=y
 inp:=z
 lt:=BZ (iS r.2 (λg I=>(r.1 g I).1)) (by decide)
 lc:=BZ (iS u.2 (λx H=>(u.1 x H).1.1)) (by decide)
 ld:=BZ (iS y z) (by decide)
theorem jg {n:aa}{f:ag}{b:Int}(h:b7 n)(r:bz f):b7 (sayOf n f b):=by
 obtain⟨t,c,z,e,H,I,y⟩:=iG n f b;rw[e];refine b7.mk' ?_ ?_ ?_ ?_
 ·show az t;rcases H with rfl|rfl
  ·exact h.table
  ·exact kw h.table r
 ·show cO c;rcases I with rfl|rfl
  ·exact h.cast
  ·exact pJ h.cast r
 ·show Asc _ z;rcases y with rfl|rfl
  ·exact h.asc
  ·exact sU h.asc
 ·show ∀ d∈z,InP d.1 0 7;rcases y with rfl|rfl
  ·exact h.inp
  ·intro d u;rcases kx u with rfl|u
   ·exact r.1
   ·exact h.inp d u
theorem yK {n:aa}{f:ag}{b:Int}(h:∀ d∈aa.doubts n,d.2.2.2.length<=1048576):∀ d∈aa.doubts (sayOf n f b),d.2.2.2.length<=1048576:=by
 obtain⟨t,c,y,e,_,_,u⟩:=iG n f b;rw[e];show ∀ d∈y,_;rcases u with rfl|rfl
 ·exact h
 ·intro d r;rcases kx r with rfl|r
  ·exact Nat.succ_le_of_lt (by decide)
  ·exact h d r
theorem UpP.say {n:aa}(h:UpP n):b7 n:=by
 obtain⟨r,_,_,⟨z,_⟩,_,u,_⟩:=h;refine b7.mk' r z u.2.1 λd H=>?_
 obtain⟨f,y,e,_⟩:=(u.1 d H).1;rw[<- e];exact (r.1 f y).1
theorem lH {α β A R:Type}(t:List α)(p:α->Bool)(g:α->β)(S:List β->Nat->A)(u:List β->Option R){step:(A->Option R)->A->Option R}
  (h:∀ (rec:A->Option R) (r:List β) (i:Nat) (M:i<t.length),r.length<=i->step rec (S r i)=rec (S (bif p t[i] then r++[g t[i]] else r) (i+1)))
  (z:∀ (rec:A->Option R) (r:List β),r.length<=t.length->step rec (S r t.length)=u r) {k:Nat} (H:t.length<k) :
  ae step k (S [] 0)=u ((t.filter p).map g):=by
 have:∀ (d i k:Nat) (r:List β),i+d=t.length->d<k->r.length<=i->ae step k (S r i)=u (r++((t.drop i).filter p).map g):=by
  intro d;induction d with
  |zero =>
   intro i k r M H J;obtain⟨k,rfl⟩:∃ I,k=I+1:=⟨k-1,by omega⟩;have:i=t.length:=by omega
   subst this;show step (ae step k) _=_;rw[z _ _ J];simp
  |succ d O =>
   intro i k r M H J;obtain⟨k,rfl⟩:∃ I,k=I+1:=⟨k-1,by omega⟩;have y:i<t.length:=by omega
   show step (ae step k) _=_;rw[h _ _ _ y J,B8 y,CC];cases p t[i] with
   |true =>
    simp only[cond_true,if_true,C0];rw[O (i+1) k _ (by omega) (by omega) (by simp;omega),CH];rfl
   |false =>
    simp only[cond_false];rw[O (i+1) k _ (by omega) (by omega) (by omega)];rfl
 have:=this t.length 0 k [] (by omega) H (BW _)
 rwa [B4,BT]at this
def sW:aa:=(0,false,false,false,0,0,0,0,[],[],(0,0,0,false),[],(0,0,0,0),[],[])
theorem uk:NB sW where
 table:=BX _
 cast:=BX _
 doubts:=BX _
 by_:=λd r=>absurd r Cr
 places:=BX _
 trips:=λd r=>absurd r Cr
 others:=BX _
 facts:=λd r=>absurd r Cr
theorem szw (a b c:Nat)(r:c<=128)(h:a+b<=2097152):decide ((a+b)*c<=ak)=true:=by
 have:=Cl h r;exact decide_eq_true (by unfold ak;omega)
def kP (n:aa):aa:=(n.1,n.2.1,true,n.2.2.2)
def nP (r:Int)(n:aa)(to:Int):ap:=(1,r,n.1,to,0,n.1,aa.coord n,aa.table n)
theorem uV (K:Nat)(n:aa)(r to:Int)(u:(aa.table n).length<=1048576):Q186.f K (n,r,to,())=some ((nP r n to,()),()):=by
 simp only[Q186.f,zcp4,Q161.f,BG,Q3.f];rw[dU (by show (aa.table n).length*_<=_;omega)];rfl
theorem nQ (K:Nat)(n:aa)(r to:Int)(u:(aa.table n).length<=1048576):Q43.f K (n,r,to,0,n.1,aa.table n,())=some ((nP r n to,()),()):=by
 simp only[Q43.f];rw[szb _ _ _ (by omega) (by show (BH ([]:List ag))+(aa.table n).length<=_;simp;omega)];rfl
def cL (f:ag):Bool:=f.2.2.1==1||f.2.2.1==2
theorem uW (K:Nat)(t:List ag)(f:ag)(H:az t)(J:t.length<=1048576)(r:f∈t)(y:1048577<K):Q89.f K (t,f.1,())=rb (cL f):=by
 simp only[Q89.f];obtain⟨o,z,I⟩:=fw K t f.1 J y;rw[I];simp only[BG];cases z with
 |at_ i u e =>
  simp only;rw[decide_eq_true (by omega:((i:Nat):Int)>=0),af u];simp only[cond_true,BG];rw[il H.2 (BI u) r e,cL];cases f.2.2.1==1 <;> rfl
 |no h=>exact absurd rfl (h f r)
def sX (n:aa)(f:ag):Bool:=f.1 != n.1&&cL f
def lI (n:aa):List ap:=((aa.table n).filter (sX n)).map λf=>nP 5 n f.1
def mQ (n:aa):aa:=kP (sayOf n (n.1,n.2.2.2.2.1,4,n.2.2.2.1) n.1)
theorem sY (K:Nat)(x:ab Q105.ps)(m:aa)(H:az (aa.table m))(u:(aa.table m).length<=1048576)(z:1048577<K) :
  Q105.l0 K x ([],0,m.1,m.2.1,m.2.2.2.1,m.2.2.2.2.1,m.2.2.2.2.2.1,m.2.2.2.2.2.2.1,m.2.2.2.2.2.2.2.1,m.2.2.2.2.2.2.2.2.1,m.2.2.2.2.2.2.2.2.2.1,m.2.2.2.2.2.2.2.2.2.2.1.1,m.2.2.2.2.2.2.2.2.2.2.1.2.1,m.2.2.2.2.2.2.2.2.2.2.1.2.2.1,m.2.2.2.2.2.2.2.2.2.2.1.2.2.2,m.2.2.2.2.2.2.2.2.2.2.2.1,m.2.2.2.2.2.2.2.2.2.2.2.2.1.1,m.2.2.2.2.2.2.2.2.2.2.2.2.1.2.1,m.2.2.2.2.2.2.2.2.2.2.2.2.1.2.2.1,m.2.2.2.2.2.2.2.2.2.2.2.2.1.2.2.2,m.2.2.2.2.2.2.2.2.2.2.2.2.2.1,m.2.2.2.2.2.2.2.2.2.2.2.2.2.2)=some ((kP m,lI (kP m),()),()):=by
 refine lH (step:=λrec a=>Q105.s0 K x rec a) (aa.table m) (sX (kP m)) (λf=>nP 5 (kP m) f.1) (λr i=>(r,(i:Int),m.1,m.2.1,m.2.2.2.1,m.2.2.2.2.1,m.2.2.2.2.2.1,m.2.2.2.2.2.2.1,m.2.2.2.2.2.2.2.1,m.2.2.2.2.2.2.2.2.1,m.2.2.2.2.2.2.2.2.2.1,m.2.2.2.2.2.2.2.2.2.2.1.1,m.2.2.2.2.2.2.2.2.2.2.1.2.1,m.2.2.2.2.2.2.2.2.2.2.1.2.2.1,m.2.2.2.2.2.2.2.2.2.2.1.2.2.2,m.2.2.2.2.2.2.2.2.2.2.2.1,m.2.2.2.2.2.2.2.2.2.2.2.2.1.1,m.2.2.2.2.2.2.2.2.2.2.2.2.1.2.1,m.2.2.2.2.2.2.2.2.2.2.2.2.1.2.2.1,m.2.2.2.2.2.2.2.2.2.2.2.2.1.2.2.2,m.2.2.2.2.2.2.2.2.2.2.2.2.2.1,m.2.2.2.2.2.2.2.2.2.2.2.2.2.2)) (λI=>some ((kP m,I,()),())) ?_ ?_ (by omega)
 ·intro rec r i y J;simp only[Q105.s0,zceae5f];rw[show decide ((i:Int)<(BH m.2.2.2.2.2.2.2.2.1:Int))=true from bi (by omega:(i:Int)<(BH (aa.table m):Int)),show idx m.2.2.2.2.2.2.2.2.1 (i:Int)=some (aa.table m)[i] from af y,ar i (by omega)];simp only[cond_true,BG,sX];rw[show (kP m).1=m.1 from rfl];cases M:(aa.table m)[i].1 != m.1 with
  |false=>rfl
  |true =>
   simp only[cond_true,CV];rw[show Q89.f K (m.2.2.2.2.2.2.2.2.1,(aa.table m)[i].1,())=_ from uW K (aa.table m) _ H u (BI y) z];simp only[BG];cases cL (aa.table m)[i] with
   |false=>rfl
   |true =>
    simp only[cond_true];refine (congrArg (λo=>CL o _) (nQ K (kP m) 5 (aa.table m)[i].1 u)).trans ?_;simp only[BG];rw[szw _ _ _ (by omega) (by simp;omega)];rfl
 ·intro rec r J;simp only[Q105.s0,zceae5f];rw[show decide ((BH (aa.table m):Int)<(BH m.2.2.2.2.2.2.2.2.1:Int))=false from aR _];rfl
theorem vL {n:aa}(r:iP n):bz (n.1,n.2.2.2.2.1,4,n.2.2.2.1):=⟨r.1,r.2.2.2.2.1,show (1:Int)<=4 by omega,show (4:Int)<=4 by omega⟩
theorem Ad (K:Nat)(n:aa)(J:NB n)(u:iP n)(H:n.2.1=true)(I:n.2.2.1=false)(r:1048577<K):Q105.f K (n,())=some ((mQ n,lI (mQ n),()),()):=by
 have z:=(u.up H).say;have y:=jg (b:=n.1) z (vL u);simp only[Q105.f,Q105.pre];rw[H,I];simp only[BP,cond_false];rw[pI K n _ n.1 z r];exact sY K _ _ y.table y.lt r
theorem kQ {α r A R:Type}(ds:List α)(st:r->α->r)(Inv:r->Prop)(S:r->Nat->A)(u:r->Option R){step:(A->Option R)->A->Option R}(n:r)(Y:Inv n)
  (h:∀ (rec:A->Option R) (m:r) (i:Nat) (M:i<ds.length),Inv m->step rec (S m i)=rec (S (st m ds[i]) (i+1))/\Inv (st m ds[i]))
  (z:∀ (rec:A->Option R) (m:r),Inv m->step rec (S m ds.length)=u m) {k:Nat} (H:ds.length<k):ae step k (S n 0)=u (ds.foldl st n):=by
 have:∀ (d i k:Nat) (m:r),i+d=ds.length->d<k->Inv m->ae step k (S m i)=u ((ds.drop i).foldl st m):=by
  intro d;induction d with
  |zero =>
   intro i k m M H J;obtain⟨k,rfl⟩:∃ I,k=I+1:=⟨k-1,by omega⟩;have:i=ds.length:=by omega
   subst this;show step (ae step k) _=_;rw[z _ _ J,C4];rfl
  |succ d Z =>
   intro i k m M H J;obtain⟨k,rfl⟩:∃ I,k=I+1:=⟨k-1,by omega⟩;have y:i<ds.length:=by omega
   show step (ae step k) _=_;obtain⟨O,X⟩:=h (ae step k) m i y J;rw[O,B8 y];exact Z (i+1) k _ (by omega) (by omega) X
 have:=this ds.length 0 k n (by omega) H Y
 rwa [B4]at this
theorem ky {α r:Type}{st:r->α->r}{Inv:r->Prop}:∀ {ds:List α} {n:r},Inv n->(∀ m,∀ d∈ds,Inv m->Inv (st m d))->Inv (ds.foldl st n)
 |[],_,h,_=>h
 |d::ds,n,h,y=>ky (ds:=ds) (y n d (by simp) h) (λm z u=>y m z (by simp[u]))
def aG (t:List ag)(r:Int):ag:=(t.find? λg=>g.1==r).getD (0,0,0,false)
theorem jH {t:List ag}(r:Asc (λg:ag=>g.1) t){f:ag}(u:f∈t):aG t f.1=f:=by
 obtain⟨i,y,e⟩:=BO u;unfold aG;rw[show t.find? (λg=>g.1==f.1)=some t[i] from oY r y (by rw[e]),e];rfl
theorem jI {t:List ag}{r:Int}(h:∀ g∈t,g.1≠r):aG t r=(0,0,0,false):=by
 unfold aG;rw[show t.find? (λg=>g.1==r)=none from nO h];rfl
theorem iT (K:Nat)(t:List ag)(r:Int)(y:az t)(I:t.length<=1048576)(H:1048577<K):∃ b,Q139.f K (t,r,())=some ((aG t r,b,()),()):=by
 rcases jD K t r I H with ⟨u,_⟩|⟨_,⟨g,J,e,u⟩|⟨z,u⟩⟩
 ·exact absurd y u
 ·refine⟨true,?_⟩;rw[u,<- e,jH y.2 J]
 ·refine⟨false,?_⟩;rw[u,jI z]
theorem sZ (K:Nat)(t:List ag)(r:Int)(y:az t)(I:t.length<=1048576)(u:1048577<K):Q89.f K (t,r,())=rb (cL (aG t r)):=by
 by_cases h:∃ f∈t,f.1=r
 ·obtain⟨f,H,rfl⟩:=h;rw[uW K t f y I H u,jH y.2 H]
 ·have z:∀ g∈t,g.1≠r:=λg O e=>h ⟨g,O,e⟩
  simp only[Q89.f];obtain⟨o,R,J⟩:=fw K t r I u;rw[J,jI z];cases R with
  |at_ i M e=>exact absurd e (z _ (BI M))
  |no _=>rfl
theorem ta (K:Nat)(n:aa)(r:Int)(H:az (aa.table n))(I:(aa.table n).length<=1048576)(u:1048577<K):Q159.f K (n,r,())=rb (cL (aG (aa.table n) r)):=by
 simp only[Q159.f,Q158.f];obtain⟨b,y⟩:=iT K (aa.table n) r H I u;rw[show Q139.f K (n.2.2.2.2.2.2.2.2.1,r,())=_ from y];simp only[BG];obtain⟨b,z,J⟩:=fu K (aG (aa.table n) r).2.2.1 1 2;rw[z];have:b=cL (aG (aa.table n) r):=by
  rw[CR,J,cL,Bool.or_eq_true,beq_iff_eq,beq_iff_eq];show (1<=(aG (aa.table n) r).2.2.1/\(aG (aa.table n) r).2.2.1<=2)<->_;omega
 rw[this];rfl
theorem fA (n:aa)(f:ag)(b:Int):(sayOf n f b).1=n.1/\(sayOf n f b).2.1=n.2.1/\(sayOf n f b).2.2.1=n.2.2.1/\(sayOf n f b).2.2.2.1=n.2.2.2.1/\(sayOf n f b).2.2.2.2.1=n.2.2.2.2.1/\(sayOf n f b).2.2.2.2.2.1=n.2.2.2.2.2.1/\(sayOf n f b).2.2.2.2.2.2.1=n.2.2.2.2.2.2.1/\(sayOf n f b).2.2.2.2.2.2.2.1=n.2.2.2.2.2.2.2.1/\aa.probe (sayOf n f b)=aa.probe n/\(sayOf n f b).2.2.2.2.2.2.2.2.2.2.2.2=n.2.2.2.2.2.2.2.2.2.2.2.2:=by
 obtain⟨t,c,r,e,_⟩:=iG n f b;rw[e];exact⟨rfl,rfl,rfl,rfl,rfl,rfl,rfl,rfl,rfl,rfl⟩
theorem mR {t:List ag}{f g:ag}(r:g∈t):∃ u∈(bS t f).1,u.1=g.1:=by
 rcases gX t f with e|e
 ·rw[e];exact⟨g,r,rfl⟩
 ·rw[e];by_cases h:g.1=f.1
  ·exact⟨f,aZ.2 (.inl rfl),h.symm⟩
  ·exact⟨g,aZ.2 (.inr ⟨r,h⟩),rfl⟩
theorem jJ {n:aa}{f:ag}{b:Int}{g:ag}(r:g∈aa.table n):∃ y∈aa.table (sayOf n f b),y.1=g.1:=by
 obtain⟨t,c,z,e,u,_⟩:=iG n f b;rw[e];rcases u with rfl|rfl
 ·exact⟨g,r,rfl⟩
 ·exact mR r
def lg (u r:Int)(len:Nat):Bool:=decide (u-r>=if 6-(len:Int)+1<3 then 3 else 6-(len:Int)+1)
def kd (f:ag):ag:=(f.1,f.2.1,3,f.2.2.2)
def eH (n:aa)(d:bM):aa:=bif lg n.2.2.2.2.2.1 d.2.2.1 d.2.2.2.length then sayOf n (kd (aG (aa.table n) d.1)) n.1 else n
def gv (n:aa):aa:=(aa.doubts n).foldl eH n
theorem due_s (K:Nat)(r:Int)(d:bM)(u:0<=d.2.2.1)(z:d.2.2.1<=r)(H:r<=1000000)(y:d.2.2.2.length<=1048576):Q86.f K (r,d,())=rb (lg r d.2.2.1 d.2.2.2.length):=by
 simp only[Q86.f];rw[aD (n:=6-(BH d.2.2.2:Int)) (by omega) (by omega),aD (n:=6-(BH d.2.2.2:Int)+1) (by omega) (by omega),aD (n:=r-d.2.2.1) (by omega) (by omega)];unfold lg;by_cases h:6-(BH d.2.2.2:Int)+1<3
 ·rw[decide_eq_true h,if_pos h];rfl
 ·rw[decide_eq_false h,if_neg h];rfl
theorem Ae (K:Nat)(a b c:Int)(len:Nat)(r:len<=1048576):Q129.f K ((a,b,c,len),())=some ((if 6-(len:Int)+1<3 then 3 else 6-(len:Int)+1,()),()):=by
 simp only[Q129.f];rw[aD (n:=6-(len:Int)) (by omega) (by omega),aD (n:=6-(len:Int)+1) (by omega) (by omega)];by_cases h:6-(len:Int)+1<3
 ·rw[decide_eq_true h,if_pos h];rfl
 ·rw[decide_eq_false h,if_neg h];rfl
structure jK (ds:List bM) (now:Int) (n:aa):Prop where
 ok:b7 n
 key:∀ d∈ds,∃ f∈aa.table n,f.1=d.1
 now_:n.2.2.2.2.2.1=now
theorem nR {f:ag}(h:bz f):bz (kd f):=⟨h.1,h.2.1,show (1:Int)<=3 by omega,show (3:Int)<=4 by omega⟩
theorem c7 {t:List ag}{r:Int}(y:az t)(h:∃ f∈t,f.1=r):bz (aG t r)/\(aG t r).1=r/\aG t r∈t:=by
 obtain⟨f,u,rfl⟩:=h;rw[jH y.2 u];exact⟨y.1 f u,rfl,u⟩
theorem lh {ds:List bM}{r:Int}{n:aa}{d:bM}(h:jK ds r n)(I:d∈ds):jK ds r (eH n d):=by
 unfold eH;cases lg n.2.2.2.2.2.1 d.2.2.1 d.2.2.2.length with
 |false=>exact h
 |true =>
  have z:=nR (c7 h.ok.table (h.key d I)).1;refine⟨jg h.ok z,λM u=>?_,(fA n _ _).2.2.2.2.2.1.trans h.now_⟩;obtain⟨g,O,e⟩:=h.key M u;obtain⟨H,y,J⟩:=jJ (f:=kd (aG (aa.table n) d.1)) (b:=n.1) O;exact⟨H,y,J.trans e⟩
theorem xg (K:Nat)(n:aa)(h:jK (aa.doubts n) n.2.2.2.2.2.1 n)(Y:∀ d∈aa.doubts n,0<=d.2.2.1/\d.2.2.1<=n.2.2.2.2.2.1/\d.2.2.2.length<=1048576)(y:n.2.2.2.2.2.1<=1000000)(J:1048577<K):Q88.f K (n,())=some ((gv n,()),()):=by
 have hl:=h.ok.ld;refine kQ (step:=λrec a=>Q88.s0 K (n,()) rec a) (aa.doubts n) eH (jK (aa.doubts n) n.2.2.2.2.2.1) (λm i=>((i:Int),m.1,m.2.1,m.2.2.1,m.2.2.2.1,m.2.2.2.2.1,m.2.2.2.2.2.1,m.2.2.2.2.2.2.1,m.2.2.2.2.2.2.2.1,m.2.2.2.2.2.2.2.2.1,m.2.2.2.2.2.2.2.2.2.1,m.2.2.2.2.2.2.2.2.2.2.1.1,m.2.2.2.2.2.2.2.2.2.2.1.2.1,m.2.2.2.2.2.2.2.2.2.2.1.2.2.1,m.2.2.2.2.2.2.2.2.2.2.1.2.2.2,m.2.2.2.2.2.2.2.2.2.2.2.1,m.2.2.2.2.2.2.2.2.2.2.2.2.1.1,m.2.2.2.2.2.2.2.2.2.2.2.2.1.2.1,m.2.2.2.2.2.2.2.2.2.2.2.2.1.2.2.1,m.2.2.2.2.2.2.2.2.2.2.2.2.1.2.2.2,m.2.2.2.2.2.2.2.2.2.2.2.2.2.1,m.2.2.2.2.2.2.2.2.2.2.2.2.2.2)) (λm=>some ((m,()),())) n h ?_ ?_ (by omega)
 ·intro rec m i H u;refine⟨?_,lh u (BI H)⟩;simp only[Q88.s0,zc286a0,zc3ec45];obtain⟨M,O,R⟩:=Y _ (BI H);rw[show decide ((i:Int)<(BH n.2.2.2.2.2.2.2.2.2.2.2.1:Int))=true from bi (by omega:(i:Int)<(BH (aa.doubts n):Int)),show idx n.2.2.2.2.2.2.2.2.2.2.2.1 (i:Int)=some (aa.doubts n)[i] from af H,ar i (by omega)];simp only[cond_true,BG];rw[due_s K m.2.2.2.2.2.1 (aa.doubts n)[i] M (by rw[u.now_];exact O) (by rw[u.now_];exact y) R];simp only[BG];have r:=u.key _ (BI H);generalize (aa.doubts n)[i]=d at r M O R ⊢;unfold eH;cases lg m.2.2.2.2.2.1 d.2.2.1 d.2.2.2.length with
  |false=>rfl
  |true =>
   simp only[cond_true];have z:=c7 u.ok.table r;obtain⟨o,Z,X⟩:=fw K (aa.table m) d.1 u.ok.lt J;rw[show Q44.f K (m.2.2.2.2.2.2.2.2.1,d.1,())=_ from X];simp only[BG];cases Z with
   |no h=>exact absurd r (λ⟨f,hf,e⟩=>h f hf e)
   |at_ j I e =>
    simp only;rw[show idx m.2.2.2.2.2.2.2.2.1 ((j:Nat):Int)=some (aa.table m)[j] from af I,il u.ok.table.2 (BI I) z.2.2 (by rw[e,z.2.1])];simp only[BG];refine (congrArg (λo=>CL o _) (pI K m (kd (aG (aa.table m) d.1)) m.1 u.ok J)).trans ?_;rfl
 ·intro rec m u;simp only[Q88.s0,zc286a0,zc3ec45];rw[show decide ((BH (aa.doubts n):Int)<(BH n.2.2.2.2.2.2.2.2.2.2.2.1:Int))=false from aR _];rfl
theorem AZ (K:Nat)(n:aa)(h:jK (aa.doubts n) n.2.2.2.2.2.1 n)(hd:∀ d∈aa.doubts n,0<=d.2.2.1/\d.2.2.1<=n.2.2.2.2.2.1/\d.2.2.2.length<=1048576)(X:n.2.2.2.2.2.1<=1000000)(Y:1048577<K):Q154.f K (n,())=some ((),(gv n,())):=by
 have hl:=h.ok.ld;simp only[Q154.f,Q154.pre,zc3ec45];have hc:∃ r:List (Int×Int×Int×Nat),r=(aa.doubts n).map (λd=>(d.1,d.2.1,d.2.2.1,d.2.2.2.length))/\Q2.f K (aa.doubts n,())=some ((r,()),()):=by
  refine⟨_,rfl,?_⟩;simp only[Q2.f,qq];rw[dU (by omega)];rfl
 obtain⟨r,I,e⟩:=hc;rw[show Q2.f K (n.2.2.2.2.2.2.2.2.2.2.2.1,())=_ from e];simp only[BG];have H:r.length=(aa.doubts n).length:=by rw[I,BU]
 have O:∀ i (y:i<(aa.doubts n).length),r[i]'(by rw[H];exact y)=((aa.doubts n)[i].1,(aa.doubts n)[i].2.1,(aa.doubts n)[i].2.2.1,(aa.doubts n)[i].2.2.2.length):=λi y=>by
  simp only[I,DK]
 clear I;refine kQ (step:=λrec a=>Q154.s0 K (n,()) rec a) (aa.doubts n) eH (jK (aa.doubts n) n.2.2.2.2.2.1) (λm i=>(r,(BH r:Int),(i:Int),m.1,m.2.1,m.2.2.1,m.2.2.2.1,m.2.2.2.2.1,m.2.2.2.2.2.1,m.2.2.2.2.2.2.1,m.2.2.2.2.2.2.2.1,m.2.2.2.2.2.2.2.2.1,m.2.2.2.2.2.2.2.2.2.1,m.2.2.2.2.2.2.2.2.2.2.1.1,m.2.2.2.2.2.2.2.2.2.2.1.2.1,m.2.2.2.2.2.2.2.2.2.2.1.2.2.1,m.2.2.2.2.2.2.2.2.2.2.1.2.2.2,m.2.2.2.2.2.2.2.2.2.2.2.1,m.2.2.2.2.2.2.2.2.2.2.2.2.1.1,m.2.2.2.2.2.2.2.2.2.2.2.2.1.2.1,m.2.2.2.2.2.2.2.2.2.2.2.2.1.2.2.1,m.2.2.2.2.2.2.2.2.2.2.2.2.1.2.2.2,m.2.2.2.2.2.2.2.2.2.2.2.2.2.1,m.2.2.2.2.2.2.2.2.2.2.2.2.2.2)) (λm=>some ((),(m,()))) n h ?_ ?_ (by omega)
 ·intro rec m i y u;refine⟨?_,lh u (BI y)⟩;simp only[Q154.s0,zc286a0,zc3ec45];have J:i<r.length:=by rw[H];exact y
  obtain⟨d0,d1,Z⟩:=hd _ (BI y);rw[bi (by omega:(i:Int)<(BH r:Int)),af J,ar i (by omega),BK,af J,O i y];simp only[cond_true,BG];have z:=u.key _ (BI y);generalize (aa.doubts n)[i]=d at z d0 d1 Z ⊢;rw[Ae K d.1 d.2.1 d.2.2.1 d.2.2.2.length Z];simp only[BG];have a0:=u.now_;rw[aD (n:=m.2.2.2.2.2.1-d.2.2.1) (by omega) (by omega)];have M:decide (m.2.2.2.2.2.1-d.2.2.1<if 6-(BH d.2.2.2:Int)+1<3 then 3 else 6-(BH d.2.2.2:Int)+1)=!lg m.2.2.2.2.2.1 d.2.2.1 d.2.2.2.length:=by
   unfold lg;rw[CR];simp
  rw[show decide (m.2.2.2.2.2.1-d.2.2.1<(if 6-(BH d.2.2.2:Int)+1<3 then 3 else 6-(BH d.2.2.2:Int)+1:Int))=_ from M];unfold eH;cases lg m.2.2.2.2.2.1 d.2.2.1 d.2.2.2.length with
  |false=>rfl
  |true =>
   simp only[BP,cond_false,cond_true];have R:=c7 u.ok.table z;obtain⟨b,hw⟩:=iT K (aa.table m) d.1 u.ok.table u.ok.lt Y;rw[show Q139.f K (m.2.2.2.2.2.2.2.2.1,d.1,())=_ from hw];simp only[BG];refine (congrArg (λo=>CL o _) (zK K m (kd (aG (aa.table m) d.1)) m.1 u.ok (nR R.1) Y)).trans ?_;rfl
 ·intro rec m u;simp only[Q154.s0,zc286a0,zc3ec45];rw[<- H,aR];rfl
def setP (n:aa)(p:ag):aa:=(n.1,n.2.1,n.2.2.1,n.2.2.2.1,n.2.2.2.2.1,n.2.2.2.2.2.1,n.2.2.2.2.2.2.1,n.2.2.2.2.2.2.2.1,n.2.2.2.2.2.2.2.2.1,n.2.2.2.2.2.2.2.2.2.1,p,n.2.2.2.2.2.2.2.2.2.2.2)
def noP:ag:=(-1,0,0,false)
def nS (f:ag):ag:=(f.1,f.2.1,2,f.2.2.2)
def pK (n:aa)(f:ag):Bool:=f.2.2.1==1&&f.1 != n.1&&f.1 != (aa.probe n).1
def cE (n:aa):List Int:=(((aa.table n).filter (pK n)).map (·.1)).take 2
def askW (n:aa)(to:Int):ap:=(1,3,n.1,to,(aa.probe n).2.2.1,(aa.probe n).1,aa.coord n,[])
def jL (n:aa):aa:=setP n ((aa.probe n).1,(aa.probe n).2.1,(aa.probe n).2.2.1,true)
def bk (n:aa):aa×List ap :=
 bif (aa.probe n).1==-1 then (n,[]) else
 bif !cL (aG (aa.table n) (aa.probe n).1) then (setP n noP,[]) else
 bif decide (n.2.2.2.2.2.1-(aa.probe n).2.1>=4) then (bif (aG (aa.table n) (aa.probe n).1).2.2.1==1 then sayOf (setP n noP) (nS (aG (aa.table n) (aa.probe n).1)) n.1 else setP n noP,[]) else
 bif decide (n.2.2.2.2.2.1-(aa.probe n).2.1>=2) then (bif !(aa.probe n).2.2.2 then (jL n,(cE n).map (askW n)) else (n,[])) else (n,[])
theorem b7.setP {n:aa}(h:b7 n)(p:ag):b7 (setP n p):=⟨h.table,h.cast,h.asc,h.inp,h.lt,h.lc,h.ld⟩
theorem qy {f:ag}(h:bz f):bz (nS f):=⟨h.1,h.2.1,show (1:Int)<=2 by omega,show (2:Int)<=4 by omega⟩
theorem fh {t:List ag}{r:Int}(h:cL (aG t r)=true):∃ f∈t,f.1=r:=by
 by_cases u:∃ f∈t,f.1=r
 ·exact u
 ·rw[jI (λg y e=>u ⟨g,y,e⟩)]at h;simp[cL]at h
theorem xh (K:Nat)(n:aa)(J:(aa.table n).length<=1048576)(I:1048577<K):Q90.f K (n,())=some ((cE n,()),()):=by
 have:=k9 (step:=λrec a=>Q90.s0 K (n,()) rec a) (aa.table n) (pK n) (λf=>f.1) 2 (λH=>some ((H,()),())) ?_ ?_ ?_ (aa.table n).length 0 K [] (by omega) (by omega) (BW _) (by simp)
 ·exact this
 ·intro rec r i u z y;simp only[Q90.s0];rw[show decide ((i:Int)<(BH n.2.2.2.2.2.2.2.2.1:Int))=true from bi (by omega:(i:Int)<(BH (aa.table n):Int)),show idx n.2.2.2.2.2.2.2.2.1 (i:Int)=some (aa.table n)[i] from af u,ar i (by omega),decide_eq_true (by omega:(BH r:Int)<2)];simp only[cond_true,BG,pK];show (bif (aa.table n)[i].1 != n.1 then (bif (aa.table n)[i].1 != (aa.probe n).1 then (bif (aa.table n)[i].2.2.1==1 then (bif decide ((BH r+BH ([(aa.table n)[i].1]))*8<=ak) then (rec (r++([(aa.table n)[i].1]),((i+1:Nat):Int))) else none) else (rec (r,((i+1:Nat):Int)))) else (rec (r,((i+1:Nat):Int)))) else (rec (r,((i+1:Nat):Int))))=_;rw[szb _ _ _ (by omega) (by simp;omega)];cases (aa.table n)[i].1 != n.1 <;> cases (aa.table n)[i].1 != (aa.probe n).1 <;> cases (aa.table n)[i].2.2.1==1 <;> rfl
 ·intro rec r i u z y;simp only[Q90.s0];rw[show decide ((i:Int)<(BH n.2.2.2.2.2.2.2.2.1:Int))=true from bi (by omega:(i:Int)<(BH (aa.table n):Int)),decide_eq_false (by omega:¬ (BH r:Int)<2)];rfl
 ·intro rec r _;simp only[Q90.s0];rw[show decide ((BH (aa.table n):Int)<(BH n.2.2.2.2.2.2.2.2.1:Int))=false from aR _];rfl
theorem xi (K:Nat)(n m:aa)(p:ag)(H:aa.table m=aa.table n/\m.1=n.1)(u:p=aa.probe n)(r:(aa.table n).length<=1048576)(z:1048577<K) :
  ((Q157.f K (aa.table n,(λI=>(Q160.f K (I.1,m,p,())).map λy=>y.1.1),())).bind λJ=>Q156.f K (J.1.1,2,()))=some ((cE n,()),()):=by
 rw[qw K (aa.table n) _ (pK n) r z (λf _=>by
  simp only[Q160.f,pK];rw[H.2,u];cases f.2.2.1==1 <;> cases f.1 != n.1 <;> cases f.1 != (aa.probe n).1 <;> rfl)]
 simp only[BG];rw[qv K _ 2 (by rw[BU];exact BZ (CA _ _) r)];rfl
theorem yL (K:Nat)(n:aa)(h:b7 n)(h0:0<=(aa.probe n).2.1)(h1:(aa.probe n).2.1<=1000000)(M:0<=n.2.2.2.2.2.1)(Z:n.2.2.2.2.2.1<=1000000)(u:1048577<K) :
  Q162.f K (n,())=some (((bk n).2,()),((bk n).1,())):=by
 simp only[Q162.f,Q162.pre,zcp8];obtain⟨b,hw⟩:=iT K (aa.table n) (aa.probe n).1 h.table h.lt u;rw[show Q139.f K (n.2.2.2.2.2.2.2.2.1,n.2.2.2.2.2.2.2.2.2.2.1.1,())=_ from hw];simp only[BG,bk];show (bif (aa.probe n).1==-1 then _ else _)=_;cases (aa.probe n).1==-1 with
 |true=>rfl
 |false =>
  simp only[cond_false];rw[show Q159.f K (n,n.2.2.2.2.2.2.2.2.2.2.1.1,())=_ from ta K n (aa.probe n).1 h.table h.lt u];simp only[BG];cases Y:cL (aG (aa.table n) (aa.probe n).1) with
  |false=>rfl
  |true =>
   have hf:=c7 h.table (fh Y);simp only[BP,cond_false];rw[aD (n:=n.2.2.2.2.2.1-n.2.2.2.2.2.2.2.2.2.2.1.2.1) (by show -9223372036854775808<=n.2.2.2.2.2.1-(aa.probe n).2.1;omega) (by show n.2.2.2.2.2.1-(aa.probe n).2.1<=9223372036854775807;omega)];show (bif decide (n.2.2.2.2.2.1-(aa.probe n).2.1>=4) then _ else _)=_;cases decide (n.2.2.2.2.2.1-(aa.probe n).2.1>=4) with
   |true =>
    simp only[cond_true];cases (aG (aa.table n) (aa.probe n).1).2.2.1==1 with
    |true =>
     simp only[cond_true];refine (congrArg (λo=>CL o _) (zK K (setP n noP) (nS (aG (aa.table n) (aa.probe n).1)) n.1 (h.setP noP) (qy hf.1) u)).trans ?_;rfl
    |false=>rfl
   |false =>
    simp only[cond_false];show (bif decide (n.2.2.2.2.2.1-(aa.probe n).2.1>=2) then _ else _)=_;cases decide (n.2.2.2.2.2.1-(aa.probe n).2.1>=2) with
    |false=>rfl
    |true =>
     simp only[cond_true];show (bif !(aa.probe n).2.2.2 then _ else _)=_;cases J:(aa.probe n).2.2.2 with
     |true=>rfl
     |false =>
      simp only[CB,cond_true];have R:=xi K n (jL n) (aa.probe n) ⟨rfl,rfl⟩ rfl h.lt u;obtain⟨y,hy,z⟩:=Option.bind_eq_some_iff.1 R;refine (congrArg (λo=>CL o _) hy).trans ?_;simp only[BG];rw[z];simp only[BG];have H:(cE n).length<=2:=CW _ _;refine Cw (lH (step:=λrec a=>Q162.s0 K (n,()) rec a) (cE n) (λ_=>true) (askW n) (λr i=>(r,cE n,(BH (cE n):Int),(i:Int))) (λO=>some ((O,()),(jL n,()))) ?_ ?_ (by omega)) (by rw[CI.2 (λ_ _=>rfl)])
      ·intro rec r i I X;simp only[Q162.s0,zcp4,zcp8];rw[bi (by omega:(i:Int)<(BH (cE n):Int)),af I,ar i (by omega),BK,af I];simp only[cond_true,BG,Q161.f];rw[szw _ _ _ (by omega) (by simp;omega)];rfl
      ·intro rec r X;simp only[Q162.s0,zcp4,zcp8,aR];rfl
theorem xj (K:Nat)(n:aa)(h:b7 n)(hp:(aa.probe n).1≠-1)(h0:0<=(aa.probe n).2.1)(h1:(aa.probe n).2.1<=1000000)(R:0<=n.2.2.2.2.2.1)(Z:n.2.2.2.2.2.1<=1000000)(u:1048577<K) :
  Q91.f K (n,())=some (((bk n).1,(bk n).2,()),()):=by
 simp only[Q91.f,Q91.pre,zcp8,bk];rw[show ((aa.probe n).1==-1)=false by simpa using hp];simp only[cond_false];rw[show Q89.f K (n.2.2.2.2.2.2.2.2.1,n.2.2.2.2.2.2.2.2.2.2.1.1,())=_ from sZ K (aa.table n) (aa.probe n).1 h.table h.lt u];simp only[BG];cases I:cL (aG (aa.table n) (aa.probe n).1) with
 |false=>rfl
 |true =>
  have y:=c7 h.table (fh I);simp only[BP,cond_false];rw[aD (n:=n.2.2.2.2.2.1-n.2.2.2.2.2.2.2.2.2.2.1.2.1) (by show -9223372036854775808<=n.2.2.2.2.2.1-(aa.probe n).2.1;omega) (by show n.2.2.2.2.2.1-(aa.probe n).2.1<=9223372036854775807;omega)];show (bif decide (n.2.2.2.2.2.1-(aa.probe n).2.1>=4) then _ else _)=_;cases decide (n.2.2.2.2.2.1-(aa.probe n).2.1>=4) with
  |true =>
   simp only[cond_true];obtain⟨o,ho,e1⟩:=fw K (aa.table n) (aa.probe n).1 h.lt u;rw[show Q44.f K (n.2.2.2.2.2.2.2.2.1,n.2.2.2.2.2.2.2.2.2.2.1.1,())=_ from e1];simp only[BG];cases ho with
   |no z=>exact absurd (fh I) (λ⟨f,y,e⟩=>z f y e)
   |at_ j H e =>
    simp only;rw[show idx n.2.2.2.2.2.2.2.2.1 ((j:Nat):Int)=some (aa.table n)[j] from af H,il h.table.2 (BI H) y.2.2 (by rw[e,y.2.1])];simp only[BG];cases (aG (aa.table n) (aa.probe n).1).2.2.1==1 with
    |true =>
     simp only[cond_true];refine (congrArg (λo=>CL o _) (pI K (setP n noP) (nS (aG (aa.table n) (aa.probe n).1)) n.1 (h.setP noP) u)).trans ?_;rfl
    |false=>rfl
  |false =>
   simp only[cond_false];show (bif decide (n.2.2.2.2.2.1-(aa.probe n).2.1>=2) then _ else _)=_;cases decide (n.2.2.2.2.2.1-(aa.probe n).2.1>=2) with
   |false=>rfl
   |true =>
    simp only[cond_true];show (bif !(aa.probe n).2.2.2 then _ else _)=_;cases O:(aa.probe n).2.2.2 with
    |true=>rfl
    |false =>
     simp only[CB,cond_true];refine (congrArg (λo=>CL o _) (xh K (jL n) h.lt u)).trans ?_;simp only[BG];rw[show cE (jL n)=cE n from rfl];have J:(cE n).length<=2:=CW _ _;refine Cw (lH (step:=λrec a=>Q91.s0 K (n,()) rec a) (cE n) (λ_=>true) (askW n) (λr i=>(r,cE n,(i:Int))) (λX=>some ((jL n,X,()),())) ?_ ?_ (by omega)) (by rw[CI.2 (λ_ _=>rfl)])
     ·intro rec r i M Y;simp only[Q91.s0,zcp8];rw[bi (by omega:(i:Int)<(BH (cE n):Int)),af M,ar i (by omega),BK,af M];simp only[cond_true,BG,Q43.f];rw[szb _ _ _ (by omega) (by simp)];simp only[cond_true,BG];rw[szw _ _ _ (by omega) (by simp;omega)];rfl
     ·intro rec r Y;simp only[Q91.s0,zcp8,aR];rfl
def ip (n:aa)(i:Int):aa:=(n.1,n.2.1,n.2.2.1,n.2.2.2.1,i,n.2.2.2.2.2)
def fJ (n:aa)(f:ag):aa:=bif decide (bQ f (aG (aa.table n) n.1))&&decide (f.2.1<999) then sayOf (ip n (f.2.1+1)) (n.1,f.2.1+1,1,n.2.2.2.1) n.1 else n
def ea (f:ag)(b:Int)(d:bM):bM:=bif d.1==f.1&&d.2.1==f.2.1&&f.2.2.1==2 then (d.1,d.2.1,d.2.2.1,bG (λx:Int=>x) b d.2.2.2) else d
def kR (n:aa)(f:ag)(b:Int):aa:=iR n (aa.table n) (aa.cast n) ((aa.doubts n).map (ea f b))
def ei (b:Int)(n:aa)(f:ag):aa:=bif f.1==n.1 then fJ n f else kR (sayOf n f b) f b
def jh (n:aa)(t:List ag)(b:Int):aa:=t.foldl (ei b) n
def mc (l:List Int):Prop:=Asc (λx:Int=>x) l/\∀ x∈l,InP x 0 7
theorem mc.len {l:List Int}(h:mc l):l.length<=8:=iS h.1 h.2
theorem mc.put {l:List Int}{b:Int}(h:mc l)(u:InP b 0 7):mc (bG (λx:Int=>x) b l) :=
 ⟨fg h.1,λx r=>by
  rcases aZ.1 r with rfl|⟨r,_⟩
  ·exact u
  ·exact h.2 x r⟩
structure eu (n:aa):Prop where
 say:b7 n
 me:InP n.1 0 7
 has:∃ g∈aa.table n,g.1=n.1
 by_:∀ d∈aa.doubts n,mc d.2.2.2
theorem b7.inc {n:aa}(h:b7 n)(i:Int):b7 (ip n i):=⟨h.table,h.cast,h.asc,h.inp,h.lt,h.lc,h.ld⟩
theorem md {n:aa}{f:ag}{b:Int}(u:InP b 0 7)(h:∀ d∈aa.doubts n,mc d.2.2.2):∀ d∈aa.doubts (sayOf n f b),mc d.2.2.2:=by
 obtain⟨t,c,z,e,_,_,y⟩:=iG n f b;rw[e];intro d r;have r:d∈z:=r;rcases y with rfl|rfl
 ·exact h d r
 ·rcases kx r with rfl|r
  ·exact⟨C5 _ _,λx H=>by rw[CG.1 H];exact u⟩
  ·exact h d r
theorem uX {n:aa}{f:ag}(u:InP n.1 0 7)(r:bz f)(h:f.2.1<999):bz (n.1,f.2.1+1,1,n.2.2.2.1):=by
 obtain⟨_,⟨y,z⟩,_⟩:=r;exact⟨u,⟨show (0:Int)<=f.2.1+1 by omega,show f.2.1+1<=999 by omega⟩,show (1:Int)<=1 by omega,show (1:Int)<=4 by omega⟩
theorem eu.refute {n:aa}{f:ag}(h:eu n)(H:bz f):eu (fJ n f):=by
 unfold fJ;cases u:decide (bQ f (aG (aa.table n) n.1))&&decide (f.2.1<999) with
 |false=>exact h
 |true =>
  have J:f.2.1<999:=by
   rw[CN]at u;exact of_decide_eq_true u.2
  obtain⟨z,_⟩:=fA (ip n (f.2.1+1)) (n.1,f.2.1+1,1,n.2.2.2.1) n.1;refine⟨jg (h.say.inc _) (uX h.me H J),?_,?_,md h.me h.by_⟩
  ·show InP (sayOf (ip n (f.2.1+1)) (n.1,f.2.1+1,1,n.2.2.2.1) n.1).1 0 7;rw[z];exact h.me
  ·obtain⟨g,M,e⟩:=h.has;obtain⟨y,r,I⟩:=jJ (n:=ip n (f.2.1+1)) (f:=(n.1,f.2.1+1,1,n.2.2.2.1)) (b:=n.1) (g:=g) M;refine⟨y,r,?_⟩;show y.1=(sayOf (ip n (f.2.1+1)) (n.1,f.2.1+1,1,n.2.2.2.1) n.1).1;rw[z,I,e];rfl
theorem eu.confirm {n:aa}{f:ag}{b:Int}(h:eu n)(Y:bz f)(O:InP b 0 7):eu (kR (sayOf n f b) f b):=by
 have u:=jg (b:=b) h.say Y;obtain⟨R,_⟩:=fA n f b;have z:=md (f:=f) O h.by_;obtain⟨g,X,e⟩:=h.has;obtain⟨M,J,Z⟩:=jJ (n:=n) (f:=f) (b:=b) X;have H:∀ d,(ea f b d).1=d.1:=λd=>by unfold ea;cases d.1==f.1&&d.2.1==f.2.1&&f.2.2.1==2 <;> rfl
 refine⟨⟨u.table,u.cast,?_,λd I=>?_,u.lt,u.lc,?_⟩,?_,⟨M,J,?_⟩,λd I=>?_⟩
 ·show Asc (λd:bM=>d.1) ((aa.doubts (sayOf n f b)).map (ea f b));unfold Asc;rw[B9];exact u.asc.imp λ {a c} h=>by show (ea f b a).1<(ea f b c).1;rw[H,H];exact h
 ·obtain⟨y,r,rfl⟩:=B3.1 I;rw[H];exact u.inp y r
 ·show ((aa.doubts (sayOf n f b)).map (ea f b)).length<=_;rw[BU];exact u.ld
 ·show InP (sayOf n f b).1 0 7;rw[R];exact h.me
 ·show M.1=(sayOf n f b).1;rw[R,Z,e]
 ·obtain⟨y,r,rfl⟩:=B3.1 I;unfold ea;cases y.1==f.1&&y.2.1==f.2.1&&f.2.2.1==2 with
  |false=>exact z y r
  |true=>exact (z y r).put O
theorem eu.step {n:aa}{f:ag}{b:Int}(h:eu n)(r:bz f)(u:InP b 0 7):eu (ei b n f):=by
 unfold ei;cases f.1==n.1 with
 |true=>exact h.refute r
 |false=>exact h.confirm r u
theorem yM {α A R:Type}(ds:List α)(g:α->α)(S:List α->Nat->A)(u:List α->Option R){step:(A->Option R)->A->Option R}
  (h:∀ (rec:A->Option R) (cur:List α) (i:Nat) (X:i<ds.length),cur.length=ds.length->cur[i]?=some ds[i]->step rec (S cur i)=rec (S (cur.set i (g ds[i])) (i+1)))
  (z:∀ (rec:A->Option R) (cur:List α),cur.length=ds.length->step rec (S cur ds.length)=u cur) {k:Nat} (J:ds.length<k):ae step k (S ds 0)=u (ds.map g):=by
 have:∀ (d i k:Nat) (cur:List α),i+d=ds.length->d<k->cur.length=ds.length->(∀ j,(r:j<ds.length)->cur[j]?=some (if j<i then g ds[j] else ds[j]))->ae step k (S cur i)=u (ds.map g):=by
  intro d;induction d with
  |zero =>
   intro i k cur X J H I;obtain⟨k,rfl⟩:∃ M,k=M+1:=⟨k-1,by omega⟩;have:i=ds.length:=by omega
   subst this;show step (ae step k) _=_;rw[z _ _ H];congr 1;refine List.ext_getElem? λj=>?_
   rw[List.getElem?_map];by_cases r:j<ds.length
   ·rw[I j r,if_pos r,BS r];rfl
   ·rw[Cb (by omega),Cb (by omega)];rfl
  |succ d Y =>
   intro i k cur X J H I;obtain⟨k,rfl⟩:∃ M,k=M+1:=⟨k-1,by omega⟩;have y:i<ds.length:=by omega
   show step (ae step k) _=_;rw[h (ae step k) cur i y H (by rw[I i y,if_neg (by omega)])];refine Y (i+1) k _ (by omega) (by omega) (by rw[DA,H]) λj r=>?_
   rw[List.getElem?_set];by_cases e:i=j
   ·subst e;rw[if_pos rfl,if_pos (by omega),if_pos (by omega)]
   ·rw[if_neg e,I j r];by_cases O:j<i
    ·rw[if_pos O,if_pos (by omega)]
    ·rw[if_neg O,if_neg (by omega)]
 exact this ds.length 0 k ds (by omega) J rfl (λj r=>by rw[if_neg (by omega),BS r])
theorem tc {α:Type}{cur:List α}{i:Nat}{x:α}(h:cur[i]?=some x):cur.set i x=cur:=by
 obtain⟨r,e⟩:=List.getElem?_eq_some_iff.1 h;rw[<- e,List.set_getElem_self]
theorem td {by_:List Int}{b:Int}{m:Nat}(y:m<=by_.length)(r:by_.length<=8){R:Type}(G:List Int->Option R) :
  (bif decide ((0:Int)<=0)&&decide ((0:Int)<=(m:Int))&&decide ((m:Int)<=(BH by_:Int))&&true then (bif decide ((BH ([]:List Int)+BH ((by_.take (BJ (m:Int))).drop (BJ 0)))*8<=ak) then (bif decide ((BH ([]++((by_.take (BJ (m:Int))).drop (BJ 0)))+BH ([b]))*8<=ak) then (bif decide ((0:Int)<=(m:Int))&&decide ((m:Int)<=(BH by_:Int))&&decide ((BH by_:Int)<=(BH by_:Int))&&true then (bif decide ((BH (([]++((by_.take (BJ (m:Int))).drop (BJ 0)))++([b]))+BH ((by_.take (BJ (BH by_:Int))).drop (BJ (m:Int))))*8<=ak) then G ((([]++((by_.take (BJ (m:Int))).drop (BJ 0)))++([b]))++((by_.take (BJ (BH by_:Int))).drop (BJ (m:Int)))) else none) else none) else none) else none) else none)=G (by_.take m++[b]++by_.drop m):=by
 rw[decide_eq_true (by omega:(0:Int)<=0),decide_eq_true (by omega:(0:Int)<=(m:Int)),decide_eq_true (by omega:(m:Int)<=(BH by_:Int)),decide_eq_true (by omega:(BH by_:Int)<=(BH by_:Int))];simp only[BK,Cd,B4,BT,Ch,Ca,cond_true];have u:(by_.take m).length=m:=by rw[BY];omega
 have z:(by_.drop m).length=by_.length-m:=CD;rw[szb _ _ _ (by omega) (by simp only[BQ];omega),szb _ _ _ (by omega) (by simp only[BM,BQ];omega),szb _ _ _ (by omega) (by simp only[BV,BM,BQ];omega)];rfl
theorem xk (K:Nat)(n:aa)(f:ag)(b:Int)(hd:∀ d∈aa.doubts n,mc d.2.2.2)(hl:(aa.doubts n).length<=1048576)(hK:1048577<K):Q51.f K (n,f,b,())=some ((kR n f b,()),()):=by
 simp only[Q51.f,Q51.pre];refine yM (step:=λrec a=>Q51.s0 K (n,f,b,()) (Q51.l1 K (n,f,b,()) rec) rec a) (aa.doubts n) (ea f b) (λu i=>((i:Int),u)) (λu=>some ((iR n (aa.table n) (aa.cast n) u,()),())) ?_ ?_ (by omega)
 ·intro rec u i hi X I;have M:i<u.length:=by omega
  have a0:u[i]=(aa.doubts n)[i]:=by
   rw[BS M]at I;exact Option.some.inj I
  have R:=hd _ (BI hi);simp only[Q51.s0,zcp8];rw[bi (by omega:(i:Int)<(BH u:Int)),af M,ar i (by omega),BK,af M,a0];simp only[cond_true,BG];generalize a9:(aa.doubts n)[i]=d at R I ⊢;have H:rec (((i+1:Nat):Int),u)=rec (((i+1:Nat):Int),u.set i d):=by rw[tc I]
  unfold ea;by_cases h1:d.1=f.1
  case neg =>
   rw[show (d.1 != f.1)=true by simpa using h1,show (d.1==f.1)=false by simpa using h1];exact H
  by_cases h2:d.2.1=f.2.1
  case neg =>
   rw[show (d.1 != f.1)=false by simpa using h1,show (d.2.1 != f.2.1)=true by simpa using h2,show (d.2.1==f.2.1)=false by simpa using h2,DE];exact H
  by_cases h3:f.2.2.1=2
  case neg =>
   rw[show (d.1 != f.1)=false by simpa using h1,show (d.2.1 != f.2.1)=false by simpa using h2,show (f.2.2.1 != 2)=true by simpa using h3,show (f.2.2.1==2)=false by simpa using h3,DE];exact H
  rw[show (d.1 != f.1)=false by simpa using h1,show (d.2.1 != f.2.1)=false by simpa using h2,show (f.2.2.1 != 2)=false by simpa using h3,show (d.1==f.1)=true by simpa using h1,show (d.2.1==f.2.1)=true by simpa using h2,show (f.2.2.1==2)=true by simpa using h3];simp only[cond_false,Ca,cond_true];have a2:=R.len;have a1:∀ m:Nat,m<=d.2.2.2.length->(∀ j,(J:j<d.2.2.2.length)->j<m->d.2.2.2[j]<b)->(∀ j,(J:j<d.2.2.2.length)->m<=j->b<d.2.2.2[j])->d.2.2.2.take m++[b]++d.2.2.2.drop m=bG (λx:Int=>x) b d.2.2.2:=λm Y lo hi=>jf (k:=λx:Int=>x) Y lo hi
  have:=ch (step:=λr a=>Q51.s1 K (n,f,b,()) rec r a) d.2.2.2.length (λj=>((i:Int),(j:Int),u,d.1,d.2.1,d.2.2.1,d.2.2.2)) (λj=>∃ h:j<d.2.2.2.length,¬ d.2.2.2[j]<b)
   (rec (((i+1:Nat):Int),u.set i (d.1,d.2.1,d.2.2.1,d.2.2.2.take d.2.2.2.length++[b]++d.2.2.2.drop d.2.2.2.length)))
   (λj=>if h:j<d.2.2.2.length then (if d.2.2.2[j]=b then rec (((i+1:Nat):Int),u) else rec (((i+1:Nat):Int),u.set i (d.1,d.2.1,d.2.2.1,d.2.2.2.take j++[b]++d.2.2.2.drop j))) else none) ?_ ?_ d.2.2.2.length K 0 (by omega) (by omega)
  ·rcases this with ⟨a4,he⟩|⟨j,_,J,⟨Z,ad⟩,a3,he⟩
   ·refine Cw he ?_;rw[a1 _ (BW _) (λj J _=>by
     by_cases O:d.2.2.2[j]<b
     ·exact O
     ·exact absurd ⟨J,O⟩ (a4 j (BX _) J)) (λj J Y=>by omega)]
   ·refine Cw he ?_;rw[dif_pos Z];have lo:∀ m,(Y:m<d.2.2.2.length)->m<j->d.2.2.2[m]<b:=λm Y a6=>by
     by_cases O:d.2.2.2[m]<b
     ·exact O
     ·exact absurd ⟨Y,O⟩ (a3 m (BX _) a6)
    by_cases y:d.2.2.2[j]=b
    ·rw[if_pos y,<- ku (k:=λx:Int=>x) R.1 Z y];rw[show d.2.2.2.set j b=d.2.2.2 from tc (by rw[BS Z,y])];exact H
    ·rw[if_neg y,a1 j (by omega) lo (λm Y a5=>by
      rcases CO a5 with h4|rfl
      ·have:=dl.1 R.1 j m (by omega) Y h4;omega
      ·omega)]
  ·intro r j J;simp only[Q51.s1];rw[bi (by omega:(j:Int)<(BH d.2.2.2:Int)),af J,ar j (by omega)];simp only[cond_true,BG];by_cases O:d.2.2.2[j]<b
   ·left;refine⟨λ⟨_,h⟩=>h O,?_⟩;rw[decide_eq_true O];rfl
   ·right;refine⟨⟨J,O⟩,?_⟩;rw[decide_eq_false O,show ((j:Int)==(BH d.2.2.2:Int))=false by simp;omega,dif_pos J];simp only[cond_false];by_cases y:d.2.2.2[j]=b
    ·rw[if_pos y,show (d.2.2.2[j] != b)=false by simpa using y,ar i (by omega)];rfl
    ·rw[if_neg y,show (d.2.2.2[j] != b)=true by simpa using y];simp only[cond_true];refine (td (m:=j) (b:=b) (Nat.le_of_lt J) a2 (λz=>(idx u (i:Int)).bind λ_=>(idx u (BJ (i:Int):Nat)).bind λ_=>rec (wr .i64 ((i:Int)+1),u.set (BJ (i:Int)) (d.1,(d.2.1,(d.2.2.1,z)))))).trans ?_;rw[BK,af M,ar i (by omega)];rfl
  ·intro r;simp only[Q51.s1];rw[aR];simp only[cond_false,beq_self_eq_true,cond_true];refine (td (b:=b) (BW _) a2 (λz=>(idx u (i:Int)).bind λ_=>(idx u (BJ (i:Int):Nat)).bind λ_=>rec (wr .i64 ((i:Int)+1),u.set (BJ (i:Int)) (d.1,(d.2.1,(d.2.2.1,z)))))).trans ?_;rw[BK,af M,ar i (by omega)];rfl
 ·intro rec u X;simp only[Q51.s0,zcp8];rw[<- X,aR];rfl
theorem yN (K:Nat)(n:aa)(f:ag)(h:eu n)(O:bz f)(z:1048577<K):Q50.f K (n,f,())=some ((fJ n f,()),()):=by
 simp only[Q50.f,zcp4];have r:=c7 h.say.table h.has;obtain⟨o,M,I⟩:=fw K (aa.table n) n.1 h.say.lt z;rw[show Q44.f K (n.2.2.2.2.2.2.2.2.1,n.1,())=_ from I];simp only[BG];cases M with
 |no u=>exact absurd h.has (λ⟨g,J,e⟩=>u g J e)
 |at_ j y e =>
  simp only;rw[show idx n.2.2.2.2.2.2.2.2.1 ((j:Nat):Int)=some (aa.table n)[j] from af y,il h.say.table.2 (BI y) r.2.2 (by rw[e,r.2.1])];simp only[BG];rw[pH];obtain⟨_,⟨R,X⟩,_⟩:=O;simp only[rb,BG,fJ];cases decide (bQ f (aG (aa.table n) n.1)) with
  |false=>rfl
  |true =>
   simp only[BP,cond_false,CV];by_cases H:f.2.1<999
   ·rw[decide_eq_false (by omega:¬ f.2.1>=999),decide_eq_true H,aD (by omega) (by omega)];simp only[cond_false,cond_true];refine (congrArg (λo=>CL o _) (pI K (ip n (f.2.1+1)) (n.1,f.2.1+1,1,n.2.2.2.1) n.1 (h.say.inc _) z)).trans ?_;rfl
   ·rw[decide_eq_true (by omega:f.2.1>=999),decide_eq_false H];rfl
theorem uY (K:Nat)(n:aa)(t:List ag)(b:Int)(h:eu n)(I:∀ f∈t,bz f)(J:t.length<=1048576)(z:InP b 0 7)(y:1048577<K):Q52.f K (n,t,b,())=some ((jh n t b,()),()):=by
 refine kQ (step:=λrec a=>Q52.s0 K (n,t,b,()) rec a) t (ei b) eu (λm i=>((i:Int),m.1,m.2.1,m.2.2.1,m.2.2.2.1,m.2.2.2.2.1,m.2.2.2.2.2.1,m.2.2.2.2.2.2.1,m.2.2.2.2.2.2.2.1,m.2.2.2.2.2.2.2.2.1,m.2.2.2.2.2.2.2.2.2.1,m.2.2.2.2.2.2.2.2.2.2.1.1,m.2.2.2.2.2.2.2.2.2.2.1.2.1,m.2.2.2.2.2.2.2.2.2.2.1.2.2.1,m.2.2.2.2.2.2.2.2.2.2.1.2.2.2,m.2.2.2.2.2.2.2.2.2.2.2.1,m.2.2.2.2.2.2.2.2.2.2.2.2.1.1,m.2.2.2.2.2.2.2.2.2.2.2.2.1.2.1,m.2.2.2.2.2.2.2.2.2.2.2.2.1.2.2.1,m.2.2.2.2.2.2.2.2.2.2.2.2.1.2.2.2,m.2.2.2.2.2.2.2.2.2.2.2.2.2.1,m.2.2.2.2.2.2.2.2.2.2.2.2.2.2)) (λm=>some ((m,()),())) n h ?_ ?_ (by omega)
 ·intro rec m i H r;have u:=I _ (BI H);refine⟨?_,r.step u z⟩;simp only[Q52.s0,zc286a0,zc3ec45];rw[bi (by omega:(i:Int)<(BH t:Int)),af H,ar i (by omega)];simp only[cond_true,BG];generalize t[i]=f at u ⊢;unfold ei;cases f.1==m.1 with
  |true =>
   simp only[cond_true];refine (congrArg (λo=>CL o _) (yN K m f r u y)).trans ?_;rfl
  |false =>
   simp only[cond_false];refine (congrArg (λo=>CL o _) (pI K m f b r.say y)).trans ?_;simp only[BG];rw[xk K (sayOf m f b) f b (md z r.by_) (jg r.say u).ld y];rfl
 ·intro rec m r;simp only[Q52.s0,zc286a0,zc3ec45];rw[aR];rfl
def dt {α:Type}(r:α->α->Bool)(x:α):List α->List α->List α
 |[],B=>x::B
 |y::A,B=>bif r x y then dt r x A (y::B) else (y::A).reverse++x::B
def cP {α:Type}(r:α->α->Bool):List α->List α->List α
 |done,[]=>done
 |done,x::u=>cP r (dt r x done.reverse []) u
theorem oZ {α:Type}(r:α->α->Bool)(x:α):∀ (A B C:List α),dt r x A (B++C)=dt r x A B++C
 |[],B,C=>rfl
 |y::A,B,C=>by
  simp only[dt];cases r x y with
  |true=>exact oZ r x A (y::B) C
  |false=>simp
theorem o6 {α:Type}(r:α->α->Bool)(x:α):∀ (A B:List α),(dt r x A B).length=A.length+B.length+1
 |[],B=>by simp[dt]
 |y::A,B=>by
  simp only[dt];cases r x y with
  |true=>simp only[cond_true];rw[o6 r x A (y::B)];simp;omega
  |false=>simp;omega
theorem mS {α:Type}(r:α->α->Bool)(x:α):∀ (A B:List α),(dt r x A B).Perm (x::(A.reverse++B))
 |[],B=>by simp[dt]
 |y::A,B=>by
  simp only[dt];cases r x y with
  |true=>exact (mS r x A (y::B)).trans (by simp)
  |false=>simp only[cond_false];exact DL
theorem mf {α:Type}(r:α->α->Bool):∀ (xs done:List α),(cP r done xs).Perm (done++xs)
 |[],done=>by simp[cP]
 |x::xs,done=>by
  simp only[cP];refine (mf r xs _).trans ?_;have:=mS r x done.reverse [];simp only[B6,BR]at this;exact (this.append_right xs).trans (by simpa using (DL (a:=x) (l₁:=done) (l₂:=xs)).symm)
def jS {α:Type}(r:α->α->Bool)(xs:List α):Prop:=xs.Pairwise λa b=>r b a=false
theorem li {α:Type}(r:α->α->Bool)(I:∀ a b c,r a b=false->r b c=false->r a c=false)(x:α) :
  ∀ (A B:List α),jS r A.reverse->dt r x A B=(A.reverse.filter λy=>!r x y)++x::((A.reverse.filter λy=>r x y)++B)
 |[],B,_=>rfl
 |y::A,B,h=>by
  simp only[dt];have M:jS r A.reverse:=by
   unfold jS at h ⊢;rw[CU,CS]at h;exact h.1
  cases z:r x y with
  |true =>
   simp only[cond_true];rw[li r I x A (y::B) M];simp[z,CY]
  |false =>
   have H:∀ a∈A.reverse,r x a=false:=λa u=>by
    unfold jS at h;rw[CU,CS]at h;exact I x y a z (h.2.2 a u y (by simp))
   simp only[cond_false];have O:(y::A).reverse.filter (λy=>!r x y)=(y::A).reverse:=CI.2 λa u=>by
    rw[CU,CQ,CG]at u;rcases u with u|rfl
    ·rw[H a u];rfl
    ·rw[z];rfl
   have J:(y::A).reverse.filter (λy=>r x y)=[]:=CZ.2 λa u=>by
    rw[CU,CQ,CG]at u;rcases u with u|rfl
    ·rw[H a u];simp
    ·rw[z];simp
   rw[O,J];rfl
theorem vM {α:Type}(r:α->α->Bool)(I:∀ a b c,r a b=false->r b c=false->r a c=false)(u:∀ a b,r a b=true->r b a=false)(x:α)(A:List α)(h:jS r A):jS r (dt r x A.reverse []):=by
 rw[li r I x A.reverse [] (by rwa [B6])];unfold jS at h ⊢;simp only[B6,BR];rw[CS];refine⟨h.filter _,?_,?_⟩
 ·rw[B5];refine⟨λa z=>?_,h.filter _⟩;exact u _ _ (by simpa using (BN.1 z).2)
 ·intro a z b y;have H:r x a=false:=by simpa using (BN.1 z).2
  rcases CK.1 y with rfl|y
  ·exact H
  ·have J:r x b=true:=by simpa using (BN.1 y).2
   exact I b x a (u _ _ J) H
theorem mT {α:Type}(r:α->α->Bool)(y:∀ a b c,r a b=false->r b c=false->r a c=false)(u:∀ a b,r a b=true->r b a=false):∀ (xs done:List α),jS r done->jS r (cP r done xs)
 |[],done,h=>h
 |x::xs,done,h=>mT r y u xs _ (vM r y u x done h)
theorem oh {α:Type}(M:α->α->Bool):∀ {u H:List α},u.Perm H->jS M u->H.Pairwise (λa b=>M a b=true)->u=H
 |u,[],r,_,_=>r.eq_nil
 |[],z::H,r,_,_=>absurd r.symm.eq_nil (by simp)
 |y::u,z::H,r,I,O=>by
  unfold jS at I;rw[B5]at I O;have e:y=z:=by
   rcases CK.1 (r.mem_iff.1 (DI ..)) with h|h
   ·exact h
   ·have R:=O.1 y h;rcases CK.1 (r.symm.mem_iff.1 (DI ..)) with J|J
    ·exact J.symm
    ·rw[I.1 z J]at R;cases R
  subst e;rw[oh M r.cons_inv I.2 O.2]
abbrev SoR (α:Type):=Unit×(List α×Unit)
theorem vN {α R:Type}(H:α->α->Bool)(i:Int)(r:List α×Int->Option R){step:(List α×Int×Int->Option R)->List α×Int×Int->Option R}
  (h:∀ (rec:List α×Int×Int->Option R) (A:List α) (y x:α) (B:List α),A.length+B.length<=1048576->step rec (A++y::x::B,i,((A.length+1:Nat):Int))=bif H x y then rec (A++x::y::B,i,(A.length:Int)) else r (A++y::x::B,wr .i64 (i+1)))
  (O:∀ (rec:List α×Int×Int->Option R) (I:List α),step rec (I,i,0)=r (I,wr .i64 (i+1))) :
  ∀ (A B:List α) (x:α) (k:Nat),A.length+B.length<=1048576->A.length<k->ae step k (A.reverse++x::B,i,(A.length:Int))=r (dt H x A B,wr .i64 (i+1)):=by
 intro A;induction A with
 |nil =>
  intro B x k M u;obtain⟨k,rfl⟩:∃ z,k=z+1:=⟨k-1,by simp at u;omega⟩;exact O (ae step k) (x::B)
 |cons y A X =>
  intro B x k M u;simp only[BM]at u M;obtain⟨k,rfl⟩:∃ z,k=z+1:=⟨k-1,by omega⟩;have J:=h (ae step k) A.reverse y x B (by simp;omega);simp only[Cj]at J;show step (ae step k) _=_;rw[CU,CH];simp only[BM,DM,BT,dt];rw[J];cases H x y with
  |true=>exact X (y::B) x k (by simp;omega) (by omega)
  |false=>simp
theorem ul {α:Type}(r:α->α->Bool){step:(List α×Int->Option (SoR α))->List α×Int->Option (SoR α)}(n:Nat)(O:n<=1048576)
  (h:∀ (rec:List α×Int->Option (SoR α)) (done:List α) (x:α) (xs:List α),done.length+1+xs.length=n->step rec (done++x::xs,(done.length:Int))=rec (dt r x done.reverse xs,wr .i64 ((done.length:Int)+1)))
  (J:∀ (rec:List α×Int->Option (SoR α)) (H:List α) (i:Int),(n:Int)<=i->step rec (H,i)=some ((),(H,()))) :
  ∀ (xs done:List α) (k:Nat),done.length+xs.length=n->xs.length<k->ae step k (done++xs,(done.length:Int))=some ((),(cP r done xs,())):=by
 intro xs;induction xs with
 |nil =>
  intro done k y z;obtain⟨k,rfl⟩:∃ u,k=u+1:=⟨k-1,by omega⟩;show step (ae step k) _=_;rw[J _ _ _ (by simp at y;omega)];simp[cP]
 |cons x xs M =>
  intro done k y z;simp only[BM]at z y;obtain⟨k,rfl⟩:∃ u,k=u+1:=⟨k-1,by omega⟩;show step (ae step k) _=_;rw[h _ _ _ _ (by omega),ar _ (by omega)];have e:dt r x done.reverse xs=dt r x done.reverse []++xs:=oZ r x done.reverse [] xs;have I:(dt r x done.reverse []).length=done.length+1:=by rw[o6];simp
  rw[e,<- I];exact M _ k (by rw[I];omega) (by omega)
theorem yO {α:Type}(u:α->α->Bool){step:(List α×Int->Option (SoR α))->List α×Int->Option (SoR α)}(xs:List α)(J:xs.length<=1048576)
  (h:∀ (rec:List α×Int->Option (SoR α)) (done:List α) (x:α) (r:List α),done.length+1+r.length=xs.length->step rec (done++x::r,(done.length:Int))=rec (dt u x done.reverse r,wr .i64 ((done.length:Int)+1)))
  (z:∀ (rec:List α×Int->Option (SoR α)) (H:List α) (i:Int),(xs.length:Int)<=i->step rec (H,i)=some ((),(H,()))) {k:Nat} (y:xs.length<k) :
  ae step k (xs,1)=some ((),(cP u [] xs,())):=by
 cases xs with
 |nil =>
  obtain⟨k,rfl⟩:∃ I,k=I+1:=⟨k-1,by simp at y;omega⟩;exact z (ae step k) [] 1 (by simp)
 |cons x xs =>
  simp only[BM]at y;have:=ul u (xs.length+1) (by simpa using J) h z xs [x] k (by simp;omega) (by omega);exact this
theorem uZ {α:Type}(A B:List α)(x:α):idx (A++x::B) (A.length:Int)=some x:=by
 rw[qr];simp
theorem te {α:Type}(A B:List α)(y x:α):idx (A++y::x::B) ((A.length+1:Nat):Int)=some x:=by
 rw[qr];simp[List.getElem?_append_right]
theorem u3 {α:Type}(A B:List α)(x v:α):(A++x::B).set A.length v=A++v::B:=by simp
theorem tf {α:Type}(A B:List α)(y x v:α):(A++y::x::B).set (A.length+1) v=A++y::v::B:=by
 simp[DD]
theorem um {α R:Type}(P:α->Prop)(I:α->α->Bool)(i:Int)(r:List α×Int->Option R){step:(List α×Int×Int->Option R)->List α×Int×Int->Option R}
  (h:∀ (rec:List α×Int×Int->Option R) (A:List α) (y x:α) (B:List α),P y->P x->A.length+B.length<=1048576->step rec (A++y::x::B,i,((A.length+1:Nat):Int))=bif I x y then rec (A++x::y::B,i,(A.length:Int)) else r (A++y::x::B,wr .i64 (i+1)))
  (h0:∀ (rec:List α×Int×Int->Option R) (O:List α),step rec (O,i,0)=r (O,wr .i64 (i+1))) :
  ∀ (A B:List α) (x:α) (k:Nat),(∀ y∈A,P y)->P x->A.length+B.length<=1048576->A.length<k->ae step k (A.reverse++x::B,i,(A.length:Int))=r (dt I x A B,wr .i64 (i+1)):=by
 intro A;induction A with
 |nil =>
  intro B x k M J Y u;obtain⟨k,rfl⟩:∃ H,k=H+1:=⟨k-1,by simp at u;omega⟩;exact h0 (ae step k) (x::B)
 |cons y A ih =>
  intro B x k M J Y u;simp only[BM]at u Y;obtain⟨k,rfl⟩:∃ H,k=H+1:=⟨k-1,by omega⟩;have X:=h (ae step k) A.reverse y x B (M y (by simp)) J (by simp;omega);simp only[Cj]at X;show step (ae step k) _=_;rw[CU,CH];simp only[BM,DM,BT,dt];rw[X];cases I x y with
  |true=>exact ih (y::B) x k (λz Z=>M z (by simp[Z])) J (by simp;omega) (by omega)
  |false=>simp
theorem tg {α:Type}(P:α->Prop)(r:α->α->Bool){step:(List α×Int->Option (SoR α))->List α×Int->Option (SoR α)}(n:Nat)(hn:n<=1048576)
  (h:∀ (rec:List α×Int->Option (SoR α)) (done:List α) (x:α) (xs:List α),(∀ y∈done,P y)->P x->done.length+1+xs.length=n->step rec (done++x::xs,(done.length:Int))=rec (dt r x done.reverse xs,wr .i64 ((done.length:Int)+1)))
  (Z:∀ (rec:List α×Int->Option (SoR α)) (X:List α) (i:Int),(n:Int)<=i->step rec (X,i)=some ((),(X,()))) :
  ∀ (xs done:List α) (k:Nat),(∀ y∈done,P y)->(∀ y∈xs,P y)->done.length+xs.length=n->xs.length<k->ae step k (done++xs,(done.length:Int))=some ((),(cP r done xs,())):=by
 intro xs;induction xs with
 |nil =>
  intro done k M H O R;obtain⟨k,rfl⟩:∃ J,k=J+1:=⟨k-1,by omega⟩;show step (ae step k) _=_;rw[Z _ _ _ (by simp at O;omega)];simp[cP]
 |cons x xs ih =>
  intro done k M H O R;simp only[BM]at R O;obtain⟨k,rfl⟩:∃ J,k=J+1:=⟨k-1,by omega⟩;show step (ae step k) _=_;rw[h _ _ _ _ M (H x (by simp)) (by omega),ar _ (by omega)];have e:dt r x done.reverse xs=dt r x done.reverse []++xs:=oZ r x done.reverse [] xs;have Y:(dt r x done.reverse []).length=done.length+1:=by rw[o6];simp
  rw[e,<- Y];refine ih _ k (λz I=>?_) (λz I=>H z (by simp[I])) (by rw[Y];omega) (by omega);have u:=(mS r x done.reverse []).mem_iff.1 I;simp only[B6,BR,CK]at u;rcases u with rfl|u
  ·exact H z (by simp)
  ·exact M z u
theorem xm {α:Type}(P:α->Prop)(u:α->α->Bool){step:(List α×Int->Option (SoR α))->List α×Int->Option (SoR α)}(xs:List α)(J:∀ y∈xs,P y)(R:xs.length<=1048576)
  (h:∀ (rec:List α×Int->Option (SoR α)) (done:List α) (x:α) (r:List α),(∀ y∈done,P y)->P x->done.length+1+r.length=xs.length->step rec (done++x::r,(done.length:Int))=rec (dt u x done.reverse r,wr .i64 ((done.length:Int)+1)))
  (M:∀ (rec:List α×Int->Option (SoR α)) (I:List α) (i:Int),(xs.length:Int)<=i->step rec (I,i)=some ((),(I,()))) {k:Nat} (H:xs.length<k) :
  ae step k (xs,1)=some ((),(cP u [] xs,())):=by
 cases xs with
 |nil =>
  obtain⟨k,rfl⟩:∃ O,k=O+1:=⟨k-1,by simp at H;omega⟩;exact M (ae step k) [] 1 (by simp)
 |cons x xs =>
  simp only[BM]at H;have:=tg P u (xs.length+1) (by simpa using R) h M xs [x] k (λy z=>J y (by simpa using .inl (by simpa using z))) (λy z=>J y (by simp[z])) (by simp;omega) (by omega);exact this
def ltZ (a b:Int):Bool:=decide (a<b)
theorem Ba (K:Nat)(a b:Int):Q167.f K (a,b,())=some ((ltZ a b,()),()):=by
 simp only[Q167.f,Q135.f,ltZ];simp
theorem yP (K:Nat)(xs:List Int)(H:Int×Int×Unit->Option Int)(I:Int->Int->Bool)(P:Int->Prop)(Y:∀ y∈xs,P y)(hφ:∀ y z,P y->P z->∃ c,H (y,z,())=some c/\decide (c<0)=I y z)(hx:xs.length<=1048576)(hK:1048577<K) :
  Q163.f K (xs,0,(xs.length:Int),H,())=some ((),(cP I [] xs,())):=by
 refine xm P (step:=λrec a=>Q163.s0 K (xs,0,(xs.length:Int),H,()) (Q163.l1 K (xs,0,(xs.length:Int),H,()) rec) rec a) I xs Y hx ?_ ?_ (by omega)
 ·intro rec done x r J M hl;simp only[Q163.s0];rw[decide_eq_true (by omega:((done.length:Int))<(xs.length:Int))];simp only[cond_true];have:=um P I (done.length:Int) rec (step:=λu a=>Q163.s1 K (xs,0,(xs.length:Int),H,()) rec u a) ?_ ?_ done.reverse r x K (λy O=>J y (by simpa using O)) M (by simp;omega) (by simp;omega)
  ·rw[B6,Cj]at this;exact this
  ·intro u A y z B O X Z;simp only[Q163.s1];have e1:wr .i64 (((A.length+1:Nat):Int)-1)=(A.length:Int):=(aD (by omega) (by omega)).trans (by omega);rw[decide_eq_true (by omega:((A.length+1:Nat):Int)>0)];obtain⟨c,hc,J⟩:=hφ z y X O;simp only[cond_true,e1,BK,te,uZ,BG,hc,J,tf,u3]
  ·intro u R;simp only[Q163.s1];rw[decide_eq_false (by omega:¬ (0:Int)>0)];rfl
 ·intro rec R i hi;simp only[Q163.s0];rw[decide_eq_false (by omega:¬ i<(xs.length:Int))];rfl
theorem yQ (K:Nat)(xs:List Int)(u:Int×Int×Unit->Option Int)(H:Int->Int->Bool)(P:Int->Prop)(I:∀ y∈xs,P y)(hφ:∀ y z,P y->P z->∃ c,u (y,z,())=some c/\decide (c<0)=H y z)(R:xs.length<=19)(M:1048577<K) :
  Q165.f K (xs,u,())=some ((),(cP H [] xs,())):=by
 simp only[Q165.f];have:Q164.f K (xs,(xs.length:Int),u,())=some ((),(cP H [] xs,())):=by
  obtain⟨k,rfl⟩:∃ J,K=J+1:=⟨K-1,by omega⟩;show Q164.s0 _ _ _ _ _=_;simp only[Q164.s0];rw[decide_eq_false (by omega:¬ (20:Int)<=(xs.length:Int))];simp only[cond_false];rw[yP (k+1) xs u H P I hφ (by omega) M];simp only[BG];have O:∀ (r:Q164.A1->Option Q164.Res),Q164.s1 (k+1) (xs,(xs.length:Int),u,()) (Q164.l2 (k+1) (xs,(xs.length:Int),u,()) r) r (cP H [] xs,20)=some ((),(cP H [] xs,())):=by
   intro r;simp only[Q164.s1];rw[decide_eq_false (by omega:¬ (20:Int)<(xs.length:Int))];rfl
  exact O _
 rw[this];rfl
theorem yR (K:Nat)(xs:List Int)(J:xs.length<=1048576)(O:1048577<K) :
  Q168.f K (xs,0,(xs.length:Int),())=some ((),(cP ltZ [] xs,())):=by
 refine yO (step:=λrec a=>Q168.s0 K (xs,0,(xs.length:Int),()) (Q168.l1 K (xs,0,(xs.length:Int),()) rec) rec a) ltZ xs J ?_ ?_ (by omega)
 ·intro rec done x r R;simp only[Q168.s0];rw[decide_eq_true (by omega:((done.length:Int))<(xs.length:Int))];simp only[cond_true];have:=vN ltZ (done.length:Int) rec (step:=λu a=>Q168.s1 K (xs,0,(xs.length:Int),()) rec u a) ?_ ?_ done.reverse r x K (by simp;omega) (by simp;omega)
  ·rw[B6,Cj]at this;exact this
  ·intro u A y z B I;simp only[Q168.s1];have M:wr .i64 (((A.length+1:Nat):Int)-1)=(A.length:Int):=(aD (by omega) (by omega)).trans (by omega);rw[decide_eq_true (by omega:((A.length+1:Nat):Int)>0)];simp only[cond_true,M,BK,te,uZ,BG,tf,u3];rw[show Q167.f K (z,y,())=_ from Ba K z y];rfl
  ·intro u H;simp only[Q168.s1];rw[decide_eq_false (by omega:¬ (0:Int)>0)];rfl
 ·intro rec H i X;simp only[Q168.s0];rw[decide_eq_false (by omega:¬ i<(xs.length:Int))];rfl
theorem yS (K:Nat)(xs:List Int)(I:xs.length<=12)(u:1048577<K) :
  Q176.f K (xs,())=some ((),(cP ltZ [] xs,())):=by
 simp only[Q176.f,Q175.f];obtain⟨l,y⟩:∃ l:Int,Q174.f K (wr .u64 (xs.length:Int),())=some ((l,()),()):=by
  have e:wr .u64 (xs.length:Int)=(xs.length:Int):=by
   show IntKind.u64.wrap _=_;have H:IntKind.u64.wrap (xs.length:Int)=(xs.length:Int) % 18446744073709551616:=by simp[IntKind.wrap,IntKind.bits,IntKind.signed]
   rw[H];omega
  rw[e];generalize J:xs.length=n at I;have:n=0\/n=1\/n=2\/n=3\/n=4\/n=5\/n=6\/n=7\/n=8\/n=9\/n=10\/n=11\/n=12:=by omega
  rcases this with rfl|rfl|rfl|rfl|rfl|rfl|rfl|rfl|rfl|rfl|rfl|rfl|rfl
  ·exact⟨0,by kernel_rfl⟩
  ·exact⟨1,by kernel_rfl⟩
  ·exact⟨2,by kernel_rfl⟩
  ·exact⟨2,by kernel_rfl⟩
  ·exact⟨3,by kernel_rfl⟩
  ·exact⟨3,by kernel_rfl⟩
  ·exact⟨3,by kernel_rfl⟩
  ·exact⟨3,by kernel_rfl⟩
  ·exact⟨4,by kernel_rfl⟩
  ·exact⟨4,by kernel_rfl⟩
  ·exact⟨4,by kernel_rfl⟩
  ·exact⟨4,by kernel_rfl⟩
  ·exact⟨4,by kernel_rfl⟩
 rw[y];simp only[BG];have:Q173.f K (xs,0,(xs.length:Int),l,())=some ((),(cP ltZ [] xs,())):=by
  obtain⟨k,rfl⟩:∃ r,K=r+1:=⟨K-1,by omega⟩;have z:∀ (rec:Q173.A0->Option Q173.Res) (a:Q173.A0),Q173.s0 (k+1) (xs,0,(xs.length:Int),l,()) rec a=some ((),(cP ltZ [] xs,())):=by
   intro rec a;simp only[Q173.s0];have e:wr .i64 ((xs.length:Int)-0)=(xs.length:Int):=(aD (by omega) (by omega)).trans (by omega);rw[e,decide_eq_true (by omega:(xs.length:Int)<=12)];simp only[cond_true];rw[yR (k+1) xs (by omega) u];rfl
  exact z (λ_=>none) ()
 rw[this];rfl
def dZ (l:List aM)(i:Int):Int:=((l[i.toNat]?).map (·.2)).getD 0
def ltL (l:List aM)(a b:Int):Bool:=decide (dZ l b<dZ l a)
def lt2 (l:List aM)(a b:Int):Prop:=dZ l b<dZ l a\/(dZ l a=dZ l b/\a<b)
def co (n:Nat):List Int:=(List.range n).map λ (i:Nat)=>(i:Int)
def bA (l:List aM):List Int:=cP (ltL l) [] (co l.length)
theorem iq {n:Nat}{i:Int}:i∈co n<->0<=i/\i<n:=by
 unfold co;rw[B3];constructor
 ·rintro⟨j,hj,rfl⟩;have:=DT.1 hj;omega
 ·rintro⟨h0,h1⟩;exact⟨i.toNat,DT.2 (by omega),by omega⟩
theorem ji (n:Nat):(co n).Pairwise (·<·):=by
 unfold co;rw[B9];exact List.pairwise_lt_range.imp λh=>by omega
theorem dG {l:List aM}{i:Nat}(h:i<l.length):dZ l (i:Int)=l[i].2:=by
 unfold dZ;rw[BK,BS h];rfl
theorem th (l:List aM):∀ (xs done:List Int),done.Pairwise (lt2 l)->(∀ a∈done,∀ b∈xs,a<b)->xs.Pairwise (·<·)->(cP (ltL l) done xs).Pairwise (lt2 l)
 |[],done,h,_,_=>h
 |x::xs,done,h,H,R=>by
  have z:=B5.1 R;have O:jS (ltL l) done:=h.imp λ {a b} J=>by
   unfold ltL;rw[decide_eq_false_iff_not];rcases J with y|⟨y,_⟩ <;> omega
  have e:=li (ltL l) (λa b c y I=>by
   unfold ltL at y I ⊢;rw[decide_eq_false_iff_not]at y I ⊢;omega) x done.reverse [] (by rw[B6];exact O)
  rw[B6,BR]at e;simp only[cP];rw[e];refine th l xs _ ?_ ?_ z.2
  ·rw[CS,B5];refine⟨h.filter _,⟨λb u=>?_,h.filter _⟩,λa r b u=>?_⟩
   ·have y:ltL l x b=true:=by simpa using (BN.1 u).2
    exact .inl (by simpa[ltL]using y)
   ·have y:ltL l x a=false:=by simpa using (BN.1 r).2
    have Y:¬ dZ l a<dZ l x:=by simpa[ltL]using y
    have M:=H a (BN.1 r).1 x (by simp);rcases CK.1 u with rfl|u
    ·by_cases I:dZ l b<dZ l a
     ·exact .inl I
     ·exact .inr ⟨by omega,M⟩
    ·have I:ltL l x b=true:=by simpa using (BN.1 u).2
     have X:dZ l b<dZ l x:=by simpa[ltL]using I
     exact .inl (by omega)
  ·intro a r b u;rcases CQ.1 r with r|r
   ·exact H a (BN.1 r).1 b (by simp[u])
   ·rcases CK.1 r with rfl|r
    ·exact z.1 b u
    ·exact H a (BN.1 r).1 b (by simp[u])
theorem pL (l:List aM):(bA l).Pairwise (lt2 l):=th l _ [] List.Pairwise.nil (by simp) (ji _)
theorem mg (l:List aM):(bA l).Perm (co l.length):=by
 unfold bA;simpa using mf (ltL l) (co l.length) []
theorem iH {l:List aM}{i:Int}:i∈bA l<->0<=i/\i<l.length:=by rw[(mg l).mem_iff,iq]
theorem xn (l:List aM):(bA l).length=l.length:=by rw[(mg l).length_eq];simp[co]
theorem un (l:List aM):(bA l).Nodup:=(mg l).nodup_iff.2 ((ji _).imp λh=>by omega)
def di (T:List Int)(n:Nat):List Bool:=(co n).map λi=>decide (i∈T)
theorem fe (T:List Int)(n:Nat):(di T n).length=n:=by simp[di,co]
theorem iI (T:List Int){n i:Nat}(h:i<n):(di T n)[i]'(by rw[fe];exact h)=decide ((i:Int)∈T):=by
 simp[di,co]
theorem xo {T:List Int}{n b:Nat}(u:b<n):(di T n).set b true=di (T++[(b:Int)]) n:=by
 refine Cs (by rw[DA,fe,fe]) λi y r=>?_
 rw[fe]at r;rw[DN,iI _ r];by_cases h:b=i
 ·subst h;rw[if_pos rfl,iI _ r];simp
 ·rw[if_neg h,iI _ r];have:¬ (i:Int)=(b:Int):=by omega
  simp[this]
def pM (l:List aM)(T:List Int)(i:Nat)(r:Int):Prop :=
 (r=-1/\∀ j:Nat,j<i->(j:Int)∈T)\/(0<=r/\r<i/\r∉T/\∀ j:Nat,j<i->(j:Int)∉T->(j:Int)≠r->lt2 l r (j:Int))
theorem Af (K:Nat)(l:List aM)(T:List Int)(hl:l.length<=1048576):∀ (d i k:Nat) (r:Int),i+d=l.length->d<k->pM l T i r ->
  ∃ b:Int,ae (λrec a=>Q59.s0 K (l,di T l.length,()) rec a) k (r,(i:Int))=some ((b,()),())/\pM l T l.length b:=by
 intro d;induction d with
 |zero =>
  intro i k r hi hk Y;obtain⟨k,rfl⟩:∃ k',k=k'+1:=⟨k-1,by omega⟩;have:i=l.length:=by omega
  subst this;refine⟨r,?_,Y⟩;show Q59.s0 K (l,di T l.length,()) _ _=_;simp only[Q59.s0,aR];rfl
 |succ d ih =>
  intro i k r hi hk Y;obtain⟨k,rfl⟩:∃ k',k=k'+1:=⟨k-1,by omega⟩;have y:i<l.length:=by omega
  have H:∀ r,pM l T (i+1) r->∃ b:Int,ae (λrec a=>Q59.s0 K (l,di T l.length,()) rec a) k (r,((i+1:Nat):Int))=some ((b,()),())/\pM l T l.length b:=λr h=>ih (i+1) k r (by omega) (by omega) h
  show ∃ b:Int,Q59.s0 K (l,di T l.length,()) (ae (λrec a=>Q59.s0 K (l,di T l.length,()) rec a) k) (r,(i:Int))=_/\_;generalize ae (λrec a=>Q59.s0 K (l,di T l.length,()) rec a) k=REC at H ⊢;simp only[Q59.s0];rw[bi (by omega:(i:Int)<(BH l:Int)),af (show i<(di T l.length).length by rw[fe];exact y),iI T y,ar i (by omega)];simp only[cond_true,BG];by_cases O:(i:Int)∈T
  ·rw[decide_eq_true O];simp only[BP,cond_false];refine H r ?_;rcases Y with ⟨rfl,h⟩|⟨h0,h1,h2,Z⟩
   ·refine .inl ⟨rfl,λj X=>?_⟩;by_cases z:j=i
    ·subst z;exact O
    ·exact h j (by omega)
   ·refine .inr ⟨h0,by omega,h2,λj X u I=>?_⟩;by_cases z:j=i
    ·subst z;exact absurd O u
    ·exact Z j (by omega) u I
  ·rw[decide_eq_false O];simp only[CB,cond_true];rcases Y with ⟨rfl,h⟩|⟨h0,h1,h2,Z⟩
   ·rw[show decide ((-1:Int)<0)=true from rfl];refine H (i:Int) (.inr ⟨by omega,by omega,O,λj X u I=>?_⟩);exact absurd (h j (by omega)) u
   ·rw[decide_eq_false (by omega:¬ r<0)];obtain⟨b,rfl⟩:=BL h0;have J:b<l.length:=by omega
    simp only[cond_false];rw[af y,af J];simp only[BG];by_cases M:l[i].2>l[b].2
    ·rw[decide_eq_true M];refine H (i:Int) (.inr ⟨by omega,by omega,O,λj X u I=>?_⟩);have z:j<i:=by omega
     have a1:j<l.length:=by omega
     by_cases R:(j:Int)=(b:Int)
     ·rw[R];exact .inl (by rw[dG y,dG J];exact M)
     ·have:=Z j z u R;rcases this with h4|⟨h4,_⟩
      ·exact .inl (by rw[dG J]at h4;rw[dG y];omega)
      ·exact .inl (by rw[dG J]at h4;rw[dG y];omega)
    ·rw[decide_eq_false M];refine H (b:Int) (.inr ⟨by omega,by omega,h2,λj X u I=>?_⟩);by_cases z:j=i
     ·subst z;by_cases a0:dZ l (b:Int)=dZ l (j:Int)
      ·exact .inr ⟨a0,h1⟩
      ·refine .inl ?_;rw[dG y,dG J]at *;omega
     ·exact Z j (by omega) u I
theorem Bb (K:Nat)(l:List aM)(n:Nat)(hl:l.length<=1048576)(hK:1048577<K):Q59.f K (l,di ((bA l).take n) l.length,())=some ((((bA l)[n]?).getD (-1),()),()):=by
  obtain⟨b,e,Z⟩:=Af K l ((bA l).take n) hl l.length 0 K (-1) (by omega) (by omega) (.inl ⟨rfl,λj y=>by omega⟩);have:b=((bA l)[n]?).getD (-1):=by
    by_cases z:n<(bA l).length
    · rw[BS z]
      show b=(bA l)[n];have hm:(bA l)[n]∉(bA l).take n:=λh=>by
        obtain⟨j,y,e⟩:=BO h;rw[BY]at y;rw[Ck]at e;have:=CP.1 (pL l) j n (by omega) z (by omega);rw[e]at this;rcases this with u|⟨_,u⟩ <;> omega
      have hr:=iH.1 (BI z);obtain⟨m,r⟩:=BL hr.1;rcases Z with ⟨rfl,h⟩|⟨Y,M,H,h3⟩
      · have:=h m (by omega)
        rw[<- r]at this;exact absurd this hm
      · by_cases X:b=(bA l)[n]
        · exact X
        · exfalso
          have I:=h3 m (by omega) (by rw[<- r];exact hm) (by rw[<- r];exact λh=>X h.symm);rw[<- r]at I;have O:b∈bA l:=iH.2 ⟨Y,M⟩;obtain⟨j,y,R⟩:=BO O;have J:n<j:=by
            rcases Cn j n with h|h|h
            · exact absurd (List.mem_take_iff_getElem.2 ⟨j,by omega,R⟩) H
            · subst h;exact absurd R.symm X
            · exact h
          have u:=CP.1 (pL l) n j z y J;rw[R]at u;rcases I with I|⟨I,h6⟩ <;> rcases u with u|⟨u,h7⟩ <;> omega
    · rw[Cb (by omega)]
      show b=-1;rcases Z with ⟨rfl,_⟩|⟨Y,M,H,_⟩
      · rfl
      · exfalso
        rw[CE (by omega)]at H;exact H (iH.2 ⟨Y,M⟩)
  rw[<- this];exact e
def bW (l:List aM):List Int:=(bA l).take 3
def gw (l:List aM)(i:Int):aM:=(l[i.toNat]?).getD ((0,0,0,false),0)
def dH (l:List aM)(T:List Int)(i:Int):aM:=bif decide (i∈T) then ((gw l i).1,(gw l i).2-1) else gw l i
def ee (l:List aM)(T:List Int)(n:Nat):List ag:=((co n).filter λi=>decide (i∈T)).map λi=>(gw l i).1
def fW (l:List aM)(T:List Int)(n:Nat):List aM:=(co n).map (dH l T)
def dv (l:List aM)(T:List Int)(n:Nat):List aM:=(fW l T n).filter λx=>decide (x.2>0)
theorem cn {l:List aM}{i:Nat}(h:i<l.length):gw l (i:Int)=l[i]:=by
 unfold gw;rw[BK,BS h];rfl
theorem mU (n:Nat):co (n+1)=co n++[(n:Int)]:=by
 unfold co;rw[List.range_succ,Cu];rfl
theorem vO (l:List aM)(T:List Int)(n:Nat):ee l T (n+1)=ee l T n++(bif decide ((n:Int)∈T) then [(gw l (n:Int)).1] else []):=by
 unfold ee;rw[mU,CY,Cu,CC];cases decide ((n:Int)∈T) <;> rfl
theorem vP (l:List aM)(T:List Int)(n:Nat):dv l T (n+1)=dv l T n++(bif decide ((dH l T (n:Int)).2>0) then [dH l T (n:Int)] else []):=by
 unfold dv fW;rw[mU,Cu,CY,C0,CC];cases decide ((dH l T (n:Int)).2>0) <;> rfl
theorem xp (l:List aM)(T:List Int)(n:Nat):(ee l T n).length<=n:=by
 unfold ee;rw[BU];refine BZ (CA _ _) ?_;simp[co]
theorem xq (l:List aM)(T:List Int)(n:Nat):(dv l T n).length<=n:=by
 unfold dv;refine BZ (CA _ _) ?_;simp[fW,co]
theorem Ag (K:Nat)(l:List aM)(m:Int)(T:List Int)(M:l.length<=1048576)(H:cO l)(O:1048577<K) :
  Q60.l1 K (l,m,()) (di T l.length,[],[],0)=some ((ee l T l.length,dv l T l.length,()),()):=by
 refine er (step:=λrec a=>Q60.s1 K (l,m,()) rec a) l.length (λi=>(di T l.length,ee l T i,dv l T i,(i:Int))) (some ((ee l T l.length,dv l T l.length,()),())) ?_ ?_ (by omega)
 ·intro rec i r;simp only[Q60.s1];have u:i<(di T l.length).length:=by rw[fe];exact r
  have I:=xp l T i;have R:=xq l T i;obtain⟨X,J⟩:=(H.1 l[i] (BI r)).2;rw[bi (by omega:(i:Int)<(BH l:Int)),af r,af u,ar i (by omega),BK,af u,iI T r,vO,vP,cn r];simp only[cond_true,BG];cases z:decide ((i:Int)∈T) with
  |true =>
   have y:dH l T (i:Int)=(l[i].1,l[i].2-1):=by unfold dH;rw[z,cn r];rfl
   rw[y];simp only[cond_true];rw[szb _ _ _ (by omega) (by simp;omega),aD (n:=l[i].2-1) (by omega) (by omega)];simp only[cond_true];cases decide (l[i].2-1>0) with
   |true =>
    simp only[cond_true];rw[szb _ _ _ (by omega) (by simp;omega)];rfl
   |false =>
    simp only[cond_false,BR]
  |false =>
   have y:dH l T (i:Int)=l[i]:=by unfold dH;rw[z,cn r];rfl
   rw[y];simp only[cond_false,BR];cases decide (l[i].2>0) with
   |true =>
    simp only[cond_true];rw[szb _ _ _ (by omega) (by simp;omega)];rfl
   |false =>
    simp only[cond_false,BR]
 ·intro rec;simp only[Q60.s1,aR];rfl
theorem Bc (K:Nat)(l:List aM)(O:l.length<=1048576)(Z:cO l)(M:1048577<K):Q60.f K (l,3,())=some ((ee l (bW l) l.length,dv l (bW l) l.length,()),()):=by
 have r:∀ T,Q60.l1 K (l,3,()) (di T l.length,[],[],0)=some ((ee l T l.length,dv l T l.length,()),()):=λT=>Ag K l 3 T O Z M
 have go:∀ (d n k:Nat),n+d=3->d<k->ae (λrec a=>Q60.s0 K (l,3,()) (Q60.l1 K (l,3,())) rec a) k (di ((bA l).take n) l.length,(n:Int))=some ((ee l (bW l) l.length,dv l (bW l) l.length,()),()):=by
  intro d;induction d with
  |zero =>
   intro n k hn Y;obtain⟨k,rfl⟩:∃ H,k=H+1:=⟨k-1,by omega⟩;have:n=3:=by omega
   subst this;exact r _
  |succ d ih =>
   intro n k hn Y;obtain⟨k,rfl⟩:∃ H,k=H+1:=⟨k-1,by omega⟩;have y:=ih (n+1) k (by omega) (by omega);show Q60.s0 K (l,3,()) (Q60.l1 K (l,3,())) (ae (λrec a=>Q60.s0 K (l,3,()) (Q60.l1 K (l,3,())) rec a) k) (di ((bA l).take n) l.length,(n:Int))=_;generalize ae (λrec a=>Q60.s0 K (l,3,()) (Q60.l1 K (l,3,())) rec a) k=REC at y ⊢;simp only[Q60.s0];rw[decide_eq_true (by omega:(n:Int)<3),Bb K l n O M,ar n (by omega)];simp only[cond_true,BG];by_cases u:n<(bA l).length
   ·rw[BS u];have X:=iH.1 (BI u);have I:(bA l).take (n+1)=(bA l).take n++[(bA l)[n]]:=CT u;rw[I]at y;simp only[DO];generalize (bA l)[n]=v at X y ⊢;obtain⟨b,rfl⟩:=BL X.1;have J:b<l.length:=by omega
    have z:b<(di ((bA l).take n) l.length).length:=by rw[fe];exact J
    rw[decide_eq_false (by omega:¬ (b:Int)<0),af z,BK,af z,xo J];exact y
   ·rw[Cb (by omega)];show Q60.l1 K (l,3,()) (di ((bA l).take n) l.length,[],[],0)=_;rw[r,show (bA l).take n=bW l by unfold bW;rw[CE (by omega),CE (by omega)]]
 simp only[Q60.f,Q60.pre];rw[decide_eq_true (by omega:(0:Int)<=(BH l:Int)),show decide ((BH l:Int)*(1:Nat)<=ak)=true from decide_eq_true (by simp only[ak];omega),BK];simp only[decide_true,Ca,cond_true];have h0:Cg l.length false=di ((bA l).take 0) l.length:=by
  refine Cs (by rw[Cq,fe]) λi h1 R=>?_
  rw[fe]at R;rw[List.getElem_replicate,iI _ R];simp
 have:=go 3 0 K (by omega) (by omega);rw[<- h0]at this;exact this
theorem rX {a b:List Int}(u:a.Nodup)(r:b.Nodup)(h:∀ x,x∈a<->x∈b):a.Perm b:=by
 rw[List.perm_iff_count];intro x;rw[u.count,r.count];simp[h]
def cX (l:List aM):List Int:=(co l.length).filter λi=>decide (i∈bW l)
theorem uo (l:List aM):cP ltZ [] (bW l)=cX l:=by
 have r:(bW l).Nodup:=(un l).sublist (List.take_sublist _ _);have u:((co l.length).filter λi=>decide (i∈bW l)).Nodup:=((ji l.length).imp (λh=>by omega:∀ {a b:Int},a<b->a≠b)).filter _;refine oh ltZ ?_ (mT ltZ (λa b c r u=>by
  unfold ltZ at r u ⊢;rw[decide_eq_false_iff_not]at r u ⊢;omega) (λa b h=>by
  unfold ltZ at h ⊢;rw[decide_eq_true_eq]at h;rw[decide_eq_false_iff_not];omega) (bW l) [] List.Pairwise.nil) ?_
 ·refine (by simpa using mf ltZ (bW l) []:(cP ltZ [] (bW l)).Perm (bW l)).trans (rX r u λx=>?_);rw[cX,BN,decide_eq_true_eq,iq];exact⟨λh=>⟨iH.1 (DF h),h⟩,λh=>h.2⟩
 ·exact ((ji l.length).filter _).imp λh=>by unfold ltZ;exact decide_eq_true h
theorem xt {l:List aM}{i:Int}:i∈cX l<->i∈bW l:=by
 unfold cX;rw[BN,decide_eq_true_eq,iq];exact⟨λh=>h.2,λh=>⟨iH.1 (DF h),h⟩⟩
theorem xu (l:List aM):(cX l).Pairwise (·<·):=(ji l.length).filter _
theorem eJ (l:List aM)(T:List Int)(n:Nat):(fW l T n).length=n:=by simp[fW,co]
theorem fj (l:List aM)(T:List Int){n i:Nat}(h:i<n):(fW l T n)[i]'(by rw[eJ];exact h)=dH l T (i:Int):=by
 simp[fW,co]
theorem yT (l:List aM):fW l [] l.length=l:=by
 refine Cs (eJ _ _ _) λi u r=>?_
 rw[fj l [] r];unfold dH;rw[cn r];simp
theorem yU {l:List aM}{T:List Int}{b:Nat}(y:b<l.length):(fW l T l.length).set b ((gw l (b:Int)).1,(gw l (b:Int)).2-1)=fW l (T++[(b:Int)]) l.length:=by
 refine Cs (by rw[DA,eJ,eJ]) λi u r=>?_
 rw[eJ]at r;rw[DN,fj _ _ r];by_cases h:b=i
 ·subst h;rw[if_pos rfl,fj _ _ r];unfold dH;rw[decide_eq_true (by simp:(b:Int)∈T++[(b:Int)])];rfl
 ·rw[if_neg h,fj _ _ r];unfold dH;have:((i:Int)∈T++[(b:Int)])<->(i:Int)∈T:=by
   rw[CQ,CG];exact⟨λu=>u.resolve_right (by omega),.inl⟩
  rw[show decide ((i:Int)∈T++[(b:Int)])=decide ((i:Int)∈T) by rw[decide_eq_decide];exact this]
theorem vQ {l:List aM}{T T':List Int}(h:∀ i,i∈T<->i∈T')(n:Nat):fW l T n=fW l T' n:=by
 unfold fW;refine List.map_congr_left λi _=>?_
 unfold dH;rw[show decide (i∈T)=decide (i∈T') by rw[decide_eq_decide];exact h i]
theorem uq (K:Nat)(x:ab Q178.ps)(l:List aM)(hl:l.length<=1048576)(X:cO l)(hK:1048577<K) :
  Q178.l1 K x (l,cX l,[],(BH (cX l):Int),0)=some ((ee l (bW l) l.length,dv l (bW l) l.length,()),()):=by
 have a0:(cX l).length<=l.length:=by
  refine BZ (CA _ _) ?_;simp[co]
 refine Cw ?_ (er (step:=λrec a=>Q178.s1 K x rec a) (cX l).length (λi=>(fW l ((cX l).take i) l.length,cX l,((cX l).take i).map (λj=>(gw l j).1),(BH (cX l):Int),(i:Int))) (some ((ee l (bW l) l.length,dv l (bW l) l.length,()),())) ?_ ?_ (by omega:(cX l).length<K))
 ·simp only[List.take_zero,DV,yT];rfl
 ·intro rec i r;simp only[Q178.s1];have Y:=iq.1 ((BN.1 (BI r)).1);have u:(cX l)[i]∉(cX l).take i:=λh=>by
   obtain⟨j,hj,e⟩:=BO h;rw[BY]at hj;rw[Ck]at e;have:=CP.1 (xu l) j i (by omega) r (by omega);omega
  have M:(cX l).take (i+1)=(cX l).take i++[(cX l)[i]]:=CT r;rw[M,Cu];have I:(((cX l).take i).map (λj=>(gw l j).1)).length<=1048576:=by rw[BU,BY];omega
  rw[bi (by omega:(i:Int)<(BH (cX l):Int)),af r,ar i (by omega),BK,af r];simp only[cond_true,BG];generalize (cX l)[i]=v at Y u ⊢;obtain⟨b,rfl⟩:=BL Y.1;have z:b<l.length:=by omega
  have H:b<(fW l ((cX l).take i) l.length).length:=by rw[eJ];exact z
  have hd:dH l ((cX l).take i) (b:Int)=l[b]:=by
   unfold dH;rw[decide_eq_false u,cn z];rfl
  obtain⟨c0,Z⟩:=(X.1 l[b] (BI z)).2;rw[af H,BK,af H,fj l _ z,hd];simp only[BG];rw[szb _ _ _ (by omega) (by simp only[BU,BM,BQ]at I ⊢;omega),aD (n:=l[b].2-1) (by omega) (by omega),<- yU z,cn z];simp only[cond_true,C0,DV,cn z]
 ·intro rec;simp only[Q178.s1,aR,cond_false,Ch,Q10.f];have e:∀ J:List aM,J.length<=1048576->gI t3 J (λR=>(Q177.f K (R.1,())).map λy=>y.1.1)=some ((J.filter (λx=>!(x.2==0)),()),()):=λJ O=>q9 (e:=t3) (λx=>x.2==0) O (λx _=>rfl)
  rw[e _ (by rw[eJ];exact hl)];simp only[BG];rw[vQ (l:=l) (T:=cX l) (T':=bW l) (λi=>xt) l.length];have ef:(fW l (bW l) l.length).filter (λx=>!(x.2==0))=dv l (bW l) l.length:=by
   unfold dv;refine Cz λx hx=>?_
   have h0:0<=x.2:=by
    obtain⟨i,r,rfl⟩:=BO hx;rw[eJ]at r;rw[fj l _ r];obtain⟨c0,Z⟩:=(X.1 l[i] (BI r)).2;unfold dH;rw[cn r];cases decide ((i:Int)∈bW l) with
    |true=>show 0<=l[i].2-1;omega
    |false=>show 0<=l[i].2;omega
   rw[CR];simp;omega
  rw[ef];rfl
theorem vR (K:Nat)(l:List aM)(hl:l.length<=8)(H:cO l)(I:1048577<K):Q178.f K (l,3,())=some ((ee l (bW l) l.length,dv l (bW l) l.length,()),()):=by
 simp only[Q178.f,Q178.pre];obtain⟨b1,e1,e2⟩:=oW K l (by omega) I;have Y:=e2.2 H;subst Y;rw[e1];simp only[BG,BP,cond_false];rw[decide_eq_true (by omega:(0:Int)<=(BH l:Int)),show decide ((BH l:Int)*(8:Nat)<=ak)=true from decide_eq_true (by simp only[ak];omega),BK];simp only[decide_true,Ca,cond_true];have R:(co l.length).length=l.length:=by simp[co]
 have hS:∀ i,i<=l.length->(co i++Cg (l.length-i) (0:Int)).length=l.length:=λi hi=>by simp[co];omega
 refine Cw ?_ (er (step:=λrec a=>Q178.s0 K (l,3,()) (Q178.l1 K (l,3,())) rec a) l.length (λi=>(co i++Cg (l.length-i) (0:Int),(i:Int))) (some ((ee l (bW l) l.length,dv l (bW l) l.length,()),())) ?_ ?_ (by omega:l.length<K))
 ·rfl
 ·intro rec i hi;simp only[Q178.s0];have u:i<(co i++Cg (l.length-i) (0:Int)).length:=by rw[hS i (by omega)];exact hi
  rw[decide_eq_true (by rw[Cq];show (i:Int)<((BJ (BH l:Int):Nat):Int);omega),af u,ar i (by omega),BK,af u];simp only[cond_true,BG];have e:(co i++Cg (l.length-i) (0:Int)).set i (i:Int)=co (i+1)++Cg (l.length-(i+1)) (0:Int):=by
   obtain⟨m,hm⟩:∃ m,l.length-i=m+1:=⟨l.length-i-1,by omega⟩;have O:(co i).length=i:=by simp[co]
   rw[hm,show l.length-(i+1)=m by omega,mU,DD _ _ (by omega),O,Nat.sub_self,List.replicate_succ,List.set_cons_zero,CH];rfl
  rw[e]
 ·intro rec;simp only[Q178.s0];rw[decide_eq_false (by rw[Cq];show ¬ (BH l:Int)<((BJ (BH l:Int):Nat):Int);omega),Nat.sub_self,List.replicate_zero,BR];simp only[cond_false,Q5.f];have r:=yQ K (co l.length) (λZ=>(Q166.f K (Z.1,Z.2.1,l,())).map λy=>y.1.1) (ltL l) (λi=>0<=i/\i<l.length) (λy X=>iq.1 X) (λy z X hz=>by
   obtain⟨a,rfl⟩:=BL X.1;obtain⟨b,rfl⟩:=BL hz.1;have J:a<l.length:=by omega
   have M:b<l.length:=by omega
   obtain⟨c0,c1⟩:=(H.1 l[a] (BI J)).2;obtain⟨c2,c3⟩:=(H.1 l[b] (BI M)).2;refine⟨l[b].2-l[a].2,?_,?_⟩
   ·simp only[Q166.f];rw[af J,af M];simp only[BG];rw[aD (n:=l[b].2-l[a].2) (by omega) (by omega)];rfl
   ·unfold ltL;rw[dG J,dG M,decide_eq_decide];omega) (by rw[R];omega) I
  rw[r];simp only[BG];rw[dU (by omega)];simp only[BG];rw[show Q156.f K (cP (ltL l) [] (co l.length),3,())=some ((bW l,()),()) from qv K (bA l) 3 (by rw[xn];omega)];simp only[BG];rw[yS K (bW l) (BZ (CW _ _) (by omega)) I,uo];simp only[BG];exact uq K (l,3,()) l (by omega) H I
theorem Bd {a b:Int}(z:0<=a)(u:a<4611686018427387904)(r:0<=b)(y:b<4611686018427387904):0<=qo .i64 a b:=by
 obtain⟨m,rfl⟩:=BL z;obtain⟨n,rfl⟩:=BL r;have h:(BitVec.ofInt 64 (m:Int) ^^^ BitVec.ofInt 64 (n:Int)).toNat=m ^^^ n:=by
  rw[BitVec.toNat_xor,BitVec.toNat_ofInt,BitVec.toNat_ofInt];congr 1
  ·omega
  ·omega
 have H:m ^^^ n<2 ^ 62:=Nat.xor_lt_two_pow (by omega) (by omega);show 0<=IntKind.i64.wrap (((BitVec.ofInt 64 (m:Int) ^^^ BitVec.ofInt 64 (n:Int)).toNat:Nat):Int);rw[h,DP];omega
structure fX (b:List Int):Prop where
 byte:∀ y∈b,0<=y/\y<=255
 len:b.length<=2000
theorem Ah (K:Nat)(b:List Int)(q:Nat)(n:Int)(h:fX b)(hq:q<=100000)(hn:1<=n):∃ v:Int,Q12.f K ((b,(q:Int)),n,())=some ((v,()),((b,((q+1:Nat):Int)),()))/\0<=v/\v<n:=by
 have w1:wr .i64 ((q:Int)+1)=((q+1:Nat):Int):=ar q (by omega);have w2:wr .i64 (((q+1:Nat):Int)-1)=(q:Int):=by rw[aD (n:=((q+1:Nat):Int)-1) (by omega) (by omega)];omega
 have hl:=h.len;have I:decide (n=0)=false:=decide_eq_false (by omega);have r:∀ x:Int,0<=x->0<=CJ x n/\CJ x n<n:=λx u=>⟨DB _ u,Cx _ (by omega)⟩
 simp only[Q12.f];rw[decide_eq_false (by omega:¬ n<1)];simp only[cond_false,w1,w2,I];by_cases R:b.length=0
 ·rw[show ((b.length:Int)==0)=true by simpa using R];exact⟨0,rfl,by omega,by omega⟩
 ·rw[show ((b.length:Int)==0)=false by simpa using R];simp only[cond_false];by_cases H:q<b.length
  ·rw[decide_eq_true (by omega:(q:Int)<(b.length:Int)),af H];simp only[cond_true,BG];obtain⟨J,Y⟩:=h.byte b[q] (BI H);rw[aD (n:=b[q]) (by omega) (by omega)];exact⟨_,rfl,r _ J⟩
  ·rw[decide_eq_false (by omega:¬ (q:Int)<(b.length:Int)),decide_eq_false (by omega:¬ (b.length:Int)=0)];simp only[cond_false];have t1:CJ (q:Int) (b.length:Int)=((q % b.length:Nat):Int):=by rw[Cy (by omega)];rfl
   have t2:wr .i64 (wr .i64 ((q:Int)*7)+3)=((q*7+3:Nat):Int):=by rw[aD (n:=(q:Int)*7) (by omega) (by omega),aD (n:=(q:Int)*7+3) (by omega) (by omega)];omega
   have t3:CJ (((q*7+3:Nat)):Int) (b.length:Int)=(((q*7+3) % b.length:Nat):Int):=by rw[Cy (by omega)];rfl
   have M:q % b.length<b.length:=Nat.mod_lt _ (by omega);have O:(q*7+3) % b.length<b.length:=Nat.mod_lt _ (by omega);rw[t1,t2,t3,af M,af O];simp only[BG];obtain⟨J,Y⟩:=h.byte b[q % b.length] (BI M);obtain⟨Z,z1⟩:=h.byte b[(q*7+3) % b.length] (BI O);generalize b[q % b.length]=y at J Y ⊢;generalize b[(q*7+3) % b.length]=z at Z z1 ⊢;have d1:0<=Co (q:Int) (b.length:Int)/\Co (q:Int) (b.length:Int)<=q:=⟨DS (by omega) (by omega),DQ _ (by omega)⟩;generalize Co (q:Int) (b.length:Int)=e at d1 ⊢;have x1:wr .i64 (wr .i64 (wr .i64 (wr .i64 (wr .i64 y*131)+wr .i64 (wr .i64 z*1117))+wr .i64 ((q:Int)*29))+wr .i64 (wr .i64 e*53))=y*131+z*1117+q*29+e*53:=by
    rw[aD (n:=y) (by omega) (by omega),aD (n:=z) (by omega) (by omega),aD (n:=e) (by omega) (by omega),aD (n:=y*131) (by omega) (by omega),aD (n:=z*1117) (by omega) (by omega),aD (n:=(q:Int)*29) (by omega) (by omega),aD (n:=e*53) (by omega) (by omega),
     aD (n:=y*131+z*1117) (by omega) (by omega),aD (n:=y*131+z*1117+(q:Int)*29) (by omega) (by omega),aD (n:=y*131+z*1117+(q:Int)*29+e*53) (by omega) (by omega)]
   rw[x1];have u:0<=y*131+z*1117+q*29+e*53/\y*131+z*1117+q*29+e*53<=10000000:=by omega
   generalize y*131+z*1117+(q:Int)*29+e*53=X at u ⊢;have d2:0<=Co X 64/\Co X 64<=X:=⟨DS u.1 (by omega),DQ _ u.1⟩;rw[aD (n:=Co X 64) (by omega) (by omega)];exact⟨_,rfl,r _ (Bd u.1 (by omega) d2.1 (by omega))⟩
theorem vS (K:Nat)(t:List ag)(f:ag)(ht:t.length<=1048576)(R:Asc (λg:ag=>g.1) t)(Z:1048577<K):Q53.f K (t,f,())=some (((bS t f).1,(bS t f).2,()),()):=by
 simp only[Q53.f,Q53.pre];obtain⟨o,H,I⟩:=fw K t f.1 ht Z;rw[I];simp only[BG];cases H with
 |at_ i r e =>
  simp only;rw[kv R r e,decide_eq_true (by omega:((i:Nat):Int)>=0),af r];simp only[cond_true,BG,BK,af r];rw[show Q45.f K (f,t[i],())=_ from pH K f t[i]];simp only[BG];by_cases H:bQ f t[i]
  ·rw[decide_eq_true H,if_pos H];simp only[BP,cond_false];rw[szb _ _ _ (by omega) (by show (BH ([]:List ag))+t.length<=_;simp;omega)];simp only[cond_true,BT,af r,BG,BK];rw[ku (k:=λg:ag=>g.1) R r e]
  ·rw[decide_eq_false H,if_neg H];rfl
 |no h =>
  simp only;rw[im h,decide_eq_false (by omega:¬ (-1:Int)>=0)];simp only[cond_false];have J:∀ m:Nat,m<=t.length->(bif decide ((0:Int)<=0)&&decide ((0:Int)<=(m:Int))&&decide ((m:Int)<=(BH t:Int))&&true then (bif decide ((BH ([]:List ag)+BH ((t.take (BJ (m:Int))).drop (BJ 0)))*32<=ak) then (bif decide ((BH ([]++((t.take (BJ (m:Int))).drop (BJ 0)))+BH ([f]))*32<=ak) then (bif decide ((0:Int)<=(m:Int))&&decide ((m:Int)<=(BH t:Int))&&decide ((BH t:Int)<=(BH t:Int))&&true then (bif decide ((BH (([]++((t.take (BJ (m:Int))).drop (BJ 0)))++([f]))+BH ((t.take (BJ (BH t:Int))).drop (BJ (m:Int))))*32<=ak) then (some (((([]++((t.take (BJ (m:Int))).drop (BJ 0)))++([f]))++((t.take (BJ (BH t:Int))).drop (BJ (m:Int))),true,()),())) else none) else none) else none) else none) else (none:Option ((List ag×Bool×Unit)×Unit)))=some ((t.take m++[f]++t.drop m,true,()),()):=by
   intro m X;rw[decide_eq_true (by omega:(0:Int)<=0),decide_eq_true (by omega:(0:Int)<=(m:Int)),decide_eq_true (by omega:(m:Int)<=(BH t:Int)),decide_eq_true (by omega:(BH t:Int)<=(BH t:Int))];simp only[BK,Cd,B4,BT,Ch,Ca,cond_true];have I:(t.take m).length=m:=by rw[BY];omega
   have z:(t.drop m).length=t.length-m:=CD;rw[szb _ _ _ (by omega) (by simp only[BQ];omega),szb _ _ _ (by omega) (by simp only[BM,BQ];omega),szb _ _ _ (by omega) (by simp only[BV,BM,BQ];omega)];rfl
  have:=ch (step:=λrec a=>Q53.s0 K (t,f,()) rec a) t.length (λi=>(i:Int)) (λj=>∃ h:j<t.length,¬ t[j].1<f.1) (some ((t.take t.length++[f]++t.drop t.length,true,()),())) (λj=>some ((t.take j++[f]++t.drop j,true,()),())) ?_ ?_ t.length K 0 (by omega) (by omega)
  ·have M:∀ m,m<=t.length->(∀ i,(r:i<t.length)->i<m->t[i].1<f.1)->(∀ i,(r:i<t.length)->m<=i->f.1<t[i].1)->t.take m++[f]++t.drop m=bG (λg=>g.1) f t:=λm X Y r=>jf (k:=λg:ag=>g.1) X Y r
   rcases this with ⟨I,z⟩|⟨j,_,I,⟨h3,h4⟩,h5,z⟩
   ·rw[M t.length (BW _) (λi r _=>by
     have:=I i (BX _) r;exact Cm.1 λh=>this ⟨r,h⟩) (λi r h=>by omega)]at z
    exact z
   ·rw[M j (by omega) (λi r y=>by
     have:=h5 i (BX _) y;exact Cm.1 λh=>this ⟨r,h⟩) (λi r y=>by
     have a0:=h t[i] (BI r);rcases CO y with O|O
     ·have:=dl.1 R j i h3 r O;omega
     ·subst O;omega)]at z
    exact z
  ·intro rec i r;simp only[Q53.s0];rw[bi (by omega:(i:Int)<(BH t:Int)),af r,ar i (by omega)];simp only[cond_true,BG];rw[show idx t ((BJ (i:Int):Nat):Int)=some t[i] by rw[BK];exact af r];simp only[BG];by_cases u:t[i].1<f.1
   ·exact .inl ⟨λ⟨_,h⟩=>h u,by rw[decide_eq_true u];rfl⟩
   ·exact .inr ⟨⟨r,u⟩,by rw[decide_eq_false u];exact J i (by omega)⟩
  ·intro rec;simp only[Q53.s0,aR,cond_false];exact J t.length (BW _)
def fC (t:List ag)(fs:List ag):List ag:=fs.foldl (λt f=>(bS t f).1) t
theorem ra:∀ {fs t:List ag},az t->(∀ f∈fs,bz f)->az (fC t fs)
 |[],_,h,_=>h
 |f::fs,t,h,r=>ra (fs:=fs) (kw h (r f (by simp))) (λg u=>r g (by simp[u]))
theorem cK {t:List ag}(h:az t):t.length<=1048576:=BZ (iS h.2 (λg r=>(h.1 g r).1)) (by decide)
theorem ur {R:Type}(a fs:List ag)(M:az a)(O:∀ f∈fs,bz f)(u:List ag->Option R){step:(List ag×Int->Option R)->List ag×Int->Option R}
  (h:∀ (rec:List ag×Int->Option R) (t:List ag) (i:Nat) (I:i<fs.length),az t->step rec (t,(i:Int))=rec ((bS t fs[i]).1,((i+1:Nat):Int)))
  (y:∀ (rec:List ag×Int->Option R) (t:List ag),step rec (t,(fs.length:Int))=u t) {k:Nat} (z:fs.length<k):ae step k (a,0)=u (fC a fs):=by
 have:∀ (d i k:Nat) (t:List ag),i+d=fs.length->d<k->az t->ae step k (t,(i:Int))=u (fC t (fs.drop i)):=by
  intro d;induction d with
  |zero =>
   intro i k t I z _;obtain⟨k,rfl⟩:∃ H,k=H+1:=⟨k-1,by omega⟩;have:i=fs.length:=by omega
   subst this;show step (ae step k) _=_;rw[y,C4];rfl
  |succ d X =>
   intro i k t I z J;obtain⟨k,rfl⟩:∃ H,k=H+1:=⟨k-1,by omega⟩;have r:i<fs.length:=by omega
   show step (ae step k) _=_;rw[h _ _ _ r J,B8 r];exact X (i+1) k _ (by omega) (by omega) (kw J (O _ (BI r)))
 have:=this fs.length 0 k a (by omega) z M
 rwa [B4]at this
theorem xv (f:ag):¬ bQ f f:=by
 unfold bQ;simp
theorem iU (K:Nat)(xs:List ag)(z:xs.length<=1048576)(y:1048577<K):Q226.f K (xs,xs,())=rb true:=by
 have r:Q226.l0 K (xs,xs,()) 0=rb true:=by
  refine er (step:=λrec a=>Q226.s0 K (xs,xs,()) rec a) xs.length (λi=>(i:Int)) (rb true) ?_ ?_ (by omega)
  ·intro rec i u;simp only[Q226.s0];rw[decide_eq_true (by omega:(i:Int)<(BH xs:Int)),af u,ar i (by omega)];simp only[cond_true,BG];rw[show Ty.eqv t2 xs[i] xs[i]=decide (xs[i]=xs[i]) from jF _ _,decide_eq_true rfl];rfl
  ·intro rec;simp only[Q226.s0,aR];rfl
 simp only[Q226.f,Q226.pre,bne_self_eq_false,cond_false];exact r
theorem o7 {l:List aM}(J:cO l)(T:List Int):az (ee l T l.length):=by
 unfold ee;constructor
 ·intro f hf;obtain⟨i,H,rfl⟩:=B3.1 hf;obtain⟨Z,h1⟩:=iq.1 (BN.1 H).1;obtain⟨b,rfl⟩:=BL Z;have O:b<l.length:=by omega
  rw[cn O];exact (J.1 l[b] (BI O)).1
 ·unfold Asc;rw[B9];have hp:((co l.length).filter λi=>decide (i∈T)).Pairwise λ (a b:Int)=>(0<=a/\a<l.length)/\(0<=b/\b<l.length)/\a<b:=by
   refine Cf _ ?_;have:∀ u:List Int,(∀ x∈u,0<=x/\x<l.length)->u.Pairwise (·<·)->u.Pairwise λ (a b:Int)=>(0<=a/\a<l.length)/\(0<=b/\b<l.length)/\a<b:=by
    intro u z r;induction u with
    |nil=>exact List.Pairwise.nil
    |cons x u ih =>
     rw[B5]at r ⊢;exact⟨λy I=>⟨z x (by simp),z y (by simp[I]),r.1 y I⟩,ih (λy I=>z y (by simp[I])) r.2⟩
   exact this _ (λx z=>iq.1 z) (ji _)
  refine hp.imp λ {a b} h=>?_
  obtain⟨⟨X,a1⟩,⟨R,b1⟩,Y⟩:=h;obtain⟨i,rfl⟩:=BL X;obtain⟨j,rfl⟩:=BL R;have H:i<l.length:=by omega
  have M:j<l.length:=by omega
  rw[cn H,cn M];exact dl.1 J.2 i j H M (by omega)
theorem tj {l:List aM}(J:cO l)(T:List Int):cO (dv l T l.length):=by
 have r:∀ i (h:i<l.length),(dH l T (i:Int)).1=l[i].1:=λi h=>by
  unfold dH;rw[cn h];cases decide ((i:Int)∈T) <;> rfl
 have z:∀ i (h:i<l.length),(dH l T (i:Int)).2<=l[i].2:=λi h=>by
  unfold dH;rw[cn h];cases decide ((i:Int)∈T) with
  |true=>show l[i].2-1<=l[i].2;omega
  |false=>exact CM _
 unfold dv;constructor
 ·intro x O;obtain⟨M,I⟩:=BN.1 O;have I:x.2>0:=by simpa using I
  obtain⟨i,u,rfl⟩:=BO M;rw[eJ]at u;rw[fj l T u]at I ⊢;have:=(J.1 l[i] (BI u));refine⟨by rw[r i u];exact this.1,?_,?_⟩
  ·omega
  ·have R:=z i u;have X:=this.2.2;omega
 ·unfold Asc;refine Cf _ ?_;rw[CP];intro i j u y H;rw[eJ]at u y;show (fW l T l.length)[i].1.1<(fW l T l.length)[j].1.1;rw[fj l T u,fj l T y,r i u,r j y];exact dl.1 J.2 i j u y H
def iV (n:aa)(to:Int):List ag :=
 bif (aG (aa.table n) to).2.2.1==2 then (bS (ee (aa.cast n) (bW (aa.cast n)) (aa.cast n).length) (aG (aa.table n) to)).1 else ee (aa.cast n) (bW (aa.cast n)) (aa.cast n).length
def ir (n:aa):aa:=iR n (aa.table n) (dv (aa.cast n) (bW (aa.cast n)) (aa.cast n).length) (aa.doubts n)
theorem kl {n:aa}(h:b7 n)(to:Int):az (iV n to):=by
 have r:=o7 h.cast (bW (aa.cast n));unfold iV;cases u:(aG (aa.table n) to).2.2.1==2 with
 |false=>exact r
 |true =>
  refine kw r (c7 h.table ?_).1;by_cases y:∃ f∈aa.table n,f.1=to
  ·exact y
  ·rw[jI (λg z e=>y ⟨g,z,e⟩)]at u;simp at u
theorem Be {n:aa}(h:b7 n):b7 (ir n):=b7.mk' h.table (tj h.cast _) h.asc h.inp
theorem clen {n:aa}(h:b7 n):(aa.cast n).length<=8:=iS h.cast.2 (λx r=>(h.cast.1 x r).1.1)
theorem qz (K:Nat)(n:aa)(to:Int)(h:b7 n)(r:1048577<K):Q93.f K (n,to,())=some ((iV n to,ir n,()),()):=by
 have M:=clen h;simp only[Q93.f,zcp8];rw[show Q60.f K (n.2.2.2.2.2.2.2.2.2.1,3,())=_ from Bc K (aa.cast n) (by omega) h.cast r];simp only[BG];obtain⟨o,I,J⟩:=fw K (aa.table n) to h.lt r;rw[show Q44.f K (n.2.2.2.2.2.2.2.2.1,to,())=_ from J];simp only[BG,iV];have z:=o7 h.cast (bW (aa.cast n));cases I with
 |no u =>
  rw[jI u];rfl
 |at_ j H e =>
  have y:aG (aa.table n) to=(aa.table n)[j]:=by rw[<- e];exact jH h.table.2 (BI H)
  rw[y];simp only;rw[decide_eq_true (by omega:((j:Nat):Int)>=0),show idx n.2.2.2.2.2.2.2.2.1 ((j:Nat):Int)=some (aa.table n)[j] from af H];simp only[cond_true,BG];cases (aa.table n)[j].2.2.1==2 with
  |false=>rfl
  |true =>
   simp only[cond_true];rw[vS K _ _ (cK z) z.2 r];rfl
theorem vT (K:Nat)(n:aa)(to:Int)(h:b7 n)(r:1048577<K):Q179.f K (n,to,())=some ((iV n to,()),(ir n,())):=by
 simp only[Q179.f,zcp8];rw[show Q178.f K (n.2.2.2.2.2.2.2.2.2.1,3,())=_ from vR K (aa.cast n) (clen h) h.cast r];simp only[BG];obtain⟨b,y⟩:=iT K (aa.table n) to h.table h.lt r;rw[show Q139.f K (n.2.2.2.2.2.2.2.2.1,to,())=_ from y];simp only[BG,iV];have u:=o7 h.cast (bW (aa.cast n));cases (aG (aa.table n) to).2.2.1==2 with
 |false=>rfl
 |true =>
  simp only[cond_true];rw[zJ K _ _ (cK u) u.2 r];rfl
def bf (n:aa)(k:Nat):Int:=CJ (n.2.2.2.2.2.2.2.1+(k:Int)) 8
def gL (n:aa)(k:Nat):Prop:=bf n k≠n.1/\cL (aG (aa.table n) (bf n k))=true
def qA (n:aa)(to:Int):aa :=
 let m:=ir n
 (m.1,m.2.1,m.2.2.1,m.2.2.2.1,m.2.2.2.2.1,m.2.2.2.2.2.1,m.2.2.2.2.2.2.1+1,to+1,m.2.2.2.2.2.2.2.2.1,m.2.2.2.2.2.2.2.2.2.1,(to,m.2.2.2.2.2.1,m.2.2.2.2.2.2.1+1,false),m.2.2.2.2.2.2.2.2.2.2.2)
def sj (n:aa)(to:Int):ap:=(1,1,n.1,to,n.2.2.2.2.2.2.1+1,n.1,aa.coord n,iV n to)
theorem u5 (K:Nat)(n:aa)(h:b7 n)(O:0<=n.2.2.2.2.2.2.2.1)(a0:n.2.2.2.2.2.2.2.1<=8)(R:1048577<K) :
  ∃ to:Int,Q92.f K (n,())=some ((to,()),())/\((to=-1/\∀ k,k<8->¬ gL n k)\/∃ k,k<8/\gL n k/\(∀ j,j<k->¬ gL n j)/\to=bf n k):=by
 have u:∀ k:Nat,k<8->wr .i64 (n.2.2.2.2.2.2.2.1+(k:Int))=n.2.2.2.2.2.2.2.1+(k:Int):=λk M=>aD (by omega) (by omega)
 have:=ch (step:=λrec a=>Q92.s0 K (n,()) rec a) 8 (λi=>(i:Int)) (gL n) (some ((-1,()),())) (λj=>some ((bf n j,()),())) ?_ ?_ 8 K 0 (by omega) (by omega)
 ·rcases this with ⟨y,H⟩|⟨j,_,y,X,h4,H⟩
  ·exact⟨-1,H,.inl ⟨rfl,λk M=>y k (BX _) M⟩⟩
  ·exact⟨_,H,.inr ⟨j,y,X,λm Y=>h4 m (BX _) Y,rfl⟩⟩
 ·intro rec i Z;simp only[Q92.s0];rw[decide_eq_true (by omega:(i:Int)<=7),u i Z,ar i (by omega)];simp only[cond_true];show (¬ gL n i/\(bif bf n i != n.1 then ((Q89.f K (aa.table n,bf n i,())).bind λJ=>bif J.1.1 then (some ((bf n i,()),())) else (rec ((i+1:Nat):Int))) else (rec ((i+1:Nat):Int)))=rec ((i+1:Nat):Int))\/(gL n i/\(bif bf n i != n.1 then ((Q89.f K (aa.table n,bf n i,())).bind λJ=>bif J.1.1 then (some ((bf n i,()),())) else (rec ((i+1:Nat):Int))) else (rec ((i+1:Nat):Int)))=some ((bf n i,()),()));rw[sZ K (aa.table n) (bf n i) h.table h.lt R];by_cases r:bf n i=n.1
  ·exact .inl ⟨λI=>I.1 r,by rw[show (bf n i != n.1)=false by simpa using r];rfl⟩
  ·rw[show (bf n i != n.1)=true by simpa using r];cases z:cL (aG (aa.table n) (bf n i)) with
   |true=>exact .inr ⟨⟨r,z⟩,rfl⟩
   |false=>exact .inl ⟨λI=>(by rw[I.2]at z;cases z),rfl⟩
 ·intro rec;simp only[Q92.s0];rfl
theorem yV (K:Nat)(n:aa)(h:b7 n)(hp:(aa.probe n).1=-1)(a6:0<=n.2.2.2.2.2.2.1)(ad:n.2.2.2.2.2.2.1<=1000000)(a0:0<=n.2.2.2.2.2.2.2.1)(a4:n.2.2.2.2.2.2.2.1<=8)(Z:1048577<K) :
  ∃ (y:aa) (Y:List ap),Q94.f K (n,())=some ((y,Y,()),())/\Q180.f K (n,())=some ((Y,()),(y,()))/\((y=n/\Y=[])\/∃ to,y=qA n to/\Y=[sj n to]):=by
 have z:∀ k:Nat,k<8->wr .i64 (n.2.2.2.2.2.2.2.1+(k:Int))=n.2.2.2.2.2.2.2.1+(k:Int):=λk R=>aD (by omega) (by omega)
 have I:∀ k:Nat,k<8->0<=bf n k/\bf n k<8:=λk R=>⟨DB _ (by omega),Cx _ (by omega)⟩
 obtain⟨to,es,a3⟩:=u5 K n h a0 a4 Z;simp only[Q94.f,zcp4,Q180.f,Q180.pre];rw[es,show (n.2.2.2.2.2.2.2.2.2.2.1.1 != -1)=false by show ((aa.probe n).1 != -1)=false;rw[hp];rfl];simp only[BG,cond_false];by_cases u:n.2.2.2.2.2.2.1>=999999
 ·rw[decide_eq_true u];refine⟨n,[],?_,rfl,.inl ⟨rfl,rfl⟩⟩;cases decide (to<0) <;> rfl
 ·rw[decide_eq_false u];simp only[cond_false];have O:wr .i64 (n.2.2.2.2.2.2.1+1)=n.2.2.2.2.2.2.1+1:=aD (by omega) (by omega);have J:=ch (step:=λrec a=>Q180.s0 K (n,()) rec a) 8 (λi=>(i:Int)) (gL n) (some (([],()),(n,()))) (λj=>some (([sj n (bf n j)],()),(qA n (bf n j),()))) ?_ ?_ 8 K 0 (by omega) (by omega)
  ·rcases a3 with ⟨rfl,a2⟩|⟨k,R,M,a5,rfl⟩
   ·rcases J with ⟨_,h2⟩|⟨j,_,X,h3,_,_⟩
    ·exact⟨n,[],rfl,h2,.inl ⟨rfl,rfl⟩⟩
    ·exact absurd h3 (a2 j X)
   ·have a9:=I k R;rcases J with ⟨X,_⟩|⟨j,_,X,h3,h4,h2⟩
    ·exact absurd M (X k (BX _) R)
    ·have:j=k:=by
      rcases Cn j k with H|H|H
      ·exact absurd h3 (a5 j H)
      ·exact H
      ·exact absurd M (h4 k (BX _) H)
     subst this;refine⟨qA n (bf n j),[sj n (bf n j)],?_,h2,.inr ⟨_,rfl,rfl⟩⟩;rw[decide_eq_false (by omega:¬ bf n j<0)];simp only[cond_false];rw[qz K n _ h Z];simp only[BG];rw[show wr .i64 ((ir n).2.2.2.2.2.2.1+1)=n.2.2.2.2.2.2.1+1 from O,aD (n:=bf n j+1) (by omega) (by omega)];simp only[Q43.f];rw[szb _ _ _ (by omega) (by have:=cK (kl h (bf n j));simp;omega)];rfl
  ·intro rec i J;have hc:=I i J;simp only[Q180.s0,zcp4];rw[decide_eq_true (by omega:(i:Int)<8),z i J,ar i (by omega)];simp only[cond_true];have a1:=ta K n (bf n i) h.table h.lt Z;rw[show CJ (n.2.2.2.2.2.2.2.1+(i:Int)) 8=bf n i from rfl];by_cases r:bf n i=n.1
   ·exact .inl ⟨λhc=>hc.1 r,by rw[show (bf n i==n.1)=true by simpa using r];rfl⟩
   ·rw[show (bf n i==n.1)=false by simpa using r];simp only[cond_false];rw[a1];simp only[BG];cases hl:cL (aG (aa.table n) (bf n i)) with
    |false=>exact .inl ⟨λhc=>(by rw[hc.2]at hl;cases hl),rfl⟩
    |true =>
     refine .inr ⟨⟨r,hl⟩,?_⟩;simp only[BP,cond_false];rw[vT K n _ h Z];simp only[BG,Q161.f];rw[show wr .i64 ((ir n).2.2.2.2.2.2.1+1)=n.2.2.2.2.2.2.1+1 from O,aD (n:=bf n i+1) (by omega) (by omega)];rfl
  ·intro rec;simp only[Q180.s0,zcp4];rfl
abbrev lJ:=Int×ByteArray×Bool
abbrev bX:=List aa×List lJ×List Int×List ag
abbrev bX.radio (w:bX):List lJ:=w.2.1
abbrev bX.sides (w:bX):List Int:=w.2.2.1
abbrev bX.born (w:bX):List ag:=w.2.2.2
theorem jj {n:Int}(h:InP n 0 7):ao n=n / 4:=by
 obtain⟨r,u⟩:=h;unfold ao;rw[CF r,aD (by omega) (by omega)]
theorem Ai {α:Type}{k:α->Int}{xs:List α}(h:Asc k xs):∀ i (r:i<xs.length),k (xs[0]'(by omega))+i<=k xs[i]:=by
 rw[gK]at h;intro i;induction i with
 |zero=>intro r;simp
 |succ i u =>
  intro r;have z:=u (by omega);have y:=h (i+1) r (by omega);simp only[Nat.add_sub_cancel]at y;omega
theorem ut {t:List ag}{s:Int}(u:az t)(z:ce t s):t.length<=4:=by
 cases h:t.length with
 |zero=>omega
 |succ m =>
  have r:m<t.length:=by omega
  have y:0<t.length:=by omega
  have O:=Ai u.2 m r;have M:=z _ (BI r);have I:=z _ (BI y);have J:=(u.1 _ (BI r)).1;have H:=(u.1 _ (BI y)).1;rw[jj J]at M;rw[jj H]at I;omega
theorem mV {z:Int}{l:List cR}(u:InP z 0 7)(h:c6 z l):l=[]\/∃ x,l=[x]:=by
 match l,h with
 |[],_=>exact .inl rfl
 |[x],_=>exact .inr ⟨x,rfl⟩
 |x::y::r,h =>
  exfalso;have H:=h.1 x (by simp);have J:=h.1 y (by simp);have X:x.1<y.1:=by
   have:=h.2;unfold Asc at this;rw[B5]at this;exact this.1 y (by simp)
  have e:=jj u;obtain⟨⟨Z,R⟩,M,_⟩:=H;obtain⟨⟨Y,b2⟩,I,_⟩:=J;obtain⟨m1,O⟩:=u;rw[e]at M I;omega
theorem kz {a:Int}{m:Nat}(u:m<4611686018427387904):0<=aO .i64 a (m:Int)/\aO .i64 a (m:Int)<=m:=by
 have h:(BitVec.ofInt 64 a &&& BitVec.ofInt 64 (m:Int)).toNat<=m:=by
  rw[BitVec.toNat_and];refine BZ Nat.and_le_right ?_;rw[BitVec.toNat_ofInt];omega
 show 0<=IntKind.i64.wrap (((BitVec.ofInt 64 a &&& BitVec.ofInt 64 (m:Int)).toNat:Nat):Int)/\IntKind.i64.wrap (((BitVec.ofInt 64 a &&& BitVec.ofInt 64 (m:Int)).toNat:Nat):Int)<=m;generalize (BitVec.ofInt 64 a &&& BitVec.ofInt 64 (m:Int)).toNat=r at h ⊢;rw[DP];omega
def gM (g:List Int)(d:Int):Int:=g.getD (BJ (CJ (aO .i64 d 255) (g.length:Int))) 0
theorem dV {g:List Int}{d:Int}(h:g≠[]):idx g (CJ (aO .i64 d 255) (g.length:Int))=some (gM g d)/\idx g ((BJ (CJ (aO .i64 d 255) (g.length:Int)):Nat):Int)=some (gM g d)/\gM g d∈g:=by
 have I:0<g.length:=CX.2 h;have u:=(kz (a:=d) (m:=255) (by omega)).1;have y:0<=CJ (aO .i64 d 255) (g.length:Int):=DB _ u;have H:CJ (aO .i64 d 255) (g.length:Int)<g.length:=Cx _ (by omega);unfold gM;obtain⟨v,z⟩:=BL y;rw[z]at H ⊢;have r:v<g.length:=by omega
 rw[BK,af r,List.getD_eq_getElem?_getD,BS r];exact⟨rfl,rfl,BI r⟩
def f9 (n:aa)(r d:Int):Int :=
 bif decide (ct (cW (aa.others n) r)≠[])&&aO .i64 d 4==0 then gM (ct (cW (aa.others n) r)) (B7 d (2 ^ 3)) else r*4+aO .i64 (B7 d (2 ^ 3)) 3
structure hM (n:aa):Prop where
 short:(aa.others n).length<=1
 table:∀ x∈aa.others n,az x.2/\x.2.length<=1048576
theorem xw {r d:Int}(z:0<=r)(H:r<=1):wr .i64 (wr .i64 (r*4)+aO .i64 (B7 d (2 ^ 3)) 3)=r*4+aO .i64 (B7 d (2 ^ 3)) 3:=by
 obtain⟨u,y⟩:=kz (a:=B7 d (2 ^ 3)) (m:=3) (by omega);have u:0<=aO .i64 (B7 d (2 ^ 3)) 3:=u;have y:aO .i64 (B7 d (2 ^ 3)) 3<=3:=y;rw[aD (n:=r*4) (by omega) (by omega),aD (by omega) (by omega)]
theorem far_s (K:Nat)(n:aa)(r d:Int)(h:hM n)(R:0<=r)(J:r<=1)(O:1048577<K):Q98.f K (n,r,d,())=some ((f9 n r d,()),()):=by
 obtain⟨k,rfl⟩:∃ k,K=k+2:=⟨K-2,by omega⟩;show Q98.s0 (k+2) (n,r,d,()) (ae (λrec a=>Q98.s0 (k+2) (n,r,d,()) rec a) (k+1)) 0=_;have z:∀ (rec:Int->Option ((Int×Unit)×Unit)) (a:Int),¬ a<(aa.others n).length->Q98.s0 (k+2) (n,r,d,()) rec a=some ((r*4+aO .i64 (B7 d (2 ^ 3)) 3,()),()):=by
  intro rec a M;simp only[Q98.s0];rw[show decide (a<(BH n.2.2.2.2.2.2.2.2.2.2.2.2.2.2:Int))=false from decide_eq_false M,xw R J];rfl
 match y:aa.others n with
 |[] =>
  rw[z _ _ (by rw[y];simp),f9,y];rfl
 |[x] =>
  have X:=h.table x (by rw[y];simp);have u:ae (λrec a=>Q98.s0 (k+2) (n,r,d,()) rec a) (k+1) 1=some ((r*4+aO .i64 (B7 d (2 ^ 3)) 3,()),()):=z _ _ (by rw[y];simp);generalize ae (λrec a=>Q98.s0 (k+2) (n,r,d,()) rec a) (k+1)=rec at u ⊢;simp only[Q98.s0];rw[show decide ((0:Int)<(BH n.2.2.2.2.2.2.2.2.2.2.2.2.2.2:Int))=true from decide_eq_true (by show (0:Int)<((aa.others n).length:Int);rw[y];simp),show idx n.2.2.2.2.2.2.2.2.2.2.2.2.2.2 (0:Int)=some x by show idx (aa.others n) (0:Int)=some x;rw[y];rfl,show wr .i64 ((0:Int)+1)=1 from rfl];simp only[cond_true,BG,u];rw[f9,y];cases I:x.1==r with
  |false =>
   simp only[cond_false,cW,C8,I,List.find?_nil];rfl
  |true =>
   simp only[cond_true,cW,C8,I,DR,DO];rw[uU (k+2) x.2 X.2 O];simp only[BG];by_cases H:ct x.2=[]
   ·rw[H];rfl
   ·have Y:0<(ct x.2).length:=CX.2 H;rw[decide_eq_true H,decide_eq_true (by omega:((ct x.2).length:Int)>0)];simp only[cond_true,CV];cases aO .i64 d 4==0 with
    |false=>rfl
    |true =>
     simp only[cond_true];rw[decide_eq_false (by omega:¬ ((ct x.2).length:Int)=0),(dV H).1,(dV H).2.1];rfl
 |_::_::_=>exact absurd h.short (by rw[y];simp)
def ew (n:aa):Bool:=decide (n.1∈ct (aa.table n))
theorem yW (K:Nat)(n:aa)(R:(aa.table n).length<=1048576)(z:1048577<K):Q97.f K (n,())=rb (ew n):=by
 simp only[Q97.f,Q97.pre];rw[show Q96.f K (n.2.2.2.2.2.2.2.2.1,2,())=_ from uU K (aa.table n) R z];simp only[BG];have H:=mN (aa.table n);unfold ew;generalize ct (aa.table n)=g at H ⊢;have:=ch (step:=λrec a=>Q97.s0 K (n,()) rec a) g.length (λi=>(g,(i:Int))) (λj=>∃ h:j<g.length,g[j]=n.1) (rb false) (λ_=>rb true) ?_ ?_ g.length K 0 (by omega) (by omega)
 ·rcases this with ⟨y,u⟩|⟨j,_,y,⟨I,O⟩,_,u⟩
  ·rw[decide_eq_false (λM=>by
    obtain⟨i,r,e⟩:=BO M;exact y i (BX _) r ⟨r,e⟩)]
   exact u
  ·rw[decide_eq_true (O ▸ BI I:n.1∈g)];exact u
 ·intro rec i r;simp only[Q97.s0];rw[bi (by omega:(i:Int)<(BH g:Int)),af r,ar i (by omega),BK,af r];simp only[cond_true,BG];by_cases h:g[i]=n.1
  ·exact .inr ⟨⟨r,h⟩,by rw[show (g[i]==n.1)=true by simpa using h];rfl⟩
  ·exact .inl ⟨λ⟨_,J⟩=>h J,by rw[show (g[i]==n.1)=false by simpa using h];rfl⟩
 ·intro rec;simp only[Q97.s0,aR];rfl
theorem yX (K:Nat)(g:List Int)(v:Int)(R:g.length<=1048576)(O:1048577<K):Q188.f K (g,v,())=rb (decide (v∈g)):=by
 have:=ch (step:=λrec a=>Q187.s0 K (g,v,()) rec a) g.length (λi=>(i:Int)) (λj=>∃ h:j<g.length,v=g[j]) (some ((-1,()),())) (λj=>some ((((j:Nat):Int),()),())) ?_ ?_ g.length K 0 (by omega) (by omega)
 ·simp only[Q188.f];rcases this with ⟨y,u⟩|⟨j,_,y,⟨z,J⟩,_,u⟩
  ·have e:Q187.f K (g,v,())=some ((-1,()),()):=u;rw[e,decide_eq_false (λI=>by
    obtain⟨i,r,M⟩:=BO I;exact y i (BX _) r ⟨r,M.symm⟩)]
   rfl
  ·have e:Q187.f K (g,v,())=some ((((j:Nat):Int),()),()):=u;rw[e,decide_eq_true (J ▸ BI z:v∈g)];simp only[BG];rw[decide_eq_true (by omega:((j:Nat):Int)>=0)]
 ·intro rec i r;simp only[Q187.s0];rw[bi (by omega:(i:Int)<(BH g:Int)),af r,ar i (by omega)];simp only[cond_true,BG];by_cases h:v=g[i]
  ·exact .inr ⟨⟨r,h⟩,by rw[show (v==g[i])=true by simpa using h];rfl⟩
  ·exact .inl ⟨λ⟨_,H⟩=>h H,by rw[show (v==g[i])=false by simpa using h];rfl⟩
 ·intro rec;simp only[Q187.s0,aR];rfl
def wanW (n:aa)(d r:Int):ap:=(2,(nP 6 n (f9 n r d)).2)
def eK (n:aa)(d:Int):List ap:=bif ew n then (([0,1]:List Int).filter (λs=>s != ao n.1)).map (wanW n d) else []
theorem wan_s (K:Nat)(n:aa)(d:Int)(h:hM n)(y:(aa.table n).length<=1048576)(u:1048577<K):Q99.f K (n,d,())=some ((eK n d,()),()):=by
 simp only[Q99.f,Q99.pre];rw[yW K n y u];simp only[BG,eK];cases ew n with
 |false=>rfl
 |true =>
  simp only[BP,cond_false,cond_true];refine lH (step:=λrec a=>Q99.s0 K (n,d,()) rec a) ([0,1]:List Int) (λs=>s != ao n.1) (wanW n d) (λr i=>(r,(i:Int))) (λz=>some ((z,()),())) ?_ ?_ (by simp;omega)
  ·intro rec r i J H;have M:i<2:=J;have I:([0,1]:List Int)[i]=(i:Int):=by
    have:i=0\/i=1:=by omega
    rcases this with rfl|rfl <;> rfl
   simp only[Q99.s0,I];rw[decide_eq_true (by omega:(i:Int)<=1),ar i (by omega),eG K n.1];simp only[cond_true,BG];cases (i:Int) != ao n.1 with
   |false=>rfl
   |true =>
    simp only[cond_true];rw[far_s K n (i:Int) d h (by omega) (by omega) u];simp only[BG];refine (congrArg (λo=>CL o _) (nQ K n 6 (f9 n (i:Int) d) y)).trans ?_;simp only[BG];rw[szw _ _ _ (by omega) (by simp;omega)];rfl
  ·intro rec r H;simp only[Q99.s0];rfl
theorem yY (K:Nat)(n:aa)(d:Int)(M:NB n)(h:hM n)(Z:az (aa.table n))(I:1048577<K):Q189.f K (n,d,())=some ((eK n d,()),()):=by
 have R:=M.table;simp only[Q189.f,Q189.pre];rw[show Q184.f K (n.2.2.2.2.2.2.2.2.1,2,())=_ from qx K (aa.table n) R I Z];simp only[BG];rw[yX K (ct (aa.table n)) n.1 (BZ (mN _) (by decide)) I];simp only[BG,eK];show (bif !(ew n) then _ else _)=_;cases ew n with
 |false=>rfl
 |true =>
  simp only[BP,cond_false,cond_true];rw[w8 K 7];simp only[BG,show wr .i64 (ao 7+1)=2 from rfl];refine lH (step:=λrec a=>Q189.s0 K (n,d,()) rec a) ([0,1]:List Int) (λs=>s != ao n.1) (wanW n d) (λr i=>(r,(2:Int),(i:Int))) (λX=>some ((X,()),())) ?_ ?_ (by simp;omega)
  ·intro rec r i hi Y;have a0:i<2:=hi;have hv:([0,1]:List Int)[i]=(i:Int):=by
    have:i=0\/i=1:=by omega
    rcases this with rfl|rfl <;> rfl
   simp only[Q189.s0,hv];rw[decide_eq_true (by omega:(i:Int)<2),ar i (by omega),nN K n];simp only[cond_true,BG];rw[show ((i:Int) != ao n.1)=!((i:Int)==ao n.1) from rfl];cases (i:Int)==ao n.1 with
   |true=>rfl
   |false =>
    simp only[cond_false,CB,cond_true];rw[z8 K n (i:Int) M I];simp only[BG];have z:az (cW (aa.others n) (i:Int))/\(cW (aa.others n) (i:Int)).length<=1048576:=by
     rcases mO (l:=aa.others n) (s:=(i:Int)) with e|⟨x,hx,_,e⟩
     ·rw[e];exact⟨⟨by simp,List.Pairwise.nil⟩,by simp⟩
     ·rw[e];exact h.table x hx
    rw[qx K _ z.2 I z.1];simp only[BG];rw[xw (by omega) (by omega)];have hw:=λto=>uV K n 6 to R
    have u:∀ to,to=f9 n (i:Int) d->((Q186.f K (n,6,to,())).bind λO=>bif decide ((BH r+BH ([(2,O.1.1.2)]))*104<=ak) then (rec (r++([(2,O.1.1.2)]),(2:Int),((i+1:Nat):Int))) else none)=rec (r++[wanW n d (i:Int)],(2:Int),((i+1:Nat):Int)):=by
     intro to J;rw[hw to,J];simp only[BG];rw[szw _ _ _ (by omega) (by simp;omega)];rfl
    by_cases y:ct (cW (aa.others n) (i:Int))=[]
    ·rw[y];refine u _ ?_;rw[f9,y];rfl
    ·have hl:0<(ct (cW (aa.others n) (i:Int))).length:=CX.2 y;rw[decide_eq_true (by omega:((ct (cW (aa.others n) (i:Int))).length:Int)>0)];simp only[cond_true];cases H:aO .i64 d 4==0 with
     |false =>
      refine u _ ?_;rw[f9,H,DE];rfl
     |true =>
      simp only[cond_true];rw[decide_eq_false (by omega:¬ ((ct (cW (aa.others n) (i:Int))).length:Int)=0),(dV y).1,(dV y).2.1];simp only[cond_false,BG];refine u _ ?_;rw[f9,H,decide_eq_true y];rfl
  ·intro rec r Y;simp only[Q189.s0];rfl
def mW (n:aa)(f:ag):Bool:=f.2.2.1 != 4&&f.1 != n.1
def cd (n:aa):List Int:=((aa.table n).filter (mW n)).map (·.1)
def mX (n:aa)(to:Int):List ap:=match aa.others n with
 |[]=>[]
 |x::_=>[(1,6,n.1,to,0,n.1,aa.coord n,x.2)]
def ey (n:aa)(r:Int):List ap :=
 bif aO .i64 r 3==1 then eK n (B7 r (2 ^ 2)) else
 bif aO .i64 r 3==3||decide (cd n=[]) then [] else
 bif aO .i64 r 3==0 then [nP 4 n (gM (cd n) (B7 r (2 ^ 2)))] else mX n (gM (cd n) (B7 r (2 ^ 2)))
theorem and3 (a:Int):aO .i64 a 3=0\/aO .i64 a 3=1\/aO .i64 a 3=2\/aO .i64 a 3=3:=by
 obtain⟨r,u⟩:=kz (a:=a) (m:=3) (by omega);have r:0<=aO .i64 a 3:=r;have u:aO .i64 a 3<=3:=u;omega
theorem xx {n:aa}(u:az (aa.table n)){v:Int}(y:v∈cd n):0<=v:=by
 obtain⟨f,r,rfl⟩:=B3.1 y;exact (u.1 f (BN.1 r).1).1.1
theorem Bf (K:Nat)(n:aa)(d:Int)(J:(aa.table n).length<=1048576)(H:1048577<K):Q95.f K (n,d,())=some ((bif decide (cd n=[]) then -1 else gM (cd n) d,()),()):=by
 refine (pD (step:=λrec a=>Q95.s0 K (n,d,()) rec a) (aa.table n) (mW n) (λf=>f.1) (λy=>some ((bif decide (y=[]) then -1 else gM y d,()),())) ?_ ?_ (by omega)).trans rfl
 ·intro rec r i z M;simp only[Q95.s0];rw[show decide ((i:Int)<(BH n.2.2.2.2.2.2.2.2.1:Int))=true from bi (by omega:(i:Int)<(BH (aa.table n):Int)),show idx n.2.2.2.2.2.2.2.2.1 (i:Int)=some (aa.table n)[i] from af z,ar i (by omega)];simp only[cond_true,BG,mW];rw[szb _ _ _ (by omega) (by simp;omega)];cases (aa.table n)[i].1 != n.1 <;> cases (aa.table n)[i].2.2.1 != 4 <;> rfl
 ·intro rec r _;simp only[Q95.s0];rw[show decide ((BH (aa.table n):Int)<(BH n.2.2.2.2.2.2.2.2.1:Int))=false from aR _];simp only[cond_false];by_cases u:r=[]
  ·subst u;rfl
  ·have I:0<r.length:=CX.2 u;rw[show ((r.length:Int)==0)=false by simp;exact u,decide_eq_false (by omega:¬ (r.length:Int)=0),decide_eq_false u,(dV u).1,(dV u).2.1];rfl
theorem xy (K:Nat)(n:aa)(r:Int)(h:hM n)(J:az (aa.table n))(H:(aa.table n).length<=1048576)(I:1048577<K):Q100.f K (n,r,())=some ((ey n r,()),()):=by
 simp only[Q100.f];rw[Bf K n _ H I];simp only[BG];rw[wan_s K n _ h H I];simp only[BG,ey];by_cases u:cd n=[]
 ·rw[decide_eq_true u];simp only[cond_true,DU,show decide ((-1:Int)>=0)=false from rfl,cond_false];rcases and3 r with e|e|e|e <;> rw[e] <;> rfl
 ·have O:=xx J (dV (d:=B7 r (2 ^ 2)) u).2.2;rw[decide_eq_false u];simp only[cond_false,Bool.or_false];rw[decide_eq_true (by omega:gM (cd n) (B7 r (2 ^ 2))>=0)];simp only[cond_true];rw[show Q43.f K (n,4,gM (cd n) (B7 r (2 ^ 2)),0,n.1,n.2.2.2.2.2.2.2.2.1,())=_ from nQ K n 4 _ H];simp only[BG];rcases and3 r with e|e|e|e
  ·rw[e];rfl
  ·rw[e];rfl
  ·rw[e];simp only[show ((2:Int)==0)=false from rfl,show ((2:Int)==1)=false from rfl,show ((2:Int)==2)=true from rfl,show ((2:Int)==3)=false from rfl,cond_false,cond_true];unfold mX
   match y:aa.others n with
   |[] =>
    rw[show decide ((BH n.2.2.2.2.2.2.2.2.2.2.2.2.2.2:Int)>0)=false by show decide (((aa.others n).length:Int)>0)=false;rw[y];rfl];rfl
   |[x] =>
    have M:=h.table x (by rw[y];simp);have z:(aa.others n).length=1:=by rw[y];rfl
    rw[show decide ((BH n.2.2.2.2.2.2.2.2.2.2.2.2.2.2:Int)>0)=true by show decide (((aa.others n).length:Int)>0)=true;rw[z];rfl,show decide ((BH n.2.2.2.2.2.2.2.2.2.2.2.2.2.2:Int)=0)=false by show decide (((aa.others n).length:Int)=0)=false;rw[z];rfl];simp only[cond_true,cond_false];rw[show idx n.2.2.2.2.2.2.2.2.2.2.2.2.2.2 (CJ (aO .i64 (B7 r (2 ^ 10)) 255) (BH n.2.2.2.2.2.2.2.2.2.2.2.2.2.2:Int))=some x by
     show idx (aa.others n) (CJ (aO .i64 (B7 r (2 ^ 10)) 255) ((aa.others n).length:Int))=some x;rw[z,y,show ((1:Nat):Int)=1 from rfl,Int.tmod_one];rfl]
    simp only[BG,Q43.f];rw[szb _ _ _ (by omega) (by have:=M.2;simp;omega)];rfl
   |_::_::_=>exact absurd h.short (by rw[y];simp)
  ·rw[e];rfl
theorem Aj (K:Nat)(n:aa)(r:Int)(I:NB n)(h:hM n)(O:az (aa.table n))(J:1048577<K):Q191.f K (n,r,())=some ((ey n r,()),()):=by
 have M:=I.table;simp only[Q191.f,zcp4];rw[yY K n _ I h O J];simp only[BG,ey];cases aO .i64 r 3==1 with
 |true=>rfl
 |false =>
  simp only[cond_false];rw[show Q157.f K (n.2.2.2.2.2.2.2.2.1,(λR=>(Q190.f K (R.1,n,())).map λy=>y.1.1),())=_ from qw K (aa.table n) _ (mW n) M J (λf _=>by
   simp only[Q190.f,mW];cases f.2.2.1 != 4 <;> cases f.1 != n.1 <;> rfl)]
  simp only[BG];show (bif aO .i64 r 3==3 then some (([],()),()) else (bif ((cd n).length:Int)==0 then _ else _))=_;cases aO .i64 r 3==3 with
  |true=>rfl
  |false =>
   simp only[cond_false,Ct];by_cases u:cd n=[]
   ·rw[decide_eq_true u,show (((cd n).length:Int)==0)=true by rw[u];rfl];rfl
   ·have Y:0<(cd n).length:=CX.2 u;rw[decide_eq_false u,show (((cd n).length:Int)==0)=false by simp;exact u];simp only[cond_false];show (bif decide (((cd n).length:Int)=0) then none else ((idx (cd n) (CJ (aO .i64 (B7 r (2 ^ 2)) 255) ((cd n).length:Int))).bind λ_=>(idx (cd n) ((BJ (CJ (aO .i64 (B7 r (2 ^ 2)) 255) ((cd n).length:Int)):Nat):Int)).bind λZ=>_))=_;rw[decide_eq_false (by omega:¬ ((cd n).length:Int)=0),(dV u).1,(dV u).2.1];simp only[cond_false,BG];cases aO .i64 r 3==0 with
    |true =>
     simp only[cond_true];rw[uV K n 4 _ M];rfl
    |false =>
     simp only[cond_false,Q161.f,BG,Q3.f];unfold mX
     match H:aa.others n with
     |[] =>
      rw[show ((BH n.2.2.2.2.2.2.2.2.2.2.2.2.2.2:Int)==0)=true by show (((aa.others n).length:Int)==0)=true;rw[H];rfl];rfl
     |[x] =>
      have X:=h.table x (by rw[H];simp);have z:(aa.others n).length=1:=by rw[H];rfl
      rw[show ((BH n.2.2.2.2.2.2.2.2.2.2.2.2.2.2:Int)==0)=false by show (((aa.others n).length:Int)==0)=false;rw[z];rfl,show decide ((BH n.2.2.2.2.2.2.2.2.2.2.2.2.2.2:Int)=0)=false by show decide (((aa.others n).length:Int)=0)=false;rw[z];rfl];simp only[cond_false];rw[show idx n.2.2.2.2.2.2.2.2.2.2.2.2.2.2 (CJ (aO .i64 (B7 (B7 r (2 ^ 2)) (2 ^ 10)) 255) (BH n.2.2.2.2.2.2.2.2.2.2.2.2.2.2:Int))=some x by
       show idx (aa.others n) (CJ (aO .i64 (B7 (B7 r (2 ^ 2)) (2 ^ 10)) 255) ((aa.others n).length:Int))=some x;rw[z,H,show ((1:Nat):Int)=1 from rfl,Int.tmod_one];rfl]
      simp only[BG];rw[dU (by have:=X.2;omega)];rfl
     |_::_::_=>exact absurd h.short (by rw[H];simp)
def rk (f:ag):Int:=f.2.1*16+f.2.2.1*2+(if f.2.2.2=true then 1 else 0)
theorem qB {f g:ag}(r:bz f)(u:bz g):bQ f g<->rk g<rk f:=by
 obtain⟨_,_,z,I⟩:=r;obtain⟨_,_,y,H⟩:=u;unfold bQ rk;by_cases a:f.2.1=g.2.1
 ·rw[if_neg (by simpa using a)];by_cases c:f.2.2.1=g.2.2.1
  ·rw[if_neg (by simpa using c),a,c];cases f.2.2.2 <;> cases g.2.2.2 <;> simp <;> omega
  ·rw[if_pos c];cases f.2.2.2 <;> cases g.2.2.2 <;> simp <;> omega
 ·rw[if_pos a];cases f.2.2.2 <;> cases g.2.2.2 <;> simp <;> omega
theorem oi {t:List ag}(z:Asc (λg:ag=>g.1) t)(f:ag):bS t f=(t,false)\/(bS t f=(bG (λg=>g.1) f t,true)/\∀ g∈t,g.1=f.1->bQ f g):=by
 by_cases h:∃ g∈t,g.1=f.1
 ·obtain⟨g,r,e⟩:=h;obtain⟨i,J,rfl⟩:=BO r;rw[kv z J e];by_cases u:bQ f t[i]
  ·rw[if_pos u];refine .inr ⟨rfl,λM y I=>?_⟩;rw[il z y r (by rw[e,I])];exact u
  ·rw[if_neg u];exact .inl rfl
 ·have H:∀ g∈t,g.1≠f.1:=λg r e=>h ⟨g,r,e⟩
  exact .inr ⟨im H,λg r e=>absurd e (H g r)⟩
theorem oj {n:aa}(R:az (aa.table n)):iE n<->(∀ d∈aa.doubts n,lG n d)/\Asc (λd:bM=>d.1) (aa.doubts n)/\∀ f∈aa.table n,f.2.2.1=2->∃ d∈aa.doubts n,d.1=f.1:=by
 have H:((aU (aa.table n)).map (λf:ag=>f.1)).Pairwise (·<·):=by
  rw[B9];exact Cf _ R.2
 constructor
 ·rintro⟨h1,h2,h3⟩;refine⟨h1,h2,λf M u=>?_⟩;have r:((aa.doubts n).map (λd:bM=>d.1)).Pairwise (·<·):=by rw[B9];exact h2
  have:=(je _ _ r H (λx y=>by
   obtain⟨d,r,rfl⟩:=B3.1 y;obtain⟨⟨g,I,e,J,_⟩,_⟩:=h1 d r;exact B3.2 ⟨g,BN.2 ⟨I,by simpa using J⟩,e⟩)).2 (by rw[BU,BU,h3])
  have O:f.1∈(aU (aa.table n)).map (λf:ag=>f.1):=B3.2 ⟨f,BN.2 ⟨M,by simpa using u⟩,rfl⟩;rw[<- this]at O;obtain⟨d,r,e⟩:=B3.1 O;exact⟨d,r,e⟩
 ·rintro⟨h1,h2,h3⟩;refine⟨h1,h2,?_⟩;have r:((aa.doubts n).map (λd:bM=>d.1)).Pairwise (·<·):=by rw[B9];exact h2
  have X:=(je _ _ r H (λx y=>by
   obtain⟨d,r,rfl⟩:=B3.1 y;obtain⟨⟨g,I,e,J,_⟩,_⟩:=h1 d r;exact B3.2 ⟨g,BN.2 ⟨I,by simpa using J⟩,e⟩)).1
  have Y:=(je _ _ H r (λx y=>by
   obtain⟨f,M,rfl⟩:=B3.1 y;obtain⟨z,u⟩:=BN.1 M;obtain⟨d,r,e⟩:=h3 f z (by simpa using u);exact B3.2 ⟨d,r,e⟩)).1
  rw[BU,BU]at X Y;omega
def bR (n:aa):Int:=n.2.2.2.2.2.1
def fD (n:aa)(b:Int):Prop:=InP b 0 7/\ao b=ao n.1
theorem ol {n:aa}(u:Asc (λg:ag=>g.1) (aa.table n))(f:ag)(b:Int):sayOf n f b=n \/
  (sayOf n f b=iR n (bG (λg=>g.1) f (aa.table n)) (dm (aa.cast n) f) (bif kc n f then aa.doubts n else cM (bR n) (aa.doubts n) f b)/\∀ g∈aa.table n,g.1=f.1->bQ f g):=by
 rcases oi u f with h|⟨h,r⟩
 ·left;unfold sayOf;rw[h];rfl
 ·right;refine⟨?_,r⟩;unfold sayOf;rw[h];rfl
theorem vU {n:aa}{f:ag}{b:Int}(O:az (aa.table n))(hD:iE n)(hf:bz f)(hb:fD n b)(hn:0<=bR n)(c:List aM) :
  iE (iR n (bG (λg=>g.1) f (aa.table n)) c (bif kc n f then aa.doubts n else cM (bR n) (aa.doubts n) f b)):=by
 obtain⟨h1,h2,h3⟩:=(oj O).1 hD;have a1:az (bG (λg:ag=>g.1) f (aa.table n)):=⟨λg y=>by
  rcases aZ.1 y with rfl|⟨y,_⟩
  ·exact hf
  ·exact O.1 g y,fg O.2⟩
 refine (oj (n:=iR n _ c _) a1).2 ?_;have J:∀ d∈aa.doubts n,d.1≠f.1->∀ ds,lG (iR n (bG (λg:ag=>g.1) f (aa.table n)) c ds) d:=λd z u ds=>by
  obtain⟨⟨g,y,Y,X,R⟩,r⟩:=h1 d z;exact⟨⟨g,aZ.2 (.inr ⟨y,by rw[Y];exact u⟩),Y,X,R⟩,r⟩
 have I:∀ g∈bG (λg:ag=>g.1) f (aa.table n),g.1≠f.1->g.2.2.1=2->∃ d∈aa.doubts n,d.1=g.1:=λg y u h=>by
  rcases aZ.1 y with rfl|⟨y,_⟩
  ·exact absurd rfl u
  ·exact h3 g y h
 cases hs:kc n f with
 |true =>
  obtain⟨g0,M,s1,s2,s3⟩:=of_decide_eq_true hs;refine⟨λd z=>?_,h2,λg y h=>?_⟩
  ·by_cases u:d.1=f.1
   ·obtain⟨⟨g,y,Y,X,R⟩,r⟩:=h1 d z;rw[il O.2 y M (by rw[Y,s1,u])]at X R;exact⟨⟨f,aZ.2 (.inl rfl),u.symm,by rw[<- s3];exact X,by rw[<- s2];exact R⟩,r⟩
   ·exact J d z u _
  ·by_cases u:g.1=f.1
   ·have a0:g=f:=by
     rcases aZ.1 y with h|⟨_,h⟩
     ·exact h
     ·exact absurd u h
    rw[a0]at h ⊢;obtain⟨d,z,e⟩:=h3 g0 M (by rw[s3];exact h);exact⟨d,z,by rw[e,s1]⟩
   ·exact I g y u h
 |false =>
  by_cases H:f.2.2.1=2
  ·have e:cM (bR n) (aa.doubts n) f b=bG (λd=>d.1) (mkD (bR n) f b) (aa.doubts n):=by unfold cM;rw[if_pos H]
   simp only[cond_false];rw[e];refine⟨λd z=>?_,fg h2,λg y h=>?_⟩
   ·rcases aZ.1 z with rfl|⟨z,u⟩
    ·exact⟨⟨f,aZ.2 (.inl rfl),rfl,H,rfl⟩,⟨hn,CM _⟩,List.cons_ne_nil _ _,λx hx=>by rw[CG.1 hx];exact hb,C5 _ _⟩
    ·exact J d z u _
   ·by_cases u:g.1=f.1
    ·exact⟨mkD (bR n) f b,aZ.2 (.inl rfl),u.symm⟩
    ·obtain⟨d,z,e⟩:=I g y u h;exact⟨d,aZ.2 (.inr ⟨z,λe'=>u (e.symm.trans e')⟩),e⟩
  ·have e:cM (bR n) (aa.doubts n) f b=(aa.doubts n).filter (λd=>!(d.1==f.1)):=by unfold cM;rw[if_neg H]
   simp only[cond_false];rw[e];refine⟨λd z=>?_,mb h2 _,λg y h=>?_⟩
   ·obtain⟨z,u⟩:=BN.1 z;exact J d z (by simpa using u) _
   ·have u:g.1≠f.1:=λu=>by
     rcases aZ.1 y with Z|⟨_,Z⟩
     ·rw[Z]at h;exact H h
     ·exact Z u
    obtain⟨d,z,e⟩:=I g y u h;exact⟨d,BN.2 ⟨z,by rw[e];simpa using u⟩,e⟩
theorem vV {n:aa}{f:ag}(R:az (aa.table n))(O:cO (aa.cast n))(Y:gW (aa.table n) (aa.cast n))(M:bz f)(X:∀ g∈aa.table n,g.1=f.1->bQ f g) :
  gW (bG (λg=>g.1) f (aa.table n)) (dm (aa.cast n) f):=by
 have z:∀ x∈aa.cast n,∃ g∈bG (λg:ag=>g.1) f (aa.table n),g.1=x.1.1/\¬ bQ x.1 g:=λx r=>by
  obtain⟨g,J,e,H⟩:=Y x r;by_cases u:g.1=f.1
  ·refine⟨f,aZ.2 (.inl rfl),by rw[<- e,u],λh=>H ?_⟩;have y:=(O.1 x r).1;have I:=R.1 g J;have:=X g J u;rw[qB M I]at this;rw[qB y M]at h;rw[qB y I];omega
  ·exact⟨g,aZ.2 (.inr ⟨J,u⟩),e,H⟩
 intro x r;unfold dm at r;split at r
 ·exact z x r
 ·rcases aZ.1 r with rfl|⟨r,_⟩
  ·exact⟨f,aZ.2 (.inl rfl),rfl,xv f⟩
  ·exact z x r
structure UpX (n:aa):Prop where
 me:InP n.1 0 7
 now0:0<=bR n
 table:az (aa.table n)
 site:ce (aa.table n) (ao n.1)
 cast:cO (aa.cast n)
 vs:gW (aa.table n) (aa.cast n)
 probe:cU n
 doubts:iE n
 coord:cD (aa.coord n)
 places:eq n.1 (aa.places n)
 others:c6 n.1 (aa.others n)
theorem UpX.of {n:aa}(h:UpP n)(O:InP n.1 0 7)(z:0<=bR n):UpX n:=by
 obtain⟨J,X,_,⟨I,M⟩,H,R,y,r,u⟩:=h;exact⟨O,z,J,X,I,M,H,R,y,r,u⟩
theorem UpX.up {n:aa}(h:UpX n)(r:db n):UpP n:=⟨h.table,h.site,r,⟨h.cast,h.vs⟩,h.probe,h.doubts,h.coord,h.places,h.others⟩
theorem UpX.say {n:aa}(h:UpX n):b7 n:=by
 refine b7.mk' h.table h.cast h.doubts.2.1 λd u=>?_
 obtain⟨f,r,e,_⟩:=(h.doubts.1 d u).1;rw[<- e];exact (h.table.1 f r).1
theorem fD.me {n:aa}(h:InP n.1 0 7):fD n n.1:=⟨h,rfl⟩
theorem re {n m:aa}(h:cU n)(J:m.1=n.1)(X:aa.probe m=aa.probe n)(Z:∀ g∈aa.table n,∃ u∈aa.table m,u.1=g.1)(H:bR n<=bR m)(I:n.2.2.2.2.2.2.1<=m.2.2.2.2.2.2.1):cU m:=by
 unfold cU at h ⊢;rw[X,J];split at h
 ·rename_i r;rw[if_pos r];exact h
 ·rename_i r;rw[if_neg r];obtain⟨R,⟨g,O,eg⟩,⟨M,p3⟩,⟨z,Y⟩⟩:=h;obtain⟨u,y,e'⟩:=Z g O;exact⟨R,⟨u,y,e'.trans eg⟩,⟨M,Cv p3 H⟩,⟨z,Cv Y I⟩⟩
theorem UpX.said {n:aa}{f:ag}{b:Int}(h:UpX n)(u:bz f)(I:ao f.1=ao n.1)(z:fD n b):UpX (sayOf n f b):=by
 rcases ol h.table.2 f b with e|⟨e,H⟩
 ·rw[e];exact h
 ·have y:=λg r=>jJ (n:=n) (f:=f) (b:=b) (g:=g) r
  rw[e]at y ⊢;refine⟨h.me,h.now0,⟨λg r=>?_,fg h.table.2⟩,λg r=>?_,pJ h.cast u,vV h.table h.cast h.vs u H,re h.probe rfl rfl y (CM _) (CM _),vU h.table h.doubts u z h.now0 _,h.coord,h.places,h.others⟩
  ·rcases aZ.1 r with rfl|⟨r,_⟩
   ·exact u
   ·exact h.table.1 g r
  ·rcases aZ.1 r with rfl|⟨r,_⟩
   ·exact I
   ·exact h.site g r
theorem xz {n:aa}(u:Asc (λg:ag=>g.1) (aa.table n)){f g:ag}{b:Int}(r:g.1≠f.1):g∈aa.table (sayOf n f b)<->g∈aa.table n:=by
 rcases ol u f b with e|⟨e,_⟩
 ·rw[e]
 ·rw[e];exact aZ.trans ⟨λh=>h.elim (λh=>absurd (by rw[h]) r) (·.1),λh=>.inr ⟨h,r⟩⟩
theorem rg {n:aa}(u:Asc (λg:ag=>g.1) (aa.table n)){f:ag}{b:Int}(h:∀ g∈aa.table n,g.1=f.1->bQ f g):f∈aa.table (sayOf n f b):=by
 have H:bS (aa.table n) f=(bG (λg=>g.1) f (aa.table n),true):=by
  rcases oi u f with e|⟨e,_⟩
  ·by_cases y:∃ g∈aa.table n,g.1=f.1
   ·obtain⟨g,r,z⟩:=y;obtain⟨i,I,rfl⟩:=BO r;rw[kv u I z,if_pos (h _ r z)]
   ·exact im λg r e=>y ⟨g,r,e⟩
  ·exact e
 unfold Go.Proofs.YtaegajachoklkabGreatEv.sayOf;rw[H];exact aZ.2 (.inl rfl)
def OnN (n m:aa):Prop:=∃ t c r,m=iR n t c r
theorem OnN.refl (n:aa):OnN n n:=⟨_,_,_,rfl⟩
theorem OnN.say {n m:aa}(h:OnN n m)(f:ag)(b:Int):OnN n (Go.Proofs.YtaegajachoklkabGreatEv.sayOf m f b):=by
 obtain⟨t,c,y,rfl⟩:=h;obtain⟨z,u,r,e,_⟩:=iG (iR n t c y) f b;exact⟨z,u,r,e⟩
def mh (n:aa):ag:=(n.1,n.2.2.2.2.1,(if n.2.2.1=true then 4 else 1),n.2.2.2.1)
theorem o8 {n m:aa}(I:Asc (λg:ag=>g.1) (aa.table m))(y:OnN n m){f:ag}{b:Int}(r:f.1≠n.1)(h:db m):db (sayOf m f b):=by
 obtain⟨t,c,O,e⟩:=y.say f b;obtain⟨M,R,H,J⟩:=y;have z:mh n∈aa.table m:=by rw[J]at h ⊢;exact h
 have u:=(xz I (f:=f) (b:=b) (g:=mh n) (λh=>r h.symm)).2 z;rw[e]at u ⊢;exact u
theorem yZ {n:aa}(h:UpX n)(y:db n){d:bM}(H:d∈aa.doubts n):d.1≠n.1:=by
 obtain⟨⟨g,I,e,r,_⟩,_⟩:=h.doubts.1 d H;intro z;have u:mh n∈aa.table n:=y;have:=il h.table.2 I u (by rw[e,z];rfl);rw[this]at r;revert r;show (if n.2.2.1=true then (4:Int) else 1)=2->False;split <;> omega
theorem mY {n:aa}(h:UpX n)(hs:db n):UpX (gv n)/\db (gv n)/\OnN n (gv n):=by
 have:=ky (st:=eH) (Inv:=λm=>(UpX m/\db m/\OnN n m)/\∀ g∈aa.table n,∃ I∈aa.table m,I.1=g.1) (ds:=aa.doubts n) (n:=n) ⟨⟨h,hs,OnN.refl n⟩,λg u=>⟨g,u,rfl⟩⟩ ?_
 ·exact this.1
 ·rintro m d Z ⟨⟨r,y,J⟩,z⟩;have M:=yZ h hs Z;unfold eH;cases lg m.2.2.2.2.2.1 d.2.2.1 d.2.2.2.length with
  |false=>exact⟨⟨r,y,J⟩,z⟩
  |true =>
   obtain⟨⟨g,u,e,_⟩,_⟩:=h.doubts.1 d Z;obtain⟨I,X,e'⟩:=z g u;obtain⟨h1,h2,h3⟩:=c7 r.table ⟨I,X,e'.trans e⟩;have O:ao (kd (aG (aa.table m) d.1)).1=ao m.1:=by
    show ao (aG (aa.table m) d.1).1=ao m.1;exact r.site _ h3
   have R:(kd (aG (aa.table m) d.1)).1≠n.1:=by rw[show (kd (aG (aa.table m) d.1)).1=_ from h2];exact M
   refine⟨⟨r.said (nR h1) O (fD.me r.me),o8 r.table.2 J R y,J.say _ _⟩,λg u=>?_⟩;obtain⟨g1,H,e1⟩:=z g u;obtain⟨g2,Y,e2⟩:=jJ (f:=kd (aG (aa.table m) d.1)) (b:=m.1) H;exact⟨g2,Y,e2.trans e1⟩
theorem UpX.setProbe {n:aa}(h:UpX n){p:ag}(r:cU (setP n p)):UpX (setP n p):=⟨h.me,h.now0,h.table,h.site,h.cast,h.vs,r,h.doubts,h.coord,h.places,h.others⟩
theorem xA (n:aa):cU (setP n noP):=by
 unfold cU;exact (if_pos rfl).mpr rfl
theorem xB {n:aa}(h:UpX n)(H:db n):UpX (bk n).1/\db (bk n).1/\∃ p,OnN (setP n p) (bk n).1:=by
 have r:UpX n/\db n/\∃ p,OnN (setP n p) n:=⟨h,H,aa.probe n,OnN.refl n⟩;have y:UpX (setP n noP):=h.setProbe (xA n);unfold bk;cases J:(aa.probe n).1==-1 with
 |true=>exact r
 |false =>
  have z:(aa.probe n).1≠-1:=by simpa using J
  have u:=h.probe;unfold cU at u;rw[if_neg z]at u;simp only[cond_false];cases M:cL (aG (aa.table n) (aa.probe n).1) with
  |false=>exact⟨y,H,_,OnN.refl _⟩
  |true =>
   obtain⟨R,X,O⟩:=c7 h.table (fh M);simp only[BP,cond_false];cases decide (n.2.2.2.2.2.1-(aa.probe n).2.1>=4) with
   |true =>
    simp only[cond_true];cases (aG (aa.table n) (aa.probe n).1).2.2.1==1 with
    |true =>
     have I:ao (nS (aG (aa.table n) (aa.probe n).1)).1=ao (setP n noP).1:=by
      show ao (aG (aa.table n) (aa.probe n).1).1=ao n.1;exact h.site _ O
     refine⟨y.said (qy R) I (fD.me (n:=setP n noP) h.me),o8 (n:=setP n noP) (m:=setP n noP) h.table.2 (OnN.refl (setP n noP)) ?_ H,noP,(OnN.refl (setP n noP)).say _ _⟩;rw[show (nS (aG (aa.table n) (aa.probe n).1)).1=_ from X];exact u.1
    |false=>exact⟨y,H,_,OnN.refl _⟩
   |false =>
    simp only[cond_false];cases decide (n.2.2.2.2.2.1-(aa.probe n).2.1>=2) with
    |false=>exact r
    |true =>
     simp only[cond_true];cases (aa.probe n).2.2.2 with
     |true=>exact r
     |false =>
      refine⟨h.setProbe ?_,H,_,OnN.refl _⟩;show cU (jL n);unfold cU;rw[if_neg (show ¬ (aa.probe (jL n)).1=-1 from z)];exact u
def gY (n:aa):Option Int:=((List.range 8).map (bf n)).find? λx=>x != n.1&&cL (aG (aa.table n) x)
def jk (n:aa):Int:=n.2.2.2.2.2.2.1
def dI (n:aa):aa×List ap:=bif decide (jk n>=999999) then (n,[]) else match gY n with
 |some to=>(qA n to,[sj n to])
 |none=>(n,[])
theorem rh {n:aa}{to:Int}(h:gY n=some to):to≠n.1/\cL (aG (aa.table n) to)=true:=by
 have:=C9 h;simpa using this
theorem xC {l:List aM}{T:List Int}{x:aM}(h:x∈dv l T l.length):∃ y∈l,x.1=y.1:=by
 unfold dv at h;obtain⟨u,_⟩:=BN.1 h;obtain⟨i,r,rfl⟩:=BO u;rw[eJ]at r;rw[fj l T r];refine⟨l[i],BI r,?_⟩;unfold dH;rw[cn r];cases decide ((i:Int)∈T) <;> rfl
theorem UpX.way {n:aa}(h:UpX n):UpX (ir n):=⟨h.me,h.now0,h.table,h.site,tj h.cast _,λx z=>by
 obtain⟨y,I,e⟩:=xC z;obtain⟨g,r,H,u⟩:=h.vs y I;exact⟨g,r,by rw[e,H],by rw[e];exact u⟩,h.probe,h.doubts,h.coord,h.places,h.others⟩
structure tk (n:aa):Prop where
 seq:InP (jk n) 0 999999
 turn:InP n.2.2.2.2.2.2.2.1 0 8
theorem Bg {n:aa}(h:UpX n)(y:db n)(z:tk n):UpX (dI n).1/\db (dI n).1/\tk (dI n).1/\(dI n).1.1=n.1/\bR (dI n).1=bR n/\(dI n).1.2.2.2.2.1=n.2.2.2.2.1:=by
 unfold dI;by_cases J:jk n>=999999
 ·rw[decide_eq_true J];exact⟨h,y,z,rfl,rfl,rfl⟩
 ·rw[decide_eq_false J];simp only[cond_false];cases X:gY n with
  |none=>exact⟨h,y,z,rfl,rfl,rfl⟩
  |some to =>
   obtain⟨u,M⟩:=rh X;obtain⟨O,I,R⟩:=c7 h.table (fh M);obtain⟨⟨Z,Y⟩,_⟩:=z;have r:InP to 0 7:=I ▸ O.1;have H:=h.way;refine⟨⟨h.me,h.now0,h.table,h.site,H.cast,H.vs,?_,h.doubts,h.coord,h.places,h.others⟩,y,⟨⟨show 0<=jk n+1 by omega,show jk n+1<=999999 by omega⟩,show 0<=to+1 by have:=r.1;omega,show to+1<=8 by have:=r.2;omega⟩,rfl,rfl,rfl⟩;show cU (qA n to);unfold cU;rw[if_neg (show ¬ (aa.probe (qA n to)).1=-1 by have:=r.1;show ¬ to=-1;omega)];exact⟨u,⟨_,R,I⟩,⟨h.now0,CM _⟩,show 1<=jk n+1 by omega,CM _⟩
def d4 (n:aa):aa:=(n.1,n.2.1,n.2.2.1,n.2.2.2.1,n.2.2.2.2.1,n.2.2.2.2.2.1+1,n.2.2.2.2.2.2)
def dM (m:aa):aa×List ap:=bif (aa.probe m).1==-1 then dI m else (m,[])
def eQ (n:aa):aa×List ap:=bk (gv (d4 n))
def gb (n:aa):aa:=(dM (eQ n).1).1
def hY (n:aa)(r:Int):List ap:=(eQ n).2++(dM (eQ n).1).2++ey (gb n) r
theorem UpX.later {n:aa}(h:UpX n):UpX (d4 n):=by
 have J:bR (d4 n)=bR n+1:=rfl;have M:=h.now0;refine⟨h.me,by omega,h.table,h.site,h.cast,h.vs,re h.probe rfl rfl (λg I=>⟨g,I,rfl⟩) (by omega) (CM _),⟨λd z=>?_,h.doubts.2⟩,h.coord,h.places,h.others⟩;obtain⟨u,⟨H,r⟩,y⟩:=h.doubts.1 d z;exact⟨u,⟨H,Cv r (show bR n<=bR (d4 n) by omega)⟩,y⟩
structure UpN (n:aa):Prop where
 x:UpX n
 self:db n
 now1:bR n<=999999
 seq:tk n
 inc:InP n.2.2.2.2.1 0 999
 up:n.2.1=true
theorem UpN.of {n:aa}(h:iP n)(y:n.2.1=true):UpN n:=by
 obtain⟨H,u,z,I,J,r⟩:=h;rw[if_pos y]at r;exact⟨UpX.of r H u.1,r.2.2.1,u.2,⟨z,I⟩,J,y⟩
theorem UpN.ok {n:aa}(h:UpN n):iP n:=⟨h.x.me,⟨h.x.now0,h.now1⟩,h.seq.seq,h.seq.turn,h.inc,by rw[if_pos h.up];exact h.x.up h.self⟩
theorem pN {n:aa}(h:UpN n)(Z:bR n<999999):UpN (eQ n).1/\(eQ n).1.1=n.1/\(eQ n).1.2.2.1=n.2.2.1:=by
 have z:db (d4 n):=h.self;obtain⟨J,O,r⟩:=mY h.x.later z;obtain⟨R,H,p,y⟩:=xB J O;obtain⟨t,c,Y,I⟩:=r;obtain⟨X,c',M,u⟩:=y;have e:(eQ n).1=_:=u;rw[I]at e;refine⟨⟨R,H,?_,⟨?_,?_⟩,?_,?_⟩,?_,?_⟩
 ·show bR (eQ n).1<=999999;rw[e];show bR n+1<=999999;omega
 ·show InP (jk (eQ n).1) 0 999999;rw[e];exact h.seq.seq
 ·show InP (eQ n).1.2.2.2.2.2.2.2.1 0 8;rw[e];exact h.seq.turn
 ·show InP (eQ n).1.2.2.2.2.1 0 999;rw[e];exact h.inc
 ·show (eQ n).1.2.1=true;rw[e];exact h.up
 ·rw[e];rfl
 ·rw[e];rfl
theorem tm {m:aa}:(dI m).1.2.1=m.2.1/\(dI m).1.2.2.1=m.2.2.1:=by
 unfold dI;cases decide (jk m>=999999) with
 |true=>exact⟨rfl,rfl⟩
 |false =>
  cases gY m with
  |none=>exact⟨rfl,rfl⟩
  |some to=>exact⟨rfl,rfl⟩
theorem vW {m:aa}(h:UpN m):UpN (dM m).1/\(dM m).1.1=m.1/\(dM m).1.2.2.1=m.2.2.1:=by
 unfold dM;cases (aa.probe m).1==-1 with
 |false=>exact⟨h,rfl,rfl⟩
 |true =>
  obtain⟨I,z,u,H,y,r⟩:=Bg h.x h.self h.seq;refine⟨⟨I,z,?_,u,?_,?_⟩,H,tm.2⟩
  ·show bR (dI m).1<=999999;rw[y];exact h.now1
  ·show InP (dI m).1.2.2.2.2.1 0 999;rw[r];exact h.inc
  ·show (dI m).1.2.1=true;rw[tm.1];exact h.up
theorem lK {n:aa}(h:UpN n)(z:bR n<999999):UpN (gb n)/\(gb n).1=n.1/\(gb n).2.2.1=n.2.2.1:=by
 obtain⟨u,J,r⟩:=pN h z;obtain⟨H,I,y⟩:=vW u;exact⟨H,I.trans J,y.trans r⟩
theorem za {f g:ag}(h:g.2.1<f.2.1):bQ f g:=by
 unfold bQ;rw[if_pos (by omega)];exact h
theorem Ak {f g:ag}(h:bQ f g):g.2.1<=f.2.1:=by
 unfold bQ at h;split at h <;> omega
theorem UpX.inc {n:aa}(h:UpX n)(i:Int):UpX (ip n i):=⟨h.me,h.now0,h.table,h.site,h.cast,h.vs,h.probe,h.doubts,h.coord,h.places,h.others⟩
theorem ri {n:aa}(h:UpX n)(r:db n){g:ag}(u:g∈aa.table n)(e:g.1=n.1):g=mh n:=il h.table.2 u r (by rw[e];rfl)
theorem xD {n:aa}(h:UpX n)(r:db n):aG (aa.table n) n.1=mh n:=jH h.table.2 (f:=mh n) r
theorem zb {n:aa}(h:UpN n)(H:n.2.2.1=false):UpN (mQ n)/\(mQ n).1=n.1:=by
 have z:bz (n.1,n.2.2.2.2.1,4,n.2.2.2.1):=⟨h.x.me,h.inc,show (1:Int)<=4 by omega,show (4:Int)<=4 by omega⟩;have r:=h.x.said z rfl (fD.me h.x.me);have y:(n.1,n.2.2.2.2.1,(4:Int),n.2.2.2.1)∈aa.table (sayOf n (n.1,n.2.2.2.2.1,4,n.2.2.2.1) n.1):=rg h.x.table.2 λg u e=>by
  rw[ri h.x h.self u e];unfold bQ mh;rw[H];simp
 obtain⟨t,c,I,e⟩:=(OnN.refl n).say (n.1,n.2.2.2.2.1,4,n.2.2.2.1) n.1;unfold mQ;rw[e]at r y ⊢;exact⟨⟨⟨r.me,r.now0,r.table,r.site,r.cast,r.vs,r.probe,r.doubts,r.coord,r.places,r.others⟩,y,h.now1,⟨h.seq.seq,h.seq.turn⟩,h.inc,h.up⟩,rfl⟩
theorem xE {n:aa}{f:ag}(h:UpN n)(y:n.2.2.1=false)(O:bz f):UpN (fJ n f)/\(fJ n f).1=n.1/\(fJ n f).2.2.1=false:=by
 unfold fJ;cases I:decide (bQ f (aG (aa.table n) n.1))&&decide (f.2.1<999) with
 |false=>exact⟨h,rfl,y⟩
 |true =>
  rw[CN,decide_eq_true_eq,decide_eq_true_eq,xD h.x h.self]at I;obtain⟨M,X⟩:=I;have J:n.2.2.2.2.1<=f.2.1:=Ak M;have r:=uX (n:=n) h.x.me O X;have H:UpX (sayOf (ip n (f.2.1+1)) (n.1,f.2.1+1,1,n.2.2.2.1) n.1):=(h.x.inc (f.2.1+1)).said r rfl (fD.me (n:=ip n (f.2.1+1)) h.x.me);have z:(n.1,f.2.1+1,(1:Int),n.2.2.2.1)∈aa.table (sayOf (ip n (f.2.1+1)) (n.1,f.2.1+1,1,n.2.2.2.1) n.1):=rg (n:=ip n (f.2.1+1)) h.x.table.2 λg u e=>by
   rw[ri h.x h.self u e];exact za (show n.2.2.2.2.1<f.2.1+1 by omega)
  obtain⟨t,c,R,e⟩:=(OnN.refl (ip n (f.2.1+1))).say (n.1,f.2.1+1,1,n.2.2.2.1) n.1;simp only[cond_true];rw[show sayOf (ip n (f.2.1+1)) (n.1,f.2.1+1,1,n.2.2.2.1) n.1=iR (ip n (f.2.1+1)) t c R from e]at H z ⊢;refine⟨⟨H,?_,h.now1,⟨h.seq.seq,h.seq.turn⟩,r.2.1,h.up⟩,rfl,y⟩;show (n.1,f.2.1+1,(if n.2.2.1=true then (4:Int) else 1),n.2.2.2.1)∈_;rw[y];exact z
theorem mZ (f:ag)(b:Int)(d:bM):(ea f b d).1=d.1/\(ea f b d).2.1=d.2.1/\(ea f b d).2.2.1=d.2.2.1:=by
 unfold ea;cases d.1==f.1&&d.2.1==f.2.1&&f.2.2.1==2 <;> exact⟨rfl,rfl,rfl⟩
theorem UpX.conf {n:aa}(h:UpX n)(f:ag){b:Int}(J:fD n b):UpX (kR n f b):=by
 refine⟨h.me,h.now0,h.table,h.site,h.cast,h.vs,h.probe,⟨λd I=>?_,?_,?_⟩,h.coord,h.places,h.others⟩
 ·obtain⟨r,z,rfl⟩:=B3.1 I;obtain⟨H,R,k3⟩:=mZ f b r;obtain⟨⟨g,Y,e1,Z,O⟩,X,M,y⟩:=h.doubts.1 r z;refine⟨⟨g,Y,by rw[H];exact e1,Z,by rw[R];exact O⟩,by rw[k3];exact X,?_⟩;unfold ea;cases r.1==f.1&&r.2.1==f.2.1&&f.2.2.1==2 with
  |false=>exact⟨M,y⟩
  |true =>
   refine⟨List.ne_nil_of_mem (aZ.2 (.inl rfl)),λx u=>?_,fg y.2⟩;rcases aZ.1 u with rfl|⟨u,_⟩
   ·exact J
   ·exact y.1 x u
 ·show Asc _ ((aa.doubts n).map (ea f b));unfold Asc;rw[B9];exact h.doubts.2.1.imp λ {a c} h=>by show (ea f b a).1<(ea f b c).1;rw[(mZ f b a).1,(mZ f b c).1];exact h
 ·show _=((aa.doubts n).map (ea f b)).length;rw[BU];exact h.doubts.2.2
theorem tn {n:aa}{f:ag}{b:Int}(h:UpN n)(I:n.2.2.1=false)(z:bz f)(M:ao f.1=ao n.1)(y:fD n b):UpN (ei b n f)/\(ei b n f).1=n.1/\(ei b n f).2.2.1=false:=by
 unfold ei;by_cases r:f.1=n.1
 ·rw[show (f.1==n.1)=true by simpa using r];exact xE h I z
 ·rw[show (f.1==n.1)=false by simpa using r];have H:=h.x.said z M y;have u:=o8 h.x.table.2 (OnN.refl n) (b:=b) r h.self;obtain⟨t,c,J,e⟩:=(OnN.refl n).say f b;simp only[cond_false];rw[show sayOf n f b=iR n t c J from e]at H u ⊢;exact⟨⟨H.conf f y,u,h.now1,⟨h.seq.seq,h.seq.turn⟩,h.inc,h.up⟩,rfl,I⟩
theorem mi {n:aa}{t:List ag}{b:Int}(h:UpN n)(M:n.2.2.1=false)(I:az t)(J:ce t (ao n.1))(u:fD n b):UpN (jh n t b)/\(jh n t b).1=n.1/\(jh n t b).2.2.1=false:=by
 refine ky (st:=ei b) (Inv:=λm=>UpN m/\m.1=n.1/\m.2.2.1=false) (ds:=t) (n:=n) ⟨h,rfl,M⟩ λm f y ⟨H,r,z⟩=>?_
 have:=tn (b:=b) H z (I.1 f y) (by rw[r];exact J f y) ⟨u.1,by rw[r];exact u.2⟩;exact⟨this.1,this.2.1.trans r,this.2.2⟩
theorem UpN.learns {n:aa}(h:UpN n):eu n:=⟨h.x.say,h.x.me,⟨_,h.self,rfl⟩,λd y=>by
 obtain⟨_,_,_,r⟩:=h.x.doubts.1 d y;exact⟨r.2,λx u=>(r.1 x u).1⟩⟩
def setO (n:aa)(o:List cR):aa:=(n.1,n.2.1,n.2.2.1,n.2.2.2.1,n.2.2.2.2.1,n.2.2.2.2.2.1,n.2.2.2.2.2.2.1,n.2.2.2.2.2.2.2.1,n.2.2.2.2.2.2.2.2.1,n.2.2.2.2.2.2.2.2.2.1,n.2.2.2.2.2.2.2.2.2.2.1,n.2.2.2.2.2.2.2.2.2.2.2.1,n.2.2.2.2.2.2.2.2.2.2.2.2.1,n.2.2.2.2.2.2.2.2.2.2.2.2.2.1,o)
theorem UpN.setOthers {n:aa}(h:UpN n){o:List cR}(r:c6 n.1 o):UpN (setO n o):=⟨⟨h.x.me,h.x.now0,h.x.table,h.x.site,h.x.cast,h.x.vs,h.x.probe,h.x.doubts,h.x.coord,h.x.places,r⟩,h.self,h.now1,⟨h.seq.seq,h.seq.turn⟩,h.inc,h.up⟩
theorem vX {z s:Int}{r:List ag}{o:List cR}(I:c6 z o)(M:InP s 0 1)(u:s≠ao z)(J:r≠[])(O:az r)(H:ce r s):c6 z (bG (λx:cR=>x.1) (s,r) o) :=
 ⟨λx y=>by
  rcases aZ.1 y with rfl|⟨y,_⟩
  ·exact⟨M,u,J,O,H⟩
  ·exact I.1 x y,fg I.2⟩
def gZ (l:List Int)(t:Int):List Int:=(l++[t]).drop ((l++[t]).length-3)
def dB (l:List dF)(r:Int):List Int:=((l.find? λp=>p.1==r).map (·.2.2)).getD []
def o9 (l:List dF)(r:Int)(c:du)(t:Int):List dF:=bG (λp=>p.1) (r,c,gZ (dB l r) t) l
def pO (n:aa)(c:du)(p:List dF):aa:=(n.1,n.2.1,n.2.2.1,n.2.2.2.1,n.2.2.2.2.1,n.2.2.2.2.2.1,n.2.2.2.2.2.2.1,n.2.2.2.2.2.2.2.1,n.2.2.2.2.2.2.2.2.1,n.2.2.2.2.2.2.2.2.2.1,noP,n.2.2.2.2.2.2.2.2.2.2.2.1,c,p,n.2.2.2.2.2.2.2.2.2.2.2.2.2.2)
theorem uu {l:List dF}{r:Int}{t:Int}(h:t∈dB l r):∃ p∈l,t∈p.2.2:=by
 unfold dB at h;cases u:l.find? λp=>p.1==r with
 |none=>rw[u]at h;simp at h
 |some p =>
  rw[u]at h;exact⟨p,Ci u,h⟩
theorem xF {l:List Int}{t:Int}(r:∀ x∈l,InP x 1 60000)(y:InP t 1 60000):InP ((gZ l t).length:Int) 1 3/\∀ x∈gZ l t,InP x 1 60000:=by
 unfold gZ;constructor
 ·simp only[CD,BV,BM,BQ];constructor <;> omega
 ·intro x u;have:=List.mem_of_mem_drop u;rcases CQ.1 this with h|h
  ·exact r x h
  ·rw[CG.1 h];exact y
theorem vY {y r:Int}{l:List dF}{c:du}{t:Int}(h:eq y l)(I:InP r 0 7)(J:ao r=ao y)(O:r≠y)(R:cD c)(M:InP t 1 60000):eq y (o9 l r c t):=by
 have H:=xF (l:=dB l r) (t:=t) (λx z=>by
  obtain⟨p,u,z⟩:=uu z;exact (h.1 p u).2.2.2.2.2 x z) M
 exact⟨λp u=>by
  rcases aZ.1 u with rfl|⟨u,_⟩
  ·exact⟨I,J,O,R,H.1,H.2⟩
  ·exact h.1 p u,fg h.2⟩
theorem UpN.heard {n:aa}(h:UpN n){c:du}{p:List dF}(u:cD c)(r:eq n.1 p):UpN (pO n c p):=⟨⟨h.x.me,h.x.now0,h.x.table,h.x.site,h.x.cast,h.x.vs,xA n,h.x.doubts,u,r,h.x.others⟩,h.self,h.now1,⟨h.seq.seq,h.seq.turn⟩,h.inc,h.up⟩
theorem UpN.way {n:aa}(h:UpN n):UpN (ir n):=⟨h.x.way,h.self,h.now1,⟨h.seq.seq,h.seq.turn⟩,h.inc,h.up⟩
def Tot {α:Type}(o:Option α)(P:α->Prop):Prop:=∃ v,o=some v/\P v
section
variable {α β:Type} {P:α->Prop} {Q:β->Prop}
theorem Tot.ret {v:α}(h:P v):Tot (some v) P:=⟨v,rfl,h⟩
theorem Tot.mono {o:Option α}{r:α->Prop}(h:Tot o P)(k:∀ v,P v->r v):Tot o r:=by obtain⟨v,e,u⟩:=h;exact⟨v,e,k v u⟩
theorem Tot.bind {o:Option α}{g:α->Option β}(h:Tot o P)(k:∀ v,P v->Tot (g v) Q):Tot (o.bind g) Q:=by obtain⟨v,e,r⟩:=h;rw[e];exact k v r
theorem Tot.vl {o:Option α}{v:α}{g:α->Option β}(e:o=some v)(k:Tot (g v) Q):Tot (o.bind g) Q:=by rw[e];exact k
theorem Tot.cnd {b:Bool}{x y:Option α}(r:b=true->Tot x P)(u:b=false->Tot y P):Tot (bif b then x else y) P:=by
 cases b
 ·exact u rfl
 ·exact r rfl
theorem Tot.must {b:Bool}{x y:Option α}(r:b=true)(h:Tot x P):Tot (bif b then x else y) P:=by rw[r];exact h
theorem Tot.not {b:Bool}{x y:Option α}(r:b=false)(h:Tot x P):Tot (bif b then y else x) P:=by rw[r];exact h
theorem Tot.ix {xs:List α}{i:Int}{g:α->Option β}(u:0<=i)(z:i<xs.length)(k:∀ y∈xs,idx xs i=some y->Tot (g y) Q):Tot ((idx xs i).bind g) Q:=by
 obtain⟨n,rfl⟩:=BL u;have r:n<xs.length:=by omega
 have:=af r;rw[this];exact k _ (BI r) this
theorem Tot.iter {A:Type}{step:(A->Option β)->A->Option β}(Inv:A->Prop)(m:A->Nat)(h:∀ (rec:A->Option β) (a:A),Inv a->(∀ r,Inv r->m r<m a->Tot (rec r) Q)->Tot (step rec a) Q):∀ (k:Nat) (a:A),m a<k->Inv a->Tot (ae step k a) Q:=by
 intro k;induction k with
 |zero=>intro a y;omega
 |succ k z =>
  intro a y I;exact h (ae step k) a I λr u H=>z r (by omega) u
end
theorem Ret.tot {o:Option RB}{P:Prop}(h:Ret o P):Tot o λv=>(v.1.1=true<->P):=by
 obtain⟨b,e,r⟩:=h;exact⟨_,e,r⟩
section
variable {α β:Type} {Q:β->Prop}
theorem Tot.cat {x y:ByteArray}{k:ByteArray->Option β}{a b:Nat}(u:x.size<=a)(H:y.size<=b)(h:∀ z:ByteArray,z.size<=a+b->Tot (k z) Q)(r:a+b<=4611686018427387904:=by omega):Tot (aV x y k) Q:=by
 unfold aV;rw[decide_eq_true (by omega)];exact h _ (by rw[ByteArray.size_append];omega)
theorem Tot.fit {a b c:Nat}{x y:Option β}(h:Tot x Q)(u:c<=1000:=by omega)(r:a+b<=2097152:=by omega):Tot (bif decide ((a+b)*c<=ak) then x else y) Q:=by
 have:=Cl r u;rw[decide_eq_true (by unfold ak;omega)];exact h
theorem Tot.ix2 {xs:List α}{i:Int}{g:α->Option β}(r:0<=i)(u:i<xs.length)(k:∀ y∈xs,idx xs i=some y->Tot (g y) Q):Tot ((idx xs i).bind λ_=>(idx xs ((BJ i:Nat):Int)).bind g) Q :=
 Tot.ix r u λy z e=>by rw[Int.toNat_of_nonneg r,e];exact k y z e
end
theorem fK (s:ByteArray):s.data.toList.length=s.size:=Array.length_toList
theorem iW (xs:List Int):(gH xs).size=xs.length:=by
 unfold gH;show (List.toArray _).size=_;rw[List.size_toArray,BU]
theorem rj (s:ByteArray):(eo s).length=s.size:=by
 unfold eo;rw[BU];exact fK s
theorem dec_t:∀ (d k:Nat) (n:Int),0<=n->n<10 ^ (d+1)->n<=1000000000->d<=100->d<k->Tot (Q0.f k (n,())) λr=>r.1.1.size<=d+1:=by
 intro d;induction d with
 |zero =>
  intro k n H u R M I;obtain⟨k,rfl⟩:∃ m,k=m+1:=⟨k-1,by omega⟩;show Tot (Q0.step (Q0.f k) (n,())) _;simp only[Q0.step];refine Tot.not (decide_eq_false (show ¬ n< -9223372036854775807 by omega)) (Tot.not (decide_eq_false (show ¬ n<0 by omega)) (Tot.must (decide_eq_true (show n<10 by exact u)) (Tot.ret ?_)));show (gH _).size<=1;rw[iW];exact BW _
 |succ d X =>
  intro k n H u R M I;obtain⟨k,rfl⟩:∃ m,k=m+1:=⟨k-1,by omega⟩;show Tot (Q0.step (Q0.f k) (n,())) _;simp only[Q0.step];refine Tot.not (decide_eq_false (show ¬ n< -9223372036854775807 by omega)) (Tot.not (decide_eq_false (show ¬ n<0 by omega)) (Tot.cnd (λ_=>Tot.ret ?_) λh=>?_))
  ·show (gH _).size<=_;rw[iW];exact Nat.succ_le_succ (BX _)
  ·have h:¬ n<10:=of_decide_eq_false h;have e:Co n 10=n / 10:=by rw[CF H]
   have y:(10:Int) ^ (d+1+1)=10 ^ (d+1)*10:=Int.pow_succ ..;have Y:n / 10<10 ^ (d+1):=Int.ediv_lt_of_lt_mul (by omega) (by rw[<- y];exact u);rw[e,aD (by omega) (by omega)];refine Tot.bind (X k (n / 10) (by omega) Y (by omega) (by omega) (by omega)) λv O=>Tot.cat O (b:=1) (by rw[iW];exact BW _) (λz J=>Tot.ret J) (by omega)
theorem lj (K:Nat)(n:Int)(u:0<=n)(z:n<=999999)(y:1048577<K):Tot (Q0.f K (n,())) λr=>r.1.1.size<=6 :=
 dec_t 5 K n u (by show n<1000000;omega) (by omega) (by omega) (by omega)
theorem tp (K:Nat)(i:Int)(u:0<=i)(y:i<=4):Tot (Q24.f K (i,())) λr=>r.1.1.size<=7:=by
 have:i=0\/i=1\/i=2\/i=3\/i=4:=by omega
 rcases this with rfl|rfl|rfl|rfl|rfl <;> exact⟨_,rfl,by decide⟩
theorem tq (K:Nat)(i:Int)(u:0<=i)(y:i<=6):Tot (Q20.f K (i,())) λr=>r.1.1.size<=4:=by
 have:i=0\/i=1\/i=2\/i=3\/i=4\/i=5\/i=6:=by omega
 rcases this with rfl|rfl|rfl|rfl|rfl|rfl|rfl <;> exact⟨_,rfl,by decide⟩
theorem zc (K:Nat)(t:List ag)(I:az t)(hK:1048577<K):Tot (Q28.f K (t,())) λr=>r.1.1.size<=240:=by
 have hl:=iS I.2 (λg hg=>(I.1 g hg).1);refine Tot.iter (step:=λrec a=>Q28.s0 K (t,()) rec a) (λa=>0<=a.2/\a.2<=t.length/\(a.1.size:Int)<=30*a.2) (λa=>t.length-a.2.toNat) ?_ K _ (by show t.length-BJ 0<K;omega) ⟨by show (0:Int)<=0;omega,by show (0:Int)<=_;omega,by show (0:Int)<=30*0;omega⟩;rintro rec ⟨s,i⟩ ⟨h0,h1,h2⟩ ih;simp only at h0 h1 h2 ih ⊢;simp only[Q28.s0];refine Tot.cnd (λh=>?_) λh=>?_
 ·have h:=of_decide_eq_true h;obtain⟨n,rfl⟩:=BL h0;have hn:n<t.length:=by omega
  obtain⟨⟨f1,f2⟩,⟨f3,f4⟩,f5,f6⟩:=I.1 t[n] (BI hn);rw[af hn,ar n (by omega)];simp only[BG];have go:∀ z:ByteArray,z.size<=s.size+29->Tot (rec (z,((n+1:Nat):Int))) λr=>r.1.1.size<=240:=λz hz=>ih _ ⟨by show (0:Int)<=((n+1:Nat):Int);omega,by show ((n+1:Nat):Int)<=_;omega,by show (z.size:Int)<=30*((n+1:Nat):Int);omega⟩ (by show t.length-BJ ((n+1:Nat):Int)<t.length-BJ (n:Int);omega)
  have body:∀ O:ByteArray,O.size<=s.size+1->Tot ((Q0.f K (t[n].1,())).bind λy3=>aV O y3.1.1 λy4=>aV y4 (ByteArray.mk #[58]) λy5=>(Q0.f K (t[n].2.1,())).bind λy7=>aV y5 y7.1.1 λy8=>aV y8 (ByteArray.mk #[58]) λy9=>(Q24.f K (t[n].2.2.1,())).bind λY=>aV y9 Y.1.1 λu=>bif t[n].2.2.2 then (aV u (ByteArray.mk #[42]) λZ=>rec (Z,((n+1:Nat):Int))) else (rec (u,((n+1:Nat):Int)))) λr=>r.1.1.size<=240:=λO X =>
   Tot.bind (lj K _ f1 (by omega) hK) λv1 s1=>Tot.cat X s1 λz1 M=>Tot.cat M (b:=1) (by decide) λz2 y =>
   Tot.bind (lj K _ f3 (by omega) hK) λv2 s2=>Tot.cat y s2 λz3 J=>Tot.cat J (b:=1) (by decide) λz4 R =>
   Tot.bind (tp K _ (by omega) f6) λv3 s3=>Tot.cat R s3 λz5 H =>
   Tot.cnd (λ_=>Tot.cat H (b:=1) (by decide) λz6 a0=>go z6 (by omega)) λ_=>go z5 (by omega)
  exact Tot.cnd (λ_=>Tot.cat (BW _) (b:=1) (by decide) λz hz=>body z hz) λ_=>body s (by omega)
 ·have h:=of_decide_eq_false h;exact Tot.ret (by show s.size<=240;omega)
theorem om (K:Nat)(t:List ag)(H:t.length<=1048576)(u:1048577<K):Tot (Q29.f K (t,())) λr=>r.1.1.size<=240:=by
 simp only[Q29.f];refine Tot.bind (gq K t H u).tot λv z=>Tot.cnd (λ_=>Tot.ret (by show (0:Nat)<=240;omega)) λh=>?_
 have y:=z.1 (by simpa using h);exact Tot.cnd (λ_=>Tot.ret (by show (1:Nat)<=240;omega)) λ_=>Tot.bind (zc K t y u) λv h=>Tot.ret h
theorem pP (K:Nat)(n:Int)(H:-999999<=n)(I:n<=999999)(y:1048577<K):Tot (Q34.f K (n,())) λr=>r.1.1.size<=7:=by
 simp only[Q34.f];refine Tot.cnd (λh=>?_) λh=>?_
 ·have h:n<0:=of_decide_eq_true h;rw[aD (by omega) (by omega)];exact Tot.bind (lj K _ (by omega) (by omega) y) λv s=>Tot.cat (a:=1) (by decide) s λz u=>Tot.ret u
 ·have h:¬ n<0:=of_decide_eq_false h;exact Tot.bind (lj K _ (by omega) (by omega) y) λv s=>Tot.cat (a:=1) (by decide) s λz u=>Tot.ret u
theorem zd (K:Nat)(w:ap)(R:iQ w)(y:1048577<K):Tot (Q35.f K (w,())) λr=>r.1.1.size<=400:=by
 obtain⟨_,⟨a1,H⟩,⟨M,b2⟩,⟨z,c2⟩,⟨O,d2⟩,⟨Y,e2⟩,⟨⟨x1,x2⟩,⟨y1,y2⟩,⟨X,z2⟩,⟨u1,Z⟩⟩,I,_⟩:=R;have J:=cK I;simp only[Q35.f];have u:(ByteArray.mk #[32]).size<=1:=by decide
 refine Tot.cnd (λ_=>?_) λ_=>?_ <;>
 exact Tot.cat (a:=3) (by decide) u λ_ h=>Tot.bind (tq K _ (by omega) H) λ_ s=>Tot.cat h s λ_ h=>Tot.cat h u λ_ h =>
  Tot.bind (lj K _ M (by omega) y) λ_ s=>Tot.cat h s λ_ h=>Tot.cat h u λ_ h =>
  Tot.bind (lj K _ z (by omega) y) λ_ s=>Tot.cat h s λ_ h=>Tot.cat h u λ_ h =>
  Tot.bind (lj K _ O (by omega) y) λ_ s=>Tot.cat h s λ_ h=>Tot.cat h u λ_ h =>
  Tot.bind (lj K _ Y (by omega) y) λ_ s=>Tot.cat h s λ_ h=>Tot.cat h u λ_ h =>
  Tot.bind (pP K _ (by show -999999<=(ap.coord w).1;omega) (by show (ap.coord w).1<=999999;omega) y) λ_ s=>Tot.cat h s λ_ h=>Tot.cat h u λ_ h =>
  Tot.bind (pP K _ (by show -999999<=(ap.coord w).2.1;omega) (by show (ap.coord w).2.1<=999999;omega) y) λ_ s=>Tot.cat h s λ_ h=>Tot.cat h u λ_ h =>
  Tot.bind (lj K _ X (by show (ap.coord w).2.2.1<=999999;omega) y) λ_ s=>Tot.cat h s λ_ h=>Tot.cat h u λ_ h =>
  Tot.bind (lj K _ (by show 0<=(ap.coord w).2.2.2;omega) (by show (ap.coord w).2.2.2<=999999;omega) y) λ_ s=>Tot.cat h s λ_ h=>Tot.cat h u λ_ h =>
  Tot.bind (om K _ J y) λ_ s=>Tot.cat h s λ_ h=>Tot.ret (BZ h (by decide))
theorem ze (K:Nat)(n:Int)(I:1048577<K):Tot (Q37.f K (n,())) λ_=>True:=by
 refine Tot.iter (step:=λrec a=>Q37.s0 K (n,()) rec a) (λa=>0<=a.2/\a.2<=8) (λa=>8-a.2.toNat) ?_ K _ (by show 8-BJ 0<K;omega) ⟨by show (0:Int)<=0;omega,by show (0:Int)<=8;omega⟩;rintro rec ⟨s,i⟩ ⟨r,H⟩ y;simp only at r H y ⊢;simp only[Q37.s0];obtain⟨i,rfl⟩:=BL r;refine Tot.cnd (λh=>?_) λ_=>Tot.ret trivial
 have h:=of_decide_eq_true h;rw[ar i (by omega)];have u:∀ z:Int,Tot (rec (z,((i+1:Nat):Int))) λ_=>True:=λz=>y _ ⟨by show (0:Int)<=((i+1:Nat):Int);omega,by show ((i+1:Nat):Int)<=8;omega⟩ (by show 8-BJ ((i+1:Nat):Int)<8-BJ (i:Int);omega)
 exact Tot.cnd (λ_=>u _) λ_=>u _
theorem Al (K:Nat)(s:ByteArray)(J:s.size<=1000000)(H:1048577<K):Tot (Q38.f K (s,())) λ_=>True:=by
 refine Tot.iter (step:=λrec a=>Q38.s0 K (s,()) rec a) (λa=>0<=a.2/\a.2<=s.size) (λa=>s.size-a.2.toNat) ?_ K _ (by show s.size-BJ 0<K;omega) ⟨by show (0:Int)<=0;omega,by show (0:Int)<=_;omega⟩;rintro rec ⟨z,i⟩ ⟨r,I⟩ u;simp only at r I u ⊢;simp only[Q38.s0];obtain⟨i,rfl⟩:=BL r;refine Tot.cnd (λh=>?_) λ_=>Tot.ret trivial
 have h:=of_decide_eq_true h;rw[ar i (by omega)];exact Tot.ix r (by rw[fK];exact h) λy _ _=>Tot.bind (ze K _ H) λv _=>u _ ⟨by show (0:Int)<=((i+1:Nat):Int);omega,by show ((i+1:Nat):Int)<=_;omega⟩ (by show s.size-BJ ((i+1:Nat):Int)<s.size-BJ (i:Int);omega)
theorem hex_t (K:Nat)(n:Int)(R:1048577<K):Tot (Q36.f K (n,())) λr=>r.1.1.size<=8:=by
 refine Tot.iter (step:=λrec a=>Q36.s0 K (n,()) rec a) (λa=>-1<=a.2/\a.2<=7/\a.1.length=7-a.2) (λa=>(a.2+1).toNat) ?_ K _ (by show BJ 8<K;omega) ⟨by show (-1:Int)<=7;omega,by show (7:Int)<=7;omega,by show (0:Int)=7-7;omega⟩;rintro rec ⟨z,i⟩ ⟨I,J,M⟩ u;simp only at I J M u ⊢;simp only[Q36.s0];refine Tot.cnd (λh=>?_) λh=>?_
 ·have h:=of_decide_eq_true h;rw[aD (n:=4*i) (by omega) (by omega),aD (n:=i-1) (by omega) (by omega)];obtain⟨H,O⟩:=kz (a:=B7 n (2 ^ min (BJ (4*i)) 64)) (m:=15) (by omega);refine Tot.not (decide_eq_false (by omega)) (Tot.ix H (Int.lt_of_le_of_lt O (by decide)) λy _ _=>Tot.fit ?_ (by omega) (by simp only[BM,BQ];omega));exact u _ ⟨by show -1<=i-1;omega,by show i-1<=7;omega,by show ((z++[_]).length:Int)=7-(i-1);rw[BV,Cc];omega⟩ (by show BJ (i-1+1)<BJ (i+1);omega)
 ·have h:=of_decide_eq_false h;refine Tot.ret ?_;show (gH z).size<=8;rw[iW];omega
theorem oo (K:Nat)(w:ap)(J:(ap.table w).length<=1048576)(u:1048577<K):Tot (Q39.f K (w,())) λr=>r.1.1.size<=409/\(¬ iQ w->r.1.1=ByteArray.mk #[]):=by
 simp only[Q39.f];refine Tot.bind (sQ K w J u).tot λv M=>Tot.cnd (λ_=>Tot.ret ⟨by show (0:Nat)<=409;omega,λ_=>rfl⟩) λh=>?_
 have H:=M.1 (by simpa using h);exact Tot.bind (zd K w H u) λb I=>Tot.cat I (b:=1) (by decide) λz y=>Tot.bind (Al K _ (by omega) u) λs _=>Tot.bind (hex_t K _ u) λx O=>Tot.cat y O λz y=>Tot.ret ⟨y,λh=>absurd H h⟩
theorem vZ (K:Nat)(s:ByteArray)(c:Int)(hs:s.size<=100000)(hK:1048577<K):Tot (Q19.f K (s,c,())) λr=>r.1.1.length<=s.size+1/\∀ p∈r.1.1,p.size<=s.size:=by
 have H:∀ i j:Nat,(s.extract i j).size<=s.size:=λi j=>by rw[Cp];omega
 refine Tot.iter (step:=λrec a=>Q19.s0 K (s,c,()) rec a) (λa=>0<=a.2.1/\a.2.1<=a.2.2/\a.2.2<=s.size/\a.1.length<=a.2.2/\∀ p∈a.1,p.size<=s.size) (λa=>s.size-a.2.2.toNat) ?_ K _ (by show s.size-BJ 0<K;omega) ⟨by show (0:Int)<=0;omega,by show (0:Int)<=0;omega,by show (0:Int)<=_;omega,by show (0:Int)<=0;omega,λp M=>by cases M⟩;rintro rec ⟨u,from_,i⟩ ⟨z,J,X,Y,O⟩ R;simp only at z J X Y O R ⊢;simp only[Q19.s0];obtain⟨i,rfl⟩:=BL (Cv z J);have I:∀ x:ByteArray,x.size<=s.size->∀ p∈u++[x],p.size<=s.size:=λx Z p M=>by
  rcases CQ.1 M with h|h
  ·exact O p h
  ·rw[CG.1 h];exact Z
 refine Tot.cnd (λh=>?_) λh=>?_
 ·have h:=of_decide_eq_true h;rw[ar i (by omega)];refine Tot.ix (Cv z J) (by rw[fK];exact h) λy _ _=>Tot.cnd (λ_=>Tot.must (by rw[decide_eq_true z,decide_eq_true J,decide_eq_true X];rfl) (Tot.fit (R _ ⟨?_,?_,?_,?_,I _ (H _ _)⟩ ?_) (by omega) (by simp only[BM,BQ];omega))) λ_=>R _ ⟨z,?_,?_,?_,O⟩ ?_
  ·show (0:Int)<=((i+1:Nat):Int);omega
  ·show ((i+1:Nat):Int)<=((i+1:Nat):Int);omega
  ·show ((i+1:Nat):Int)<=s.size;omega
  ·show ((u++[_]).length:Int)<=((i+1:Nat):Int);rw[BV,Cc];omega
  ·show s.size-BJ ((i+1:Nat):Int)<s.size-BJ (i:Int);omega
  ·show from_<=((i+1:Nat):Int);omega
  ·show ((i+1:Nat):Int)<=s.size;omega
  ·show (u.length:Int)<=((i+1:Nat):Int);omega
  ·show s.size-BJ ((i+1:Nat):Int)<s.size-BJ (i:Int);omega
 ·refine Tot.must (by rw[decide_eq_true z,decide_eq_true (by omega),decide_eq_true (CM _)];rfl) (Tot.fit (Tot.ret ⟨?_,I _ (H _ _)⟩) (by omega) (by simp only[BM,BQ];omega));show (u++[_]).length<=_;rw[BV,Cc];omega
theorem ke (K:Nat)(s:ByteArray)(X:s.size<=100000)(R:1048577<K):Tot (Q21.f K (s,())) λ_=>True:=by
 simp only[Q21.f,Q21.pre];have r:((s.size:Int)<=6)->Tot (Q21.l0 K (s,()) (0,0)) λ_=>True:=λY=>by
  refine Tot.iter (step:=λrec a=>Q21.s0 K (s,()) rec a) (λa=>0<=a.2/\a.2<=s.size) (λa=>s.size-a.2.toNat) ?_ K _ (by show s.size-BJ 0<K;omega) ⟨by show (0:Int)<=0;omega,by show (0:Int)<=_;omega⟩;rintro rec ⟨z,i⟩ ⟨u,M⟩ J;simp only at u M J ⊢;simp only[Q21.s0];obtain⟨i,rfl⟩:=BL u;refine Tot.cnd (λh=>?_) λ_=>Tot.ret trivial
  have h:=of_decide_eq_true h;have I:((i:Nat):Int)<s.data.toList.length:=by rw[fK];exact h
  rw[ar i (by omega)];exact Tot.ix u I λy _ _=>Tot.cnd (λ_=>Tot.ret trivial) λ_=>Tot.ix u I λy _ _=>Tot.cnd (λ_=>Tot.ret trivial) λ_=>Tot.ix u I λy _ _=>J _ ⟨by show (0:Int)<=((i+1:Nat):Int);omega,by show ((i+1:Nat):Int)<=_;omega⟩ (by show s.size-BJ ((i+1:Nat):Int)<s.size-BJ (i:Int);omega)
 refine Tot.bind (cC K _ _ _).tot λv O=>Tot.cnd (λ_=>Tot.ret trivial) λh=>?_
 have H:=O.1 (by simpa using h);exact Tot.cnd (λh=>Tot.ix (by omega) (by rw[fK];have:=of_decide_eq_true h;omega) λy _ _=>Tot.cnd (λ_=>Tot.ret trivial) λ_=>r H.2) λ_=>r H.2
theorem u6 (K:Nat)(s:ByteArray)(J:s.size<=100000)(H:1048577<K):Tot (Q22.f K (s,())) λ_=>True:=by
 simp only[Q22.f];refine Tot.cnd (λ_=>Tot.ret trivial) λh=>?_
 have h:=of_decide_eq_false h;have u:(0:Int)<s.data.toList.length:=by rw[fK];omega
 have r:Tot (bif decide ((0:Int)<=1)&&decide ((1:Int)<=(s.size:Int))&&decide ((s.size:Int)<=(s.size:Int)) then ((Q21.f K (s.extract (BJ 1) (BJ (s.size:Int)),())).bind λz=>bif decide (z.1.1<0) then (some (((-1),false,()),())) else (bif s.toList==(ByteArray.mk #[45,48]).toList then (some (((-1),false,()),())) else ((idx s.data.toList 0).bind λI=>bif (I.toNat:Int)==45 then (some ((wr .i64 (0-z.1.1),true,()),())) else (some ((z.1.1,true,()),()))))) else none) λ (_:(Int×Bool×Unit)×Unit)=>True :=
  Tot.must (by rw[decide_eq_true (by omega:(0:Int)<=1),decide_eq_true (by omega:(1:Int)<=s.size),decide_eq_true (CM _)];rfl) (Tot.bind (ke K _ (by rw[Cp];omega) H) λv _=>Tot.cnd (λ_=>Tot.ret trivial) λ_=>Tot.cnd (λ_=>Tot.ret trivial) λ_=>Tot.ix (by omega) u λy _ _=>Tot.cnd (λ_=>Tot.ret trivial) λ_=>Tot.ret trivial)
 exact Tot.ix (by omega) u λy _ _=>Tot.cnd (λ_=>Tot.ix (by omega) u λy _ _=>Tot.cnd (λ_=>Tot.ret trivial) λ_=>r) λ_=>r
theorem Am (K:Nat)(s:ByteArray)(hs:s.size<=100000)(M:1048577<K):Tot (Q25.f K (s,())) λ_=>True:=by
 simp only[Q25.f,Q25.pre];have H:∀ (J:List ByteArray) (n1 n2:Int) (b:Bool),J.length=3->Tot (Q25.l0 K (s,()) (J,1,n1,n2,0,b)) λ_=>True:=λJ n1 n2 b hx=>by
  refine Tot.iter (step:=λrec a=>Q25.s0 K (s,()) rec a) (λa=>a.1.length=3/\1<=a.2.1/\a.2.1<=5) (λa=>5-a.2.1.toNat) ?_ K _ (by show 5-BJ 1<K;omega) ⟨hx,by show (1:Int)<=1;omega,by show (1:Int)<=5;omega⟩;rintro rec ⟨ys,i,m1,m2,m3,m4⟩ ⟨h0,h1,h2⟩ ih;simp only at h0 h1 h2 ih ⊢;simp only[Q25.s0];refine Tot.cnd (λh=>?_) λ_=>Tot.bind (oT K _).tot λ_ _=>Tot.ret trivial
  have h:=of_decide_eq_true h;rw[aD (n:=i+1) (by omega) (by omega)];have go:∀ m:Int,Tot (rec (ys,i+1,m1,m2,m,m4)) λ_=>True:=λm=>ih _ ⟨h0,by show 1<=i+1;omega,by show i+1<=5;omega⟩ (by show 5-BJ (i+1)<5-BJ i;omega)
  exact Tot.bind (tp K i (by omega) h) λv _=>Tot.ix2 (by omega) (by omega) λy _ _=>Tot.cnd (λ_=>go _) λ_=>go _
 have u:∀ (z:ByteArray) (b:Bool),z.size<=s.size->Tot ((Q19.f K (z,58,())).bind λr=>bif (BH r.1.1:Int) != 3 then (some (((0,(0,(0,b))),false,()),())) else ((idx r.1.1 0).bind λ_=>(idx r.1.1 (BJ 0:Nat)).bind λO=>(Q21.f K (O,())).bind λY=>(idx r.1.1 1).bind λ_=>(idx r.1.1 (BJ 1:Nat)).bind λX=>(Q21.f K (X,())).bind λI=>Q25.l0 K (s,()) (r.1.1,1,Y.1.1,I.1.1,0,b))) λ_=>True:=λz b hz =>
  Tot.bind (vZ K z 58 (by omega) M) λv ⟨_,Z⟩=>Tot.cnd (λ_=>Tot.ret trivial) λh=>by
   have h3:(v.1.1.length:Int)=3:=by simpa using h
   exact Tot.ix2 (by omega) (by omega) λy R _=>Tot.bind (ke K y (by have:=Z y R;omega) M) λ_ _=>Tot.ix2 (by omega) (by omega) λy R _=>Tot.bind (ke K y (by have:=Z y R;omega) M) λ_ _=>H _ _ _ _ (by omega)
 refine Tot.cnd (λh=>?_) λ_=>u s false (BW _)
 have h:=of_decide_eq_true h;rw[aD (n:=(s.size:Int)-1) (by omega) (by omega)];exact Tot.ix (by omega) (by rw[fK];omega) λy _ _=>Tot.cnd (λ_=>Tot.must (by simp only[CN,decide_eq_true_eq];omega) (u _ true (by rw[Cp];omega))) λ_=>u s false (BW _)
theorem An (K:Nat)(s:ByteArray)(O:s.size<=100000)(I:1048577<K):Tot (Q26.f K (s,())) λr=>r.1.1.length<=100001:=by
 simp only[Q26.f,Q26.pre];refine Tot.cnd (λ_=>Tot.ret (by show (0:Nat)<=_;omega)) λ_=>Tot.bind (vZ K s 44 O I) ?_
 rintro⟨⟨xs,⟨⟩⟩,⟨⟩⟩ ⟨hl,hp⟩;dsimp only at hl hp ⊢;refine Tot.iter (step:=λrec a=>Q26.s0 K (s,()) rec a) (λa=>a.2.1=xs/\0<=a.2.2/\a.2.2<=xs.length/\(a.1.length:Int)<=a.2.2) (λa=>xs.length-a.2.2.toNat) ?_ K _ (by show xs.length-BJ 0<K;omega) ⟨rfl,by show (0:Int)<=0;omega,by show (0:Int)<=_;omega,by show (0:Int)<=0;omega⟩;rintro rec ⟨u,H,i⟩ ⟨rfl,z,M,R⟩ J;simp only at z M R hl hp J ⊢;simp only[Q26.s0];obtain⟨i,rfl⟩:=BL z;refine Tot.cnd (λh=>?_) λ_=>Tot.ret (by show u.length<=_;omega)
 have h:=of_decide_eq_true h;rw[ar i (by omega)];exact Tot.ix2 z h λy X _=>Tot.bind (Am K y (by have:=hp y X;omega) I) λv _=>Tot.cnd (λ_=>Tot.ret (by show (0:Nat)<=_;omega)) λ_=>Tot.fit (J _ ⟨rfl,by show (0:Int)<=((i+1:Nat):Int);omega,by show ((i+1:Nat):Int)<=_;omega,by show ((u++[_]).length:Int)<=((i+1:Nat):Int);rw[BV,Cc];omega⟩ (by show H.length-BJ ((i+1:Nat):Int)<H.length-BJ (i:Int);omega)) (by omega) (by simp only[BM,BQ];omega)
theorem Ao (K:Nat)(s:ByteArray)(z:s.size<=100000)(u:1048577<K):Tot (Q30.f K (s,())) λr=>r.1.1.length<=100001:=by
 simp only[Q30.f];exact Tot.bind (An K s z u) λv y=>Tot.cnd (λ_=>Tot.ret (by show (0:Nat)<=_;omega)) λ_=>Tot.bind (om K _ (by omega) u) λx _=>Tot.cnd (λ_=>Tot.ret (by show (0:Nat)<=_;omega)) λ_=>Tot.ret y
theorem pQ (K:Nat)(s:ByteArray)(R:s.size<=100000)(H:1048577<K):Tot (Q40.f K (s,())) λr=>r.1.2.1=true->iQ r.1.1:=by
 simp only[Q40.f,Q40.pre];refine Tot.bind (vZ K s 32 R H) ?_;rintro⟨⟨xs,⟨⟩⟩,⟨⟩⟩ ⟨hl,hp⟩;dsimp only at hl hp ⊢;refine Tot.cnd (λ_=>Tot.ret λh=>by cases h) λ_=>Tot.cnd (λ_=>Tot.ret λh=>by cases h) λh=>?_
 have M:(xs.length:Int)=12:=by simpa using h
 have u:∀ y∈xs,y.size<=100000:=λy z=>BZ (hp y z) R
 have I:∀ p:Int,Tot (Q40.l0 K (s,()) (xs,1,p,0)) λr=>r.1.2.1=true->iQ r.1.1:=λp=>by
  refine Tot.iter (step:=λrec a=>Q40.s0 K (s,()) rec a) (λa=>a.1=xs/\1<=a.2.1/\a.2.1<=7) (λa=>7-a.2.1.toNat) ?_ K _ (by show 7-BJ 1<K;omega) ⟨rfl,by show (1:Int)<=1;omega,by show (1:Int)<=7;omega⟩;rintro rec ⟨ys,i,p,k⟩ ⟨rfl,O,h2⟩ Y;simp only at O h2 hl M u Y ⊢;simp only[Q40.s0];refine Tot.cnd (λh=>?_) λ_=>?_
  ·have h:=of_decide_eq_true h;rw[aD (n:=i+1) (by omega) (by omega)];have Z:∀ m:Int,Tot (rec (ys,i+1,p,m)) λr=>r.1.2.1=true->iQ r.1.1:=λm=>Y _ ⟨rfl,by show 1<=i+1;omega,by show i+1<=7;omega⟩ (by show 7-BJ (i+1)<7-BJ i;omega)
   exact Tot.bind (tq K i (by omega) h) λv _=>Tot.ix2 (by omega) (by omega) λy _ _=>Tot.cnd (λ_=>Z _) λ_=>Z _
  ·refine Tot.ix2 (by omega) (by omega) λy z _=>Tot.bind (ke K y (u y z) H) λ_ _=>Tot.ix2 (by omega) (by omega) λy z _=>Tot.bind (ke K y (u y z) H) λ_ _=>Tot.ix2 (by omega) (by omega) λy z _=>Tot.bind (ke K y (u y z) H) λ_ _=>Tot.ix2 (by omega) (by omega) λy z _=>Tot.bind (ke K y (u y z) H) λ_ _ =>
    Tot.ix2 (by omega) (by omega) λy z _=>Tot.bind (u6 K y (u y z) H) λ_ _=>Tot.ix2 (by omega) (by omega) λy z _=>Tot.bind (u6 K y (u y z) H) λ_ _=>Tot.ix2 (by omega) (by omega) λy z _=>Tot.bind (Ao K y (u y z) H) λt ht=>Tot.ix2 (by omega) (by omega) λy z _=>Tot.bind (ke K y (u y z) H) λ_ _=>Tot.ix2 (by omega) (by omega) λy z _=>Tot.bind (ke K y (u y z) H) λ_ _ =>
    Tot.cnd (λ_=>Tot.ret λh=>by cases h) λ_=>Tot.cnd (λ_=>Tot.ret λh=>by cases h) λ_=>Tot.cnd (λ_=>Tot.ret λh=>by cases h) λ_=>Tot.bind (oo K _ (by show t.1.1.length<=1048576;omega) H) λx ⟨_,hx⟩=>Tot.cnd (λ_=>Tot.ret λh=>by cases h) λJ=>Tot.ret λ_=>?_
   refine Classical.byContradiction λhn=>?_
   rw[hx hn]at J;have X:(ByteArray.mk #[]).toList=s.toList:=by
    have:((ByteArray.mk #[]).toList != s.toList)=false:=J;simpa using this
   rw[DG,DG]at X;have h0:=congrArg BH X;rw[fK,fK]at h0;have O:(ByteArray.mk #[]).size=0:=rfl;omega
 exact Tot.ix2 (by omega) (by omega) λy _ _=>Tot.cnd (λ_=>I 2) λ_=>I 1
def Rt (v r:Nat):Prop:=r*r<=v/\v<(r+1)*(r+1)
theorem Bh (K:Nat)(v:Nat)(hv:v<1500000001*1500000001)(hK:1048577<K):∃ r,Rt v r/\Q66.f K ((v:Int),())=some (((r:Int),()),()):=by
 have I:∀ (e k l h:Nat),h-l<2 ^ e->e<k->l<=h->h<=1500000000->l*l<=v->v<(h+1)*(h+1)->∃ r,Rt v r/\ae (λrec a=>Q66.s0 K ((v:Int),()) rec a) k ((l:Int),(h:Int))=some (((r:Int),()),()):=by
  intro e;induction e with
  |zero =>
   intro k l h J Z H M y u;obtain⟨k,rfl⟩:∃ z,k=z+1:=⟨k-1,by omega⟩;have:l=h:=by omega
   subst this;refine⟨l,⟨y,u⟩,?_⟩;show Q66.s0 K _ _ _=_;simp only[Q66.s0];rw[decide_eq_false (by omega)];rfl
  |succ e X =>
   intro k l h J Z H M y u;obtain⟨k,rfl⟩:∃ z,k=z+1:=⟨k-1,by omega⟩;show ∃ r,Rt v r/\Q66.s0 K _ _ _=_;simp only[Q66.s0];by_cases hl:l<h
   ·rw[decide_eq_true (show (l:Int)<(h:Int) by omega)];have e1:wr .i64 ((l:Int)+(h:Int))=(l:Int)+h:=aD (by omega) (by omega);have e2:wr .i64 ((l:Int)+(h:Int)+1)=((l+h+1:Nat):Int):=(aD (by omega) (by omega)).trans (by omega);have e3:Co ((l+h+1:Nat):Int) 2=(((l+h+1) / 2:Nat):Int):=by
     rw[CF (by omega)];omega
    rw[e1,e2,e3];have hm:l<(l+h+1) / 2/\(l+h+1) / 2<=h:=by omega
    have R:h-(l+h+1) / 2<2 ^ e/\(l+h+1) / 2-1-l<2 ^ e:=by
     rw[Nat.pow_succ]at J;omega
    generalize (l+h+1) / 2=m at *;have e4:wr .i64 (m:Int)=m:=aD (by omega) (by omega);have e5:Co (v:Int) (m:Int)=((v / m:Nat):Int):=by
     rw[CF (by omega)];rfl
    have a1:v / m<=v:=Nat.div_le_self _ _;have Y:m<=v / m<->m*m<=v:=Nat.le_div_iff_mul_le (by omega);generalize v / m=q at *;have e6:wr .i64 (q:Int)=(q:Int):=aD (by omega) (by omega);rw[e4,e5,e6,decide_eq_false (show ¬ (m:Int)=0 by omega)];simp only[cond_true,cond_false];by_cases O:m<=q
    ·rw[decide_eq_true (by omega)];exact X k m h R.1 (by omega) (by omega) M (Y.1 O) u
    ·rw[decide_eq_false (by omega)];have a0:¬ m*m<=v:=λh4=>O (Y.2 h4)
     have e7:wr .i64 ((m:Int)-1)=((m-1:Nat):Int):=eX m (by omega) (by omega);rw[e7];exact X k l (m-1) R.2 (by omega) (by omega) (by omega) y (by rw[show m-1+1=m by omega];omega)
   ·have:l=h:=by omega
    subst this;refine⟨l,⟨y,u⟩,?_⟩;rw[decide_eq_false (by omega)];rfl
 exact I 31 K 0 1500000000 (by decide) (by omega) (by omega) (by omega) (by omega) hv
def iX (x:Int):Int:=if x< -1000000000 then -1000000000 else if x>1000000000 then 1000000000 else x
theorem qC (K:Nat)(x:Int):Q65.f K (x,())=some ((iX x,()),()):=by
 simp only[Q65.f,Q62.f,iX];by_cases h:x< -1000000000
 ·rw[decide_eq_true h,if_pos h];rfl
 ·rw[decide_eq_false h,if_neg h];by_cases r:x>1000000000
  ·rw[decide_eq_true r,if_pos r];rfl
  ·rw[decide_eq_false r,if_neg r];rfl
theorem tr (x:Int):-1000000000<=iX x/\iX x<=1000000000:=by
 unfold iX;split
 ·omega
 ·split <;> omega
theorem zL {a:Int}(h:-1000000000<=a/\a<=1000000000):0<=a*a/\a*a<=1000000000000000000:=by
 have e:∃ b:Nat,b<=1000000000/\a*a=((b*b:Nat):Int):=by
  refine⟨a.natAbs,by omega,?_⟩;exact (Int.natAbs_mul_self).symm
 obtain⟨b,r,u⟩:=e;have:=Cl r r;omega
theorem xG (K:Nat)(x y:Int)(u:1048577<K):Tot (Q67.f K (x,y,())) λ_=>True:=by
 simp only[Q67.f];rw[qC K x,qC K y];simp only[BG];have M:=zL (tr x);have O:=zL (tr y);generalize iX x*iX x=a at *;generalize iX y*iX y=b at *;have J:wr .i64 a=a:=aD (by omega) (by omega);have H:wr .i64 b=b:=aD (by omega) (by omega);have I:wr .i64 (a+b)=(((a+b).toNat:Nat):Int):=(aD (by omega) (by omega)).trans (by omega);rw[J,H,I];obtain⟨r,_,z⟩:=Bh K (a+b).toNat (by omega) u;rw[z];simp only[BG];rw[qC K r];exact⟨_,rfl,trivial⟩
theorem Bi (K:Nat)(c d:du)(r:1048577<K):Tot (Q68.f K (c,d,())) λ_=>True:=by
 simp only[Q68.f];exact Tot.bind (iD K c).tot λ_ _=>Tot.cnd (λ_=>Tot.ret trivial) λ_=>Tot.bind (iD K d).tot λ_ _=>Tot.cnd (λ_=>Tot.ret trivial) λ_=>Tot.bind (xG K _ _ r) λ_ _=>Tot.ret trivial
theorem kS (K:Nat)(n u y:Int)(h:u<=y):Tot (Q62.f K (n,u,y,())) λr=>InP r.1.1 u y:=by
 simp only[Q62.f];exact Tot.cnd (λ_=>Tot.ret ⟨CM _,h⟩) λz=>Tot.cnd (λ_=>Tot.ret ⟨h,CM _⟩) λH=>Tot.ret ⟨Int.not_lt.1 (of_decide_eq_false z),Int.not_lt.1 (of_decide_eq_false H)⟩
theorem Bj (K:Nat)(c b:du)(t s:Int)(H:cD c)(X:1048577<K):Tot (Q73.f K (c,b,t,s,())) λr=>cD r.1.1:=by
 simp only[Q73.f];refine Tot.bind (iD K c).tot λv J=>Tot.cnd (λh=>?_) λ_=>Tot.bind (iD K b).tot λv J=>Tot.cnd (λ_=>Tot.ret H) λz=>Tot.bind (cC K _ _ _).tot λv' O=>Tot.cnd (λ_=>Tot.ret H) λy=>?_
 ·rw[J.2 H]at h;cases h
 have Z:=J.1 (by simpa using z);have ht:=O.1 (by simpa using y);obtain⟨_,_,_,⟨c1,c2⟩⟩:=H;obtain⟨_,_,_,⟨b1,b2⟩⟩:=Z;obtain⟨t1,t2⟩:=ht;have Y:¬ wr .i64 (c.2.2.2+b.2.2.2)=0:=by rw[aD (by omega) (by omega)];omega
 have u:∀ w:Int,Tot (Q72.f K (c,b,w,t,())) λr=>InP r.1.1 1 1500:=λw=>by
  simp only[Q72.f,Q71.f];refine Tot.bind (P:=λ_=>True) (Tot.cnd (λ_=>Tot.ret trivial) λ_=>Tot.ret trivial) λ_ _=>Tot.not (decide_eq_false (show ¬ t=0 by omega)) (Tot.bind (kS K _ _ _ (by omega)) λ_ _=>Tot.not (decide_eq_false Y) (Tot.bind (kS K _ _ _ (by omega)) λ_ h=>Tot.ret h))
 refine Tot.bind (Bi K c b X) λ_ _=>?_
 simp only[Q69.f];refine Tot.bind (P:=λ_=>True) (Tot.not (decide_eq_false Y) (Tot.ret trivial)) λ_ _=>Tot.bind (xG K _ _ X) λn _=>Tot.cnd (λ_=>?_) λh=>?_
 ·simp only[Q70.f];refine Tot.bind (P:=λ_=>True) (Tot.cnd (λ_=>Tot.ret trivial) λ_=>Tot.cnd (λ_=>Tot.ret trivial) λ_=>Tot.cnd (λ_=>Tot.ret trivial) λ_=>Tot.ret trivial) λ_ _=>Tot.cnd (λ_=>?_) λ_=>?_ <;>
  exact Tot.bind (kS K _ _ _ (by omega)) λ_ I=>Tot.bind (kS K _ _ _ (by omega)) λ_ z=>Tot.bind (kS K _ _ _ (by omega)) λ_ y=>Tot.bind (u _) λ_ M=>Tot.ret ⟨I,z,y,M⟩
 ·have R:¬ n.1.1=0:=by simpa using h
  refine Tot.cnd (λ_=>?_) λ_=>?_ <;>
  exact Tot.not (decide_eq_false R) (Tot.bind (kS K _ _ _ (by omega)) λ_ I=>Tot.not (decide_eq_false R) (Tot.bind (kS K _ _ _ (by omega)) λ_ z=>Tot.bind (kS K _ _ _ (by omega)) λ_ y=>Tot.bind (u _) λ_ M=>Tot.ret ⟨I,z,y,M⟩))
noncomputable def pR (K:Nat)(c b:du)(t s:Int):du:=((Q73.f K (c,b,t,s,())).getD (((0,0,0,0),()),())).1.1
noncomputable def sk (K:Nat)(l:List Int):Int:=((Q74.f K (l,())).getD ((0,()),())).1.1
theorem xH (K:Nat)(c b:du)(t s:Int)(u:cD c)(r:1048577<K):Q73.f K (c,b,t,s,())=some ((pR K c b t s,()),())/\cD (pR K c b t s):=by
 obtain⟨⟨⟨v,⟨⟩⟩,⟨⟩⟩,e,h⟩:=Bj K c b t s u r;unfold pR;rw[e];exact⟨rfl,h⟩
theorem med_t (K:Nat)(l:List Int)(hl:l.length<=100)(hK:1048577<K):Tot (Q74.f K (l,())) λ_=>True:=by
 simp only[Q74.f,Q74.pre];have H:∀ J:List Int,J.length<=100->Tot (Q74.l0 K (l,()) (J,[],0)) λ_=>True:=λJ hx=>by
  refine Tot.iter (step:=λrec a=>Q74.s0 K (l,()) (Q74.l1 K (l,()) rec) rec a) (λa=>a.1=J/\0<=a.2.2/\a.2.2<=J.length/\(a.2.1.length:Int)=a.2.2) (λa=>J.length-a.2.2.toNat) ?_ K _ (by show J.length-BJ 0<K;omega) ⟨rfl,by show (0:Int)<=0;omega,by show (0:Int)<=_;omega,rfl⟩;rintro rec ⟨ys,z,i⟩ ⟨rfl,X,h1,h2⟩ ih;simp only at X h1 h2 hx ih ⊢;simp only[Q74.s0];obtain⟨i,rfl⟩:=BL X;refine Tot.cnd (λh=>?_) λ_=>Tot.cnd (λ_=>Tot.ret trivial) λh=>?_
  ·have I:=of_decide_eq_true h;clear h;refine Tot.iter (step:=λu a=>Q74.s1 K (l,()) rec u a) (λa=>a.1=ys/\a.2.1=z/\a.2.2.1=i/\0<=a.2.2.2/\a.2.2.2<=z.length) (λa=>z.length-a.2.2.2.toNat) ?_ K _ (by show z.length-BJ 0<K;omega) ⟨rfl,rfl,rfl,by show (0:Int)<=0;omega,by show (0:Int)<=_;omega⟩;rintro u ⟨M,r,j,k⟩ ⟨rfl,rfl,e,Y,k1⟩ O;simp only at e Y k1 I h1 h2 hx O ih ⊢;subst e;simp only[Q74.s1];obtain⟨k,rfl⟩:=BL Y;have Z:∀ y:Int,Tot (rec (M,(([]++((r.take (BJ (k:Int))).drop (BJ 0)))++([y]))++((r.take (BJ (BH r:Int))).drop (BJ (k:Int))),wr .i64 ((i:Int)+1))) λ_=>True:=λy=>by
    rw[ar i (by omega)];refine ih _ ⟨rfl,by show (0:Int)<=((i+1:Nat):Int);omega,by show ((i+1:Nat):Int)<=_;omega,?_⟩ (by show M.length-BJ ((i+1:Nat):Int)<M.length-BJ (i:Int);omega);simp only[BK,Cd,B4,BT,BV,BY,CD,BM,BQ];omega
   have R:Tot (bif decide (0<=0)&&decide ((0:Int)<=(k:Int))&&decide ((k:Int)<=(BH r:Int))&&true then (bif decide ((BH ([]:List (Ty.den (.int .i64)))+BH ((r.take (BJ (k:Int))).drop (BJ 0)))*8<=ak) then ((idx M (i:Int)).bind λy3=>bif decide ((BH ([]++((r.take (BJ (k:Int))).drop (BJ 0)))+BH ([y3]))*8<=ak) then (bif decide ((0:Int)<=(k:Int))&&decide ((k:Int)<=(BH r:Int))&&decide ((BH r:Int)<=(BH r:Int))&&true then (bif decide ((BH (([]++((r.take (BJ (k:Int))).drop (BJ 0)))++([y3]))+BH ((r.take (BJ (BH r:Int))).drop (BJ (k:Int))))*8<=ak) then (rec (M,(([]++((r.take (BJ (k:Int))).drop (BJ 0)))++([y3]))++((r.take (BJ (BH r:Int))).drop (BJ (k:Int))),wr .i64 ((i:Int)+1))) else none) else none) else none) else none) else none) λ_=>True:=by
    refine Tot.must (by simp only[CN,decide_eq_true_eq,C3];omega) (Tot.fit (Tot.ix X I λy _ _=>Tot.fit (Tot.must (by simp only[CN,decide_eq_true_eq,C3];omega) (Tot.fit (Z y) (by omega) ?_)) (by omega) ?_) (by omega) ?_) <;>
    simp only[BK,Cd,B4,BT,BV,BY,CD,BM,BQ] <;> omega
   refine Tot.cnd (λh4=>?_) λ_=>R
   have h4:=of_decide_eq_true h4;refine Tot.ix Y h4 λy1 _ _=>Tot.ix X I λy2 _ _=>Tot.cnd (λ_=>?_) λ_=>R
   rw[ar k (by omega)];exact O _ ⟨rfl,rfl,rfl,by show (0:Int)<=((k+1:Nat):Int);omega,by show ((k+1:Nat):Int)<=_;omega⟩ (by show r.length-BJ ((k+1:Nat):Int)<r.length-BJ (k:Int);omega)
  ·have h:¬ (z.length:Int)=0:=by simpa using h
   rw[aD (n:=(z.length:Int)-1) (by omega) (by omega)];have e:Co ((z.length:Int)-1) 2=((z.length:Int)-1) / 2:=by rw[CF (by omega)]
   rw[e,aD (by omega) (by omega)];exact Tot.ix (by omega) (by omega) λy _ _=>Tot.ret trivial
 refine Tot.cnd (λh=>?_) λ_=>H l hl
 have h:=of_decide_eq_true h;rw[aD (n:=(l.length:Int)-3) (by omega) (by omega)];exact Tot.must (by simp only[CN,decide_eq_true_eq,C3];omega) (H _ (by simp only[CD,BY];omega))
theorem med_s (K:Nat)(l:List Int)(u:l.length<=100)(r:1048577<K):Q74.f K (l,())=some ((sk K l,()),()):=by
 obtain⟨⟨⟨v,⟨⟩⟩,⟨⟩⟩,e,_⟩:=med_t K l u r;unfold sk;rw[e];rfl
end Go.Proofs.YtaegajachoklkabGreatEv
