/- The marks that a law writes into what was answered, and the look whether they still stand. -/
import Derived.Test.YtaegajachoklkaaGreatP1
import Derived.Test.YtaegajachoklkaaGreatE0
import Derived.Laws.Strings
set_option linter.unusedVariables false
set_option linter.unusedSimpArgs false
open Bool renaming not_true->BP,not_false->CB,and_eq_true->CN,eq_iff_iff->CR,true_and->CV,and_self->Ca,false_and->Ce,false_or->Ct,and_true->C3,true_or->C7,and_false->DE,or_true->DU
open ByteArray renaming size_extract->Cp
open Classical renaming not_not->Cm
open Eq renaming trans->Cw
open Go.ByteArray renaming toList_eq->DG
open Go.IntKind renaming wrap_i64->DP
open Int renaming toNat->BJ,toNat_natCast->BK,eq_ofNat_of_zero_le->BL,fdiv->B7,tdiv_eq_ediv_of_nonneg->CF,tmod->CJ,le_refl->CM,toNat_zero->Cd,tdiv->Co,le_trans->Cv,tmod_lt_of_pos->Cx,tmod_eq_emod_of_nonneg->Cy,le_of_lt->C6,tmod_nonneg->DB,tdiv_le_self->DQ,tdiv_nonneg->DS
open List renaming length->BH,getElem_mem->BI,length_cons->BM,mem_filter->BN,getElem_of_mem->BO,length_nil->BQ,append_nil->BR,getElem?_eq_getElem->BS,nil_append->BT,length_map->BU,length_append->BV,length_take->BY,mem_map->B3,drop_zero->B4,pairwise_cons->B5,reverse_reverse->B6,drop_eq_getElem_cons->B8,pairwise_map->B9,length_filter_le->CA,filter_cons->CC,length_drop->CD,take_of_length_le->CE,mem_singleton->CG,append_assoc->CH,filter_eq_self->CI,mem_cons->CK,pairwise_iff_getElem->CP,mem_append->CQ,pairwise_append->CS,take_succ_eq_append_getElem->CT,reverse_cons->CU,length_take_le->CW,length_pos_iff->CX,filter_append->CY,filter_eq_nil_iff->CZ,getElem?_eq_none->Cb,length_singleton->Cc,replicate->Cg,take_length->Ch,mem_of_find?_eq_some->Ci,length_reverse->Cj,getElem_take->Ck,length_replicate->Cq,not_mem_nil->Cr,ext_getElem->Cs,map_append->Cu,filter_congr->Cz,map_cons->C0,drop_length->C4,pairwise_singleton->C5,find?_cons->C8,find?_some->C9,length_set->DA,take_append_drop->DC,set_append_right->DD,mem_of_mem_take->DF,find?_eq_none->DH,mem_cons_self->DI,getElem_drop->DJ,getElem_map->DK,perm_middle->DL,cons_append->DM,getElem_set->DN,mem_range->DT,map_nil->DV
open List.Pairwise renaming filter->Cf
open Nat renaming le_refl->BW,zero_le->BX,le_trans->BZ,lt_or_eq_of_le->CO,mul_le_mul->Cl,lt_trichotomy->Cn
open Option renaming bind_some->BG,bind->CL,getD_some->DO,map_some->DR
namespace Go.Proofs.YtaegajachoklkaaGreatEv
open Go
theorem lg {α β R:Type}(t:List α)(p:α->Bool)(g:α->β)(n:Nat)(y:List β->Option R){step:(List β×Int->Option R)->List β×Int->Option R}
  (h:∀ (rec:List β×Int->Option R) (r:List β) (i:Nat) (J:i<t.length),r.length<=i->r.length<n->step rec (r,(i:Int))=rec (bif p t[i] then r++[g t[i]] else r,((i+1:Nat):Int)))
  (Z:∀ (rec:List β×Int->Option R) (r:List β) (i:Nat),i<t.length->r.length<=i->n<=r.length->step rec (r,(i:Int))=y r)
  (z:∀ (rec:List β×Int->Option R) (r:List β),r.length<=t.length->step rec (r,(t.length:Int))=y r) :
  ∀ (d i k:Nat) (r:List β),i+d=t.length->d<k->r.length<=i->r.length<=n->ae step k (r,(i:Int))=y (r++(((t.drop i).filter p).map g).take (n-r.length)):=by
 intro d;induction d with
 |zero =>
  intro i k r J O H _;obtain⟨k,rfl⟩:∃ I,k=I+1:=⟨k-1,by omega⟩;have:i=t.length:=by omega
  subst this;show step (ae step k) _=_;rw[z _ _ H];simp
 |succ d M =>
  intro i k r J O H X;obtain⟨k,rfl⟩:∃ I,k=I+1:=⟨k-1,by omega⟩;have u:i<t.length:=by omega
  show step (ae step k) _=_;by_cases hc:r.length<n
  ·rw[h _ _ _ u H hc,B8 u,CC];cases hp:p t[i] with
   |true =>
    simp only[cond_true,if_true,C0];rw[M (i+1) k _ (by omega) (by omega) (by simp;omega) (by simp;omega)];congr 1;obtain⟨m,Y⟩:∃ m,n-r.length=m+1:=⟨n-r.length-1,by omega⟩;rw[Y,List.take_succ_cons,CH];simp only[BV,BM,BQ];rw[show n-(r.length+(0+1))=m by omega];rfl
   |false =>
    simp only[cond_false];rw[M (i+1) k _ (by omega) (by omega) (by omega) (by omega)];rfl
  ·rw[Z _ _ _ u H (by omega)];rw[show n-r.length=0 by omega];simp
theorem pF {α β R:Type}(t:List α)(p:α->Bool)(g:α->β)(u:List β->Option R){step:(List β×Int->Option R)->List β×Int->Option R}
  (h:∀ (rec:List β×Int->Option R) (r:List β) (i:Nat) (z:i<t.length),r.length<=i->step rec (r,(i:Int))=rec (bif p t[i] then r++[g t[i]] else r,((i+1:Nat):Int)))
  (y:∀ (rec:List β×Int->Option R) (r:List β),r.length<=t.length->step rec (r,(t.length:Int))=u r) {k:Nat} (I:t.length<k) :
  ae step k ([],0)=u ((t.filter p).map g):=by
 have:=lg t p g (t.length+1) u (λrec r i z H _=>h rec r i z H) (λrec r i z H J=>by omega) y t.length 0 k [] (by omega) I (BW _) (by simp);refine this.trans ?_;congr 1;simp only[BT,BQ,B4];exact CE (by have:=CA p t;simp;omega)
theorem dY {e:Ty}{b:Nat}{xs:List e.den}(h:xs.length*b<=140737488355328):e9 e b xs=some ((xs,()),()):=by
 unfold e9;rw[decide_eq_true (by simpa[ak]using h)];rfl
theorem xd {α β:Type}{xs r:List α}{b:Nat}{x y:β}(h:(xs.length+r.length)*b<=140737488355328):(bif decide ((BH xs+BH r)*b<=ak) then x else y)=x:=by
 rw[decide_eq_true (by simpa[ak]using h)];rfl
theorem qx (K:Nat)(xs:List Int)(n:Int)(I:xs.length<=1048576):Q76.f K (xs,n,())=some ((xs.take n.toNat,()),()):=by
 simp only[Q76.f,Q75.f,BG,Q8.f];obtain⟨c,u,y,z,r⟩:∃ c:Int,(bif decide (0<(bif decide ((xs.length:Int)<n) then (xs.length:Int) else n)) then bif decide ((xs.length:Int)<n) then (xs.length:Int) else n else 0)=c/\0<=c/\c<=xs.length/\xs.take c.toNat=xs.take n.toNat:=by
  by_cases h:(xs.length:Int)<n
  ·rw[decide_eq_true h];simp only[cond_true];by_cases r:0<(xs.length:Int)
   ·rw[decide_eq_true r];refine⟨_,rfl,by simp,by simp,?_⟩;simp only[cond_true];rw[CE (by omega),CE (by omega)]
   ·rw[decide_eq_false r];refine⟨_,rfl,by simp,by simp,?_⟩;have:xs=[]:=List.eq_nil_of_length_eq_zero (by omega);subst this;simp
  ·rw[decide_eq_false h];simp only[cond_false];by_cases r:0<n
   ·rw[decide_eq_true r];exact⟨_,rfl,by simp;omega,by simp;omega,rfl⟩
   ·rw[decide_eq_false r];refine⟨_,rfl,by simp,by simp,?_⟩;simp only[cond_false];rw[show n.toNat=0 by omega];rfl
 rw[u,decide_eq_true y,decide_eq_true z];simp only[Cd,B4,decide_true,Ca,cond_true];rw[dY (by
  have:=CW c.toNat xs;have H:(List.take c.toNat xs).length<=1048576:=by omega
  omega)]
 simp only[BG];rw[r];rfl
theorem qy (K:Nat)(t:List af)(r:af×Unit->Option Bool)(p:af->Bool)(H:t.length<=1048576)(I:1048577<K)(hφ:∀ f∈t,r (f,())=some (p f)) :
  Q77.f K (t,r,())=some (((t.filter p).map (·.1),()),()):=by
 refine pF (step:=λrec a=>Q77.s0 K (t,r,()) rec a) t p (λf=>f.1) (λz=>some ((z,()),())) ?_ ?_ (by omega)
 ·intro rec u i y J;simp only[Q77.s0];rw[bo (by omega:(i:Int)<(BH t:Int)),ag y,ar i (by omega)];simp only[cond_true,BG];rw[hφ _ (BI y)];simp only[BG];cases p t[i] with
  |true=>simp only[cond_true];rw[xd (by simp;omega)]
  |false=>rfl
 ·intro rec u _;simp only[Q77.s0,aR];rfl
def iG (f:af):Bool:=f.2.2.2&&f.2.2.1==1
def dK (t:List af):List Int:=((t.filter iG).map (·.1)).take 2
theorem uS (K:Nat)(t:List af)(I:t.length<=1048576)(J:1048577<K):Q203.f K (t,2,())=some ((dK t,()),()):=by
 have:=lg (step:=λrec a=>Q203.s0 K (t,2,()) rec a) t iG (λf=>f.1) 2 (λy=>some ((y,()),())) ?_ ?_ ?_ t.length 0 K [] (by omega) (by omega) (BW _) (by simp)
 ·exact this
 ·intro rec r i u z H;simp only[Q203.s0];rw[bo (by omega:(i:Int)<(BH t:Int)),ag u,ar i (by omega),decide_eq_true (by omega:(BH r:Int)<2)];simp only[cond_true,BG,iG];cases t[i].2.2.2 with
  |true =>
   simp only[cond_true,CV];cases t[i].2.2.1==1 with
   |true=>simp only[cond_true];rw[xd (by simp;omega)]
   |false=>rfl
  |false=>rfl
 ·intro rec r i u z H;simp only[Q203.s0];rw[bo (by omega:(i:Int)<(BH t:Int)),decide_eq_false (by omega:¬ (BH r:Int)<2)];rfl
 ·intro rec r _;simp only[Q203.s0,aR];rfl
theorem uT (K:Nat)(t:List af)(r:t.length<=1048576)(u:1048577<K)(z:ax t):Q103.f K (t,2,())=some ((dK t,()),()):=by
 obtain⟨b,H,y⟩:=jG K t r u;simp only[Q103.f];rw[H];simp only[BG,y.2 z,BP,cond_false];rw[qy K t _ iG r u (λf _=>by
  simp only[Q102.f,iG];cases f.2.2.2 <;> rfl)]
 simp only[BG];rw[qx K _ 2 (by have:=CA iG t;simp;omega)];rfl
theorem q9 (t:List af):(dK t).length<=2:=by
 unfold dK;exact CW _ _
def di (l:List cS)(s:Int):List af:=((l.find? λx=>x.1==s).map (·.2)).getD []
theorem pG {R:Type}(l:List cS)(s:Int)(r:List af->Option R){step:(Int->Option R)->Int->Option R}
  (h:∀ (rec:Int->Option R) (i:Nat) (H:i<l.length),step rec (i:Int)=bif l[i].1==s then r l[i].2 else rec ((i+1:Nat):Int))
  (y:∀ rec:Int->Option R,step rec (l.length:Int)=r []) :
  ∀ (d i k:Nat),i+d=l.length->d<k->ae step k (i:Int)=r (di (l.drop i) s):=by
 intro d;induction d with
 |zero =>
  intro i k H I;obtain⟨k,rfl⟩:∃ z,k=z+1:=⟨k-1,by omega⟩;have:i=l.length:=by omega
  subst this;show step (ae step k) _=_;rw[y];simp[di]
 |succ d J =>
  intro i k H I;obtain⟨k,rfl⟩:∃ z,k=z+1:=⟨k-1,by omega⟩;have u:i<l.length:=by omega
  show step (ae step k) _=_;rw[h _ _ u,B8 u];simp only[di,C8];cases l[i].1==s with
  |true=>rfl
  |false=>exact J (i+1) k (by omega) (by omega)
theorem z9 (K:Nat)(n:aa)(s:Int)(r:NB n)(z:1048577<K):Q104.f K (n,s,())=some ((di (aa.others n) s,()),()):=by
 have y:=r.others;refine pG (step:=λrec a=>Q104.s0 K (n,s,()) rec a) (aa.others n) s (λt=>some ((t,()),())) ?_ ?_ (aa.others n).length 0 K (by omega) (by omega)
 ·intro rec i u;simp only[Q104.s0];rw[bo (by omega:(i:Int)<(BH (aa.others n):Int)),ag u,ar i (by omega)];rfl
 ·intro rec;simp only[Q104.s0,aR];rfl
theorem mQ {l:List cS}{s:Int}:di l s=[]\/∃ x∈l,x.1=s/\di l s=x.2:=by
 unfold di;cases h:l.find? λx=>x.1==s with
 |none=>exact .inl rfl
 |some x=>exact .inr ⟨x,Ci h,by simpa using C9 h,rfl⟩
def bH {α:Type}(k:α->Int)(x:α)(xs:List α):List α:=xs.filter (λy=>decide (k y<k x))++x::xs.filter (λy=>decide (k x<k y))
theorem ra {α:Type}{k:α->Int}{xs:List α}{v:Int}{m:Nat}(J:m<=xs.length)(I:∀ i,(z:i<xs.length)->i<m->k xs[i]<v)(z:∀ i,(h:i<xs.length)->m<=i->v<=k xs[i]):xs.filter (λy=>decide (k y<v))=xs.take m:=by
 conv=>lhs;rw[<- DC m xs]
 rw[CY];have r:(xs.take m).filter (λy=>decide (k y<v))=xs.take m:=by
  rw[CI];intro y u;obtain⟨i,r,rfl⟩:=BO u;rw[BY]at r;rw[Ck];exact decide_eq_true (I i (by omega) (by omega))
 have H:(xs.drop m).filter (λy=>decide (k y<v))=[]:=by
  rw[CZ];intro y u;obtain⟨i,r,rfl⟩:=BO u;rw[CD]at r;rw[DJ];have:=z (m+i) (by omega) (by omega);simp only[decide_eq_true_eq];omega
 rw[r,H,BR]
theorem re {α:Type}{k:α->Int}{xs:List α}{v:Int}{m:Nat}(J:m<=xs.length)(I:∀ i,(z:i<xs.length)->i<m->k xs[i]<=v)(z:∀ i,(h:i<xs.length)->m<=i->v<k xs[i]):xs.filter (λy=>decide (v<k y))=xs.drop m:=by
 conv=>lhs;rw[<- DC m xs]
 rw[CY];have r:(xs.take m).filter (λy=>decide (v<k y))=[]:=by
  rw[CZ];intro y u;obtain⟨i,r,rfl⟩:=BO u;rw[BY]at r;rw[Ck];have:=I i (by omega) (by omega);simp only[decide_eq_true_eq];omega
 have H:(xs.drop m).filter (λy=>decide (v<k y))=xs.drop m:=by
  rw[CI];intro y u;obtain⟨i,r,rfl⟩:=BO u;rw[CD]at r;rw[DJ];exact decide_eq_true (z (m+i) (by omega) (by omega))
 rw[r,H,BT]
theorem kv {α:Type}{k:α->Int}{xs:List α}{x:α}{m:Nat}(h:Asc k xs)(H:m<xs.length)(e:k xs[m]=k x):xs.set m x=bH k x xs:=by
 have I:=dn.1 h;have J:∀ i,(r:i<xs.length)->i<m->k xs[i]<k x:=λi r y=>by rw[<- e];exact I i m r H y
 have M:∀ i,(r:i<xs.length)->m<i->k x<k xs[i]:=λi r y=>by rw[<- e];exact I m i H r y
 rw[bH,ra (m:=m) (by omega) J (λi r u=>by
   rcases CO u with z|z
   ·exact C6 (M i r z)
   ·subst z;omega),
  re (m:=m+1) (by omega) (λi r u=>by
   rcases CO (Nat.le_of_lt_succ u) with z|z
   ·exact C6 (J i r z)
   ·subst z;omega) (λi r u=>M i r u),
  List.set_eq_take_append_cons_drop,if_pos H]
theorem ji {α:Type}{k:α->Int}{xs:List α}{x:α}{m:Nat}(z:m<=xs.length)(H:∀ i,(y:i<xs.length)->i<m->k xs[i]<k x)(y:∀ i,(h:i<xs.length)->m<=i->k x<k xs[i]):xs.take m++[x]++xs.drop m=bH k x xs:=by
 rw[bH,ra z H (λi u r=>C6 (y i u r)),re z (λi u r=>C6 (H i u r)) y,CH];rfl
theorem aZ {α:Type}{k:α->Int}{xs:List α}{x y:α}:y∈bH k x xs<->y=x\/(y∈xs/\k y≠k x):=by
 simp only[bH,CQ,CK,BN,decide_eq_true_eq];constructor
 ·rintro (⟨r,u⟩|rfl|⟨r,u⟩)
  ·exact .inr ⟨r,by omega⟩
  ·exact .inl rfl
  ·exact .inr ⟨r,by omega⟩
 ·rintro (rfl|⟨r,u⟩)
  ·exact .inr (.inl rfl)
  ·rcases Int.lt_or_gt_of_ne u with z|z
   ·exact .inl ⟨r,z⟩
   ·exact .inr (.inr ⟨r,z⟩)
theorem fj {α:Type}{k:α->Int}{xs:List α}{x:α}(h:Asc k xs):Asc k (bH k x xs):=by
 unfold Asc bH;rw[CS,B5];refine⟨h.filter _,⟨λy r=>?_,h.filter _⟩,λy r z u=>?_⟩
 ·simpa using (BN.1 r).2
 ·have H:k y<k x:=by simpa using (BN.1 r).2
  rcases CK.1 u with rfl|u
  ·exact H
  ·have I:k x<k z:=by simpa using (BN.1 u).2
   omega
theorem yJ {α:Type}{k:α->Int}{xs:List α}{x:α}:(bH k x xs).length<=xs.length+1:=by
 have:∀ l:List α,(l.filter (λy=>decide (k y<k x))).length+(l.filter (λy=>decide (k x<k y))).length<=l.length:=by
  intro l;induction l with
  |nil=>simp
  |cons y l u =>
   simp only[CC,BM];by_cases r:k y<k x
   ·rw[if_pos (decide_eq_true r),if_neg (by simp;omega)];simp only[BM];omega
   ·rw[if_neg (by simpa using r)];split <;> (try simp only[BM]) <;> omega
 have:=this xs;simp only[bH,BV,BM];omega
theorem o6 {α:Type}{k:α->Int}{xs:List α}(h:Asc k xs){i:Nat}(u:i<xs.length){v:Int}(e:k xs[i]=v):xs.find? (λy=>k y==v)=some xs[i]:=by
 cases r:xs.find? (λy=>k y==v) with
 |none =>
  have:=DH.1 r xs[i] (BI u);simp[e]at this
 |some y =>
  have z:k y=v:=by simpa using C9 r
  obtain⟨j,H,rfl⟩:=BO (Ci r);have:=oT h H u (by rw[z,e]);subst this;rfl
theorem nO {α:Type}{k:α->Int}{xs:List α}{v:Int}(h:∀ y∈xs,k y≠v):xs.find? (λy=>k y==v)=none:=by
 rw[DH];intro y r;simpa using h y r
def kd {α:Type}(k:α->Int)(x:α):Bool->List α->List α
 |d,[]=>bif d then [] else [x]
 |d,y::r=>(bif !d&&decide (k x<=k y) then [x] else [])++((bif k y != k x then [y] else [])++kd k x (d||decide (k x<=k y)) r)
theorem pH {α:Type}{k:α->Int}{x:α}:∀ {r:List α},(∀ y∈r,k x<k y)->kd k x true r=r
 |[],_=>rfl
 |y::r,h=>by
  have H:=h y (by simp);simp only[kd,BP,Ce,cond_false,C7,BT];rw[pH (λz u=>h z (by simp[u])),show (k y != k x)=true by simp;omega];rfl
theorem lh {α:Type}{k:α->Int}{x:α}:∀ {xs:List α},Asc k xs->kd k x false xs=bH k x xs
 |[],_=>rfl
 |y::r,h=>by
  have M:Asc k r:=(B5.1 h).2;have H:∀ z∈r,k y<k z:=(B5.1 h).1;simp only[kd,CB,CV,Ct];by_cases J:k x<=k y
  ·rw[decide_eq_true J,pH (λz u=>by have:=H z u;omega)];simp only[cond_true,bH,CC];have O:r.filter (λz=>decide (k z<k x))=[]:=by
    rw[CZ];intro z u;have:=H z u;simp;omega
   have R:r.filter (λz=>decide (k x<k z))=r:=by
    rw[CI];intro z u;have:=H z u;simp;omega
   rw[O,R,if_neg (by simp;omega)];by_cases I:k y=k x
   ·rw[if_neg (by simp;omega),show (k y != k x)=false by simpa using I];rfl
   ·rw[if_pos (by simp;omega),show (k y != k x)=true by simpa using I];rfl
  ·rw[decide_eq_false J,lh M,show (k y != k x)=true by simp;omega];simp only[cond_false,cond_true,bH,CC,BT];rw[if_pos (by simp;omega),if_neg (by simp;omega)];rfl
theorem sO {α A R:Type}(k:α->Int)(x:α)(t:List α)(q:α->Bool)(Y:Option R)(z:List α->Option R)(S:List α->Bool->Nat->A){step:(A->Option R)->A->Option R}
  (h:∀ (rec:A->Option R) (r:List α) (d:Bool) (i:Nat) (O:i<t.length),r.length<=i+1->(d=false->r.length<=i)->step rec (S r d i)=bif q t[i] then Y else rec (S ((r++(bif !d&&decide (k x<=k t[i]) then [x] else []))++(bif k t[i] != k x then [t[i]] else [])) (d||decide (k x<=k t[i])) (i+1)))
  (H:∀ (rec:A->Option R) (r:List α) (d:Bool),r.length<=t.length+1->(d=false->r.length<=t.length)->step rec (S r d t.length)=z (r++(bif d then [] else [x]))) :
  ∀ (n i K:Nat) (r:List α) (d:Bool),i+n=t.length->n<K->r.length<=i+1->(d=false->r.length<=i)->ae step K (S r d i)=bif (t.drop i).any q then Y else z (r++kd k x d (t.drop i)):=by
 intro n;induction n with
 |zero =>
  intro i K r d O Z M I;obtain⟨K,rfl⟩:∃ J,K=J+1:=⟨K-1,by omega⟩;have:i=t.length:=by omega
  subst this;show step (ae step K) _=_;rw[H _ _ _ M I,C4];rfl
 |succ n ih =>
  intro i K r d O Z M I;obtain⟨K,rfl⟩:∃ J,K=J+1:=⟨K-1,by omega⟩;have u:i<t.length:=by omega
  show step (ae step K) _=_;rw[h _ _ _ _ u M I,B8 u,List.any_cons];cases hq:q t[i] with
  |true=>rfl
  |false =>
   simp only[cond_false,Ct,kd];rw[ih (i+1) K _ _ (by omega) (by omega) ?_ ?_]
   ·simp only[CH]
   ·cases d with
    |true =>
     simp only[BP,Ce,cond_false,BR];cases k t[i] != k x <;> simp <;> omega
    |false =>
     have:=I rfl;cases X:decide (k x<=k t[i]) <;> cases k t[i] != k x <;> simp <;> omega
   ·intro y;rw[Bool.or_eq_false_iff]at y;obtain⟨rfl,X⟩:=y;have:=I rfl;rw[X];cases k t[i] != k x <;> simp <;> omega
theorem jx (K:Nat)(n:aa)(y:NB n)(u:1048577<K):∃ b,Q26.f K (n,())=rb b/\Q64.f K (n,())=rb b/\(b=true<->iR n):=by
 obtain⟨b,J,r⟩:=yH K n y u;obtain⟨H,z,I⟩:=yI K n y u;have:b=H:=by rw[CR,r,I]
 subst this;exact⟨b,J,z,r⟩
theorem iR.up {n:aa}(h:iR n)(r:n.2.1=true):UpP n:=by
 have:=h.2.2.2.2.2
 rwa [if_pos r]at this
abbrev ao:=Int×Int×Int×Int×Int×Int×dw×List af
abbrev ao.table (w:ao):List af:=w.2.2.2.2.2.2.2
abbrev ao.coord (w:ao):dw:=w.2.2.2.2.2.2.1
def pI:List af->Prop
 |[]=>False
 |f::l=>ce (f::l) (ap f.1)
def iS (w:ao):Prop:=InP w.1 1 2/\InP w.2.1 1 6/\InP w.2.2.1 0 7/\InP w.2.2.2.1 0 7/\InP w.2.2.2.2.1 0 999999/\InP w.2.2.2.2.2.1 0 7/\cC (ao.coord w)/\ax (ao.table w) /\
 (if w.2.1=6 then pI (ao.table w) else ce (ao.table w) (ap w.2.2.1))
theorem sP (K:Nat)(w:ao)(r:(ao.table w).length<=1048576)(u:1048577<K):Ret (Q143.f K (w,())) (iS w):=by
 refine Ret.nx (cB K _ _ _) λ_=>Ret.nx (cB K _ _ _) λ_=>Ret.nx (cB K _ _ _) λ_=>Ret.nx (cB K _ _ _) λ_=>Ret.nx (cB K _ _ _) λ_=>Ret.nx (cB K _ _ _) λ_=>Ret.nx (iE K _) λ_=>Ret.nx (gq K _ r u) λ_=>?_
 dsimp only;by_cases h:w.2.1=6
 ·rw[show (w.2.1==6)=true by simpa using h,if_pos h];obtain⟨w1,w2,w3,w4,w5,z,y,t⟩:=w;cases t with
  |nil=>exact Ret.no (λh=>h)
  |cons f l =>
   rw[show decide ((BH (f::l):Int)>0)=true from decide_eq_true (by simp only[BM];omega)];simp only[cond_true];exact Ret.vl (ag (xs:=f::l) (i:=0) (by simp)) (gr K _ _ r u).id
 ·rw[show (w.2.1==6)=false by simpa using h,if_neg h];exact (gr K _ _ r u).id
theorem iH {α A R:Type}(xs:List α)(S:List α->Nat->A)(r:Option R){step:(A->Option R)->A->Option R}
  (h:∀ (rec:A->Option R) (u:List α) (i:Nat) (z:i<xs.length),u.length=i->step rec (S u i)=rec (S (u++[xs[i]]) (i+1))) (y:∀ rec:A->Option R,step rec (S xs xs.length)=r) {k:Nat} (H:xs.length<k):ae step k (S [] 0)=r:=by
 refine eY (step:=step) xs.length (λi=>S (xs.take i) i) r ?_ ?_ H
 ·intro rec i z;show step rec (S (xs.take i) i)=rec (S (xs.take (i+1)) (i+1));rw[h rec (xs.take i) i z (by simp;omega),CT z]
 ·intro rec;show step rec (S (xs.take xs.length) xs.length)=r;rw[Ch];exact y rec
theorem szb (a b c:Nat)(r:c<=64)(h:a+b<=2097152):decide ((a+b)*c<=ak)=true:=by
 have:=Cl h r;exact decide_eq_true (by unfold ak;omega)
theorem jJ (K:Nat)(n:aa)(u:NB n)(R:1048577<K):Q118.f K (n,())=some ((n,()),()):=by
 have I:=u.table;have H:=u.cast;have J:=u.doubts;have M:=u.places;have O:=u.others;simp only[Q118.f,Q118.pre];rw[szb _ _ _ (by omega) (by show (BH ([]:List af))+(aa.table n).length<=_;simp;omega),szb _ _ _ (by omega) (by show (BH ([]:List aM))+(aa.cast n).length<=_;simp;omega)];simp only[cond_true];refine iH (aa.doubts n) (step:=λrec a=>Q118.s0 K (n,()) (Q118.l1 K (n,())) rec a) (λr i=>((i:Int),r)) _ ?_ ?_ (by omega)
 ·intro rec r i y z;have:=u.by_ _ (BI y);simp only[Q118.s0];rw[bo (by omega:(i:Int)<(BH (aa.doubts n):Int)),ag y,ar i (by omega)];simp only[cond_true,BG];rw[szb _ _ _ (by omega) (by simp;omega),szb _ _ _ (by omega) (by simp;omega)];rfl
 ·intro rec;simp only[Q118.s0,aR,cond_false];refine iH (aa.places n) (step:=λrec a=>Q118.s1 K (n,()) (Q118.l2 K (n,())) rec a) (λr i=>((i:Int),aa.doubts n,r)) _ ?_ ?_ (by omega)
  ·intro rec r i y z;have:=u.trips _ (BI y);simp only[Q118.s1];rw[bo (by omega:(i:Int)<(BH (aa.places n):Int)),ag y,ar i (by omega)];simp only[cond_true,BG];rw[szb _ _ _ (by omega) (by simp;omega),szb _ _ _ (by omega) (by simp;omega)];rfl
  ·intro rec;simp only[Q118.s1,aR,cond_false];refine iH (aa.others n) (step:=λrec a=>Q118.s2 K (n,()) rec a) (λr i=>((i:Int),aa.doubts n,aa.places n,r)) _ ?_ ?_ (by omega)
   ·intro rec r i y z;have:=u.facts _ (BI y);simp only[Q118.s2,zcp8];rw[bo (by omega:(i:Int)<(BH (aa.others n):Int)),ag y,ar i (by omega)];simp only[cond_true,BG];rw[szb _ _ _ (by omega) (by simp;omega),szb _ _ _ (by omega) (by simp;omega)];rfl
   ·intro rec;simp only[Q118.s2,zcp8,aR,cond_false];rfl
theorem yK (K:Nat)(n:aa)(u:NB n)(R:1048577<K):Q112.f K (n,())=some ((n,()),()):=by
 have I:=u.table;have H:=u.cast;have J:=u.doubts;have M:=u.places;have O:=u.others;simp only[Q112.f,Q112.pre];refine iH (aa.doubts n) (step:=λrec a=>Q112.s0 K (n,()) (Q112.l1 K (n,())) rec a) (λr i=>(r,(i:Int))) _ ?_ ?_ (by omega)
 ·intro rec r i y z;have:=u.by_ _ (BI y);simp only[Q112.s0,Q8.f];rw[bo (by omega:(i:Int)<(BH (aa.doubts n):Int)),ag y,ar i (by omega)];simp only[cond_true,BG];rw[dY (by omega)];simp only[BG];rw[szb _ _ _ (by omega) (by simp;omega)];rfl
 ·intro rec;simp only[Q112.s0,aR,cond_false];refine iH (aa.places n) (step:=λrec a=>Q112.s1 K (n,()) (Q112.l2 K (n,())) rec a) (λr i=>(aa.doubts n,r,(i:Int))) _ ?_ ?_ (by omega)
  ·intro rec r i y z;have:=u.trips _ (BI y);simp only[Q112.s1,Q8.f];rw[bo (by omega:(i:Int)<(BH (aa.places n):Int)),ag y,ar i (by omega)];simp only[cond_true,BG];rw[dY (by omega)];simp only[BG];rw[szb _ _ _ (by omega) (by simp;omega)];rfl
  ·intro rec;simp only[Q112.s1,aR,cond_false];refine iH (aa.others n) (step:=λrec a=>Q112.s2 K (n,()) rec a) (λr i=>(aa.doubts n,aa.places n,r,(i:Int))) _ ?_ ?_ (by omega)
   ·intro rec r i y z;have:=u.facts _ (BI y);simp only[Q112.s2,zcp8,Q0.f];rw[bo (by omega:(i:Int)<(BH (aa.others n):Int)),ag y,ar i (by omega)];simp only[cond_true,BG];rw[dY (by omega)];simp only[BG];rw[szb _ _ _ (by omega) (by simp;omega)];rfl
   ·intro rec;simp only[Q112.s2,zcp8,aR,cond_false,Q0.f,Q2.f];rw[dY (by show (aa.table n).length*_<=_;omega),dY (by show (aa.cast n).length*_<=_;omega)];rfl
instance (f g:af):Decidable (bR f g):=by unfold bR;infer_instance
theorem pJ (K:Nat)(f g:af):Q19.f K (f,g,())=rb (decide (bR f g)):=by
 obtain⟨b,u,r⟩:=sN K f g;rw[u,show b=decide (bR f g) by rw[CR,r];simp]
def bS (t:List af)(f:af):List af×Bool :=
 match t.find? (λg=>g.1==f.1) with
 |some g=>if bR f g then (bH (λg=>g.1) f t,true) else (t,false)
 |none=>(bH (λg=>g.1) f t,true)
theorem kw {t:List af}{f:af}(r:Asc (λg:af=>g.1) t){i:Nat}(u:i<t.length)(e:t[i].1=f.1):bS t f=if bR f t[i] then (bH (λg=>g.1) f t,true) else (t,false):=by
 unfold bS;rw[show t.find? (λg=>g.1==f.1)=some t[i] from o6 r u e]
theorem im {t:List af}{f:af}(h:∀ g∈t,g.1≠f.1):bS t f=(bH (λg=>g.1) f t,true):=by
 unfold bS;rw[show t.find? (λg=>g.1==f.1)=none from nO h]
theorem mR {e:Ty}{b:Nat}{xs:List e.den}{m:Nat}{v:e.den}(u:m<=xs.length)(r:b<=64)(y:xs.length<=1048576):iz e b xs (m:Int) [v]=some ((xs.take m++[v]++xs.drop m,()),()):=by
 unfold iz;have:(xs.length+[v].length)*b<=140737488355328:=BZ (Cl (show xs.length+[v].length<=1048577 by simp;omega) r) (by decide);rw[if_pos ⟨by omega,by omega,by simp,by simpa only[ak]using this⟩,BK]
theorem rg {e:Ty}{xs:List e.den}{u:e.den×Unit->Option Bool}(p:e.den->Bool)(z:xs.length<=1048576)(h:∀ x∈xs,u (x,())=some (p x)):gI e xs u=some ((xs.filter (λx=>!p x),()),()):=by
 have:∀ r:List e.den,(∀ x∈r,u (x,())=some (p x))->l7 u r=some (r.filter (λx=>!p x)):=by
  intro r;induction r with
  |nil=>intro _;rfl
  |cons y r H =>
   intro h;simp only[l7,h y (by simp),BG,H (λx z=>h x (by simp[z])),DR,CC];cases p y <;> rfl
 unfold gI;rw[if_pos z,this xs h];rfl
theorem put_s (K:Nat)(t:List af)(f:af)(Z:t.length<=1048576)(O:Asc (λg:af=>g.1) t)(hK:1048577<K):Q154.f K (t,f,())=some (((bS t f).1,(bS t f).2,()),()):=by
 simp only[Q154.f,Q154.pre];obtain⟨o,z,J⟩:=fC K t f.1 Z hK;rw[J];simp only[BG];cases z with
 |at_ i r e =>
  simp only;rw[kw O r e,decide_eq_true (by omega:((i:Nat):Int)>=0),ag r];simp only[cond_true,BG];rw[show Q19.f K (f,t[i],())=_ from pJ K f t[i]];simp only[BG];by_cases z:bR f t[i]
  ·rw[decide_eq_true z,if_pos z];simp only[BP,cond_false];rw[szb _ _ _ (by omega) (by show (BH ([]:List af))+t.length<=_;simp;omega)];simp only[cond_true,BT,ag r,BG,BK];rw[kv (k:=λg:af=>g.1) O r e]
  ·rw[decide_eq_false z,if_neg z];rfl
 |no h =>
  simp only;rw[im h,decide_eq_false (by omega:¬ (-1:Int)>=0)];simp only[cond_false];have I:∀ m:Nat,m<=t.length->(bif decide ((0:Int)<=0)&&decide ((0:Int)<=(m:Int))&&decide ((m:Int)<=(BH t:Int))&&true then (bif decide ((BH ([]:List af)+BH ((t.take (BJ (m:Int))).drop (BJ 0)))*32<=ak) then (bif decide ((BH ([]++((t.take (BJ (m:Int))).drop (BJ 0)))+BH ([f]))*32<=ak) then (bif decide ((0:Int)<=(m:Int))&&decide ((m:Int)<=(BH t:Int))&&decide ((BH t:Int)<=(BH t:Int))&&true then (bif decide ((BH (([]++((t.take (BJ (m:Int))).drop (BJ 0)))++([f]))+BH ((t.take (BJ (BH t:Int))).drop (BJ (m:Int))))*32<=ak) then (some (((([]++((t.take (BJ (m:Int))).drop (BJ 0)))++([f]))++((t.take (BJ (BH t:Int))).drop (BJ (m:Int))),true,()),())) else none) else none) else none) else none) else (none:Option ((List af×Bool×Unit)×Unit)))=some ((t.take m++[f]++t.drop m,true,()),()):=by
   intro m X;rw[decide_eq_true (by omega:(0:Int)<=0),decide_eq_true (by omega:(0:Int)<=(m:Int)),decide_eq_true (by omega:(m:Int)<=(BH t:Int)),decide_eq_true (by omega:(BH t:Int)<=(BH t:Int))];simp only[BK,Cd,B4,BT,Ch,Ca,cond_true];have J:(t.take m).length=m:=by rw[BY];omega
   have H:(t.drop m).length=t.length-m:=CD;rw[szb _ _ _ (by omega) (by simp only[BQ];omega),szb _ _ _ (by omega) (by simp only[BM,BQ];omega),szb _ _ _ (by omega) (by simp only[BV,BM,BQ];omega)];rfl
  have:=ch (step:=λrec a=>Q154.s0 K (t,f,()) rec a) t.length (λi=>(i:Int)) (λj=>∃ h:j<t.length,¬ t[j].1<f.1) (some ((t.take t.length++[f]++t.drop t.length,true,()),())) (λj=>some ((t.take j++[f]++t.drop j,true,()),())) ?_ ?_ t.length K 0 (by omega) (by omega)
  ·have M:∀ m,m<=t.length->(∀ i,(r:i<t.length)->i<m->t[i].1<f.1)->(∀ i,(r:i<t.length)->m<=i->f.1<t[i].1)->t.take m++[f]++t.drop m=bH (λg=>g.1) f t:=λm X lo r=>ji (k:=λg:af=>g.1) X lo r
   rcases this with ⟨J,H⟩|⟨j,_,J,⟨h3,h4⟩,h5,H⟩
   ·rw[M t.length (BW _) (λi r _=>by
     have:=J i (BX _) r;exact Cm.1 λh=>this ⟨r,h⟩) (λi r h=>by omega)]at H
    exact H
   ·rw[M j (by omega) (λi r y=>by
     have:=h5 i (BX _) y;exact Cm.1 λh=>this ⟨r,h⟩) (λi r y=>by
     have Y:=h t[i] (BI r);rcases CO y with R|R
     ·have:=dn.1 O j i h3 r R;omega
     ·subst R;omega)]at H
    exact H
  ·intro rec i r;simp only[Q154.s0];rw[bo (by omega:(i:Int)<(BH t:Int)),ag r,ar i (by omega)];simp only[cond_true,BG];by_cases u:t[i].1<f.1
   ·exact .inl ⟨λ⟨_,h⟩=>h u,by rw[decide_eq_true u];rfl⟩
   ·exact .inr ⟨⟨r,u⟩,by rw[decide_eq_false u];exact I i (by omega)⟩
  ·intro rec;simp only[Q154.s0,aR,cond_false];exact I t.length (BW _)
theorem zK (K:Nat)(t:List af)(f:af)(R:t.length<=1048576)(y:Asc (λg:af=>g.1) t)(X:1048577<K):Q67.f K (t,f,())=some (((bS t f).1,(bS t f).2,()),()):=by
 simp only[Q67.f,Q0.f,Q1.f];rw[dY (by omega)];simp only[BG];obtain⟨m,r,Z⟩:=sM K t f.1 R y X;rw[Z];simp only[BG];by_cases J:∃ h:m<t.length,t[m].1=f.1
 ·obtain⟨M,z⟩:=J;rw[decide_eq_true ⟨M,z⟩,kw y M z];simp only[BP,cond_false,ag M,BG,BK];rw[mP K f t[m] X];simp only[BG];by_cases I:bR f t[m]
  ·rw[decide_eq_true ((jH z.symm).2 I),if_pos I,kv (k:=λg:af=>g.1) y M z];rfl
  ·rw[decide_eq_false (λh=>I ((jH z.symm).1 h)),if_neg I];rfl
 ·rw[decide_eq_false J,im (λg Y e=>by
   obtain⟨i,u,rfl⟩:=BO Y;rcases Cn i m with h|h|h
   ·have:=r.lo i u h;omega
   ·subst h;exact J ⟨u,e⟩
   ·have h5:=r.hi m (by omega) (BW _);have O:=dn.1 y m i (by omega) u h;omega)]
  simp only[CB,cond_true];rw[mR r.le (by omega) R];simp only[BG];rw[ji (k:=λg:af=>g.1) r.le r.lo (λi u H=>by
   have:=r.hi i u H;rcases CO H with O|O
   ·have h5:=r.hi m (by omega) (BW _);have h7:=dn.1 y m i (by omega) u O;omega
   ·subst O;have:t[m].1≠f.1:=λe=>J ⟨u,e⟩
    omega)]
def dp (l:List aM)(f:af):List aM:=if ∃ x∈l,x.1.1=f.1/\¬ bR f x.1 then l else bH (λx=>x.1.1) (f,4) l
theorem ui {l:List aM}{f:af}:dp l f=bif l.any (λx=>x.1.1==f.1&&!decide (bR f x.1)) then l else bH (λx=>x.1.1) (f,4) l:=by
 unfold dp;have:(∃ x∈l,x.1.1=f.1/\¬ bR f x.1)<->l.any (λx=>x.1.1==f.1&&!decide (bR f x.1))=true:=by
  rw[List.any_eq_true];simp
 by_cases h:∃ x∈l,x.1.1=f.1/\¬ bR f x.1
 ·rw[if_pos h,this.1 h];rfl
 ·rw[if_neg h,show l.any (λx=>x.1.1==f.1&&!decide (bR f x.1))=false by rw[Bool.eq_false_iff];exact λr=>h (this.2 r)];rfl
theorem Aa (K:Nat)(l:List aM)(f:af)(X:l.length<=1048576)(J:Asc (λx:aM=>x.1.1) l)(Y:1048577<K):Q155.f K (l,f,())=some ((dp l f,()),()):=by
 have:=sO (step:=λrec a=>Q155.s0 K (l,f,()) rec a) (λx:aM=>x.1.1) (f,4) l (λx=>x.1.1==f.1&&!decide (bR f x.1)) (some ((l,()),())) (λI=>some ((I,()),())) (λr d i=>(r,d,(i:Int))) ?_ ?_ l.length 0 K [] false (by omega) (by omega) (by simp) (by simp)
 ·refine Cw (this:Q155.f K (l,f,())=_) ?_;rw[B4,ui,lh J];cases l.any (λx=>x.1.1==f.1&&!decide (bR f x.1)) <;> rfl
 ·intro rec r d i M R H;simp only[Q155.s0];rw[bo (by omega:(i:Int)<(BH l:Int)),ag M,ar i (by omega)];simp only[cond_true,BG];have y:decide ((r.length+[((f,4):af×Nat)].length)*40<=ak)=true:=szb _ _ _ (by omega) (by simp;omega);have O:decide (((r++[((f,4):aM)]).length+[l[i]].length)*40<=ak)=true:=szb _ _ _ (by omega) (by simp;omega);have z:decide ((r.length+[l[i]].length)*40<=ak)=true:=szb _ _ _ (by omega) (by simp;omega);by_cases u:l[i].1.1=f.1
  ·rw[show (l[i].1.1==f.1)=true by simpa using u,show (l[i].1.1 != f.1)=false by simpa using u,show decide (f.1<=l[i].1.1)=true from decide_eq_true (by omega)];simp only[cond_true,cond_false,CV,C3,DU,BR];rw[show Q19.f K (f,l[i].1,())=_ from pJ K f l[i].1];simp only[BG];cases decide (bR f l[i].1) with
   |false=>rfl
   |true =>
    simp only[BP,cond_false];cases d with
    |true=>simp only[BP,cond_false,BR]
    |false =>
     simp only[CB,cond_true];rw[y];rfl
  ·rw[show (l[i].1.1==f.1)=false by simpa using u,show (l[i].1.1 != f.1)=true by simpa using u];simp only[cond_true,cond_false,Ce];cases d with
   |true =>
    simp only[BP,cond_false,Ce,BR,C7];rw[z];rfl
   |false =>
    simp only[CB,cond_true,CV,Ct];cases decide (f.1<=l[i].1.1) with
    |true =>
     simp only[cond_true];rw[y];simp only[cond_true];rw[O];rfl
    |false =>
     simp only[cond_false,BR];rw[z];rfl
 ·intro rec r d R H;simp only[Q155.s0,aR];cases d with
  |true=>simp only[BP,cond_false,cond_true,BR]
  |false =>
   have:=H rfl;have y:decide ((r.length+[((f,4):af×Nat)].length)*40<=ak)=true:=szb _ _ _ (by omega) (by simp;omega);simp only[CB,cond_true,cond_false];rw[y];rfl
theorem xe (K:Nat)(l:List aM)(f:af)(Z:l.length<=1048576)(O:cP l)(hf:bA f)(hK:1048577<K):Q68.f K (l,f,())=some ((dp l f,()),()):=by
 simp only[Q68.f,Q2.f,Q3.f];obtain⟨b1,e1,e2⟩:=oY K l Z hK;have a0:=e2.2 O;subst a0;obtain⟨b2,e3,e4⟩:=md K f;have a2:=e4.2 hf;subst a2;rw[e1];simp only[BG,BP,cond_false];rw[e3];simp only[BG,BP,cond_false];rw[dY (by omega)];simp only[BG];rw[uR K l Z hK];simp only[BG];have hA:Asc (λg:af=>g.1) (l.map (·.1)):=by
  have:=O.2;unfold Asc at this ⊢;rw[B9];exact this
 have r:(l.map (·.1)).length=l.length:=BU _;obtain⟨m,hm,h1⟩:=sM K (l.map (·.1)) f.1 (by rw[r];exact Z) hA hK;rw[h1];simp only[BG];have y:∀ i (h:i<l.length),(l.map (·.1))[i]'(by rw[r];exact h)=l[i].1:=λi h=>DK _
 have I:=hm.le;rw[r]at I;have lo:∀ i,(u:i<l.length)->i<m->l[i].1.1<f.1:=λi u J=>by have:=hm.lo i (by rw[r];exact u) J;rwa [y i u]at this
 have X:∀ i,(u:i<l.length)->m<=i->f.1<=l[i].1.1:=λi u J=>by have:=hm.hi i (by rw[r];exact u) J;rwa [y i u]at this
 by_cases he:∃ h:m<l.length,l[m].1.1=f.1
 ·obtain⟨z,H⟩:=he;rw[decide_eq_true ⟨by rw[r];exact z,by rw[y m z];exact H⟩];simp only[BP,cond_false,ag z,BG,BK];rw[show Q50.f K (f,l[m].1,())=_ from mP K f l[m].1 hK];simp only[BG];have a1:∀ x∈l,x.1.1=f.1->x=l[m]:=λx M e=>by
   obtain⟨i,u,rfl⟩:=BO M;have:=oT O.2 u z (by show l[i].1.1=l[m].1.1;rw[e,H]);subst this;rfl
  by_cases Y:bR f l[m].1
  ·rw[decide_eq_true ((jH H.symm).2 Y),dp,if_neg (λ⟨x,M,e,hn⟩=>hn (by rw[a1 x M e];exact Y)),kv (k:=λx:aM=>x.1.1) (x:=(f,4)) O.2 z H];rfl
  ·rw[decide_eq_false (λh=>Y ((jH H.symm).1 h)),dp,if_pos ⟨l[m],BI z,H,Y⟩];rfl
 ·have R:∀ x∈l,x.1.1≠f.1:=λx M e=>by
   obtain⟨i,u,rfl⟩:=BO M;rcases Cn i m with h|h|h
   ·have:=lo i u h;omega
   ·subst h;exact he ⟨u,e⟩
   ·have h5:=X m (by omega) (BW _);have h6:l[m].1.1<l[i].1.1:=dn.1 O.2 m i (by omega) u h;omega
  rw[decide_eq_false (λ⟨z,H⟩=>he ⟨by rw[r]at z;exact z,by rw[y m (by rw[r]at z;exact z)]at H;exact H⟩),dp,if_neg (λ⟨x,M,e,_⟩=>R x M e)];simp only[CB,cond_true];rw[mR I (by omega) Z];simp only[BG];rw[ji (k:=λx:aM=>x.1.1) (x:=(f,4)) I lo (λi u a3=>by
   have h1:=X i u a3;have z:=R l[i] (BI u);show f.1<l[i].1.1;omega)]
theorem oh {α:Type}{k:α->Int}{x:α}:∀ {r:List α},kd k x true r=r.filter (λy=>k y != k x)
 |[]=>rfl
 |y::r=>by
  simp only[kd,BP,Ce,cond_false,C7,BT,CC];rw[oh];cases k y != k x <;> rfl
theorem uj {α:Type}{k:α->Int}{x:α}{xs:List α}:bH k x (xs.filter λy=>!(k y==k x))=bH k x xs:=by
 simp only[bH,List.filter_filter];congr 1
 ·refine Cz λy _=>?_
  by_cases h:k y<k x
  ·rw[decide_eq_true h];simp;omega
  ·rw[decide_eq_false h];rfl
 ·congr 1;refine Cz λy _=>?_
  by_cases h:k x<k y
  ·rw[decide_eq_true h];simp;omega
  ·rw[decide_eq_false h];rfl
def mkD (r:Int)(f:af)(b:Int):bN:=(f.1,f.2.1,r,[b])
def cN (r:Int)(ds:List bN)(f:af)(b:Int):List bN:=if f.2.2.1=2 then bH (λd=>d.1) (mkD r f b) ds else ds.filter (λd=>!(d.1==f.1))
theorem Ab (K:Nat)(n:aa)(f:af)(b:Int)(X:(aa.doubts n).length<=1048576)(I:Asc (λd:bN=>d.1) (aa.doubts n))(Y:1048577<K) :
  Q156.f K (n,f,b,())=some ((cN n.2.2.2.2.2.1 (aa.doubts n) f b,()),()):=by
 have:=sO (step:=λrec a=>Q156.s0 K (n,f,b,()) rec a) (λd:bN=>d.1) (mkD n.2.2.2.2.2.1 f b) (aa.doubts n) (λ_=>false) none (λH=>some ((H,()),())) (λr d i=>(r,d,(i:Int))) ?_ ?_ (aa.doubts n).length 0 K [] (f.2.2.1 != 2) (by omega) (by omega) (by simp) (by simp)
 ·refine Cw (this:Q156.f K (n,f,b,())=_) ?_;rw[B4,show (aa.doubts n).any (λ_=>false)=false by simp,cN];by_cases u:f.2.2.1=2
  ·rw[if_pos u,show (f.2.2.1 != 2)=false by simpa using u,lh I];rfl
  ·rw[if_neg u,show (f.2.2.1 != 2)=true by simpa using u,oh];rfl
 ·intro rec r d i J R z;simp only[Q156.s0];rw[bo (by omega:(i:Int)<(BH (aa.doubts n):Int)),ag J,ar i (by omega)];simp only[cond_true,cond_false,BG];have y:decide ((r.length+[mkD n.2.2.2.2.2.1 f b].length)*48<=ak)=true:=szb _ _ _ (by omega) (by simp;omega);have O:decide (((r++[mkD n.2.2.2.2.2.1 f b]).length+[(aa.doubts n)[i]].length)*48<=ak)=true:=szb _ _ _ (by omega) (by simp;omega);have M:decide ((r.length+[(aa.doubts n)[i]].length)*48<=ak)=true:=szb _ _ _ (by omega) (by simp;omega);show (bif !d then (bif decide (f.1<=(aa.doubts n)[i].1) then (bif decide ((r.length+[mkD n.2.2.2.2.2.1 f b].length)*48<=ak) then (bif (aa.doubts n)[i].1 != f.1 then (bif decide (((r++[mkD n.2.2.2.2.2.1 f b]).length+[(aa.doubts n)[i]].length)*48<=ak) then (rec ((r++[mkD n.2.2.2.2.2.1 f b])++[(aa.doubts n)[i]],true,((i+1:Nat):Int))) else none) else (rec (r++[mkD n.2.2.2.2.2.1 f b],true,((i+1:Nat):Int)))) else none) else (bif (aa.doubts n)[i].1 != f.1 then (bif decide ((r.length+[(aa.doubts n)[i]].length)*48<=ak) then (rec (r++[(aa.doubts n)[i]],d,((i+1:Nat):Int))) else none) else (rec (r,d,((i+1:Nat):Int))))) else (bif (aa.doubts n)[i].1 != f.1 then (bif decide ((r.length+[(aa.doubts n)[i]].length)*48<=ak) then (rec (r++[(aa.doubts n)[i]],d,((i+1:Nat):Int))) else none) else (rec (r,d,((i+1:Nat):Int)))))=rec ((r++(bif !d&&decide (f.1<=(aa.doubts n)[i].1) then [mkD n.2.2.2.2.2.1 f b] else []))++(bif (aa.doubts n)[i].1 != f.1 then [(aa.doubts n)[i]] else []),d||decide (f.1<=(aa.doubts n)[i].1),((i+1:Nat):Int));rw[y,O,M];cases d <;> cases decide (f.1<=(aa.doubts n)[i].1) <;> cases (aa.doubts n)[i].1 != f.1 <;> simp only[BP,CB,CV,Ce,C7,Ct,cond_true,cond_false,BR]
 ·intro rec r d R z;simp only[Q156.s0,aR];cases d with
  |true=>simp only[BP,cond_false,cond_true,BR]
  |false =>
   have:=z rfl;have y:decide ((r.length+[mkD n.2.2.2.2.2.1 f b].length)*48<=ak)=true:=szb _ _ _ (by omega) (by simp;omega);show (bif decide ((r.length+[mkD n.2.2.2.2.2.1 f b].length)*48<=ak) then some ((r++[mkD n.2.2.2.2.2.1 f b],()),()) else none)=some ((r++[mkD n.2.2.2.2.2.1 f b],()),());rw[y];rfl
theorem Ac (K:Nat)(t:List bN)(r:Int)(Z:t.length<=1048576)(H:Asc (λd:bN=>d.1) t)(h7:∀ d∈t,InP d.1 0 7)(Y:InP r 0 7)(hK:1048577<K) :
  ∃ m,m<=t.length/\(∀ i,(h:i<t.length)->i<m->t[i].1<r)/\(∀ i,(h:i<t.length)->m<=i->r<=t[i].1)/\∃ b,Q71.f K (t,r,(λz=>(Q72.f K (z.1,z.2.1,())).map λy=>y.1.1),())=some ((((m:Nat):Int),b,()),()):=by
 let ks:Nat->Int:=λi=>if h:i<t.length then t[i].1 else 0
 have u:∀ i (h:i<t.length),ks i=t[i].1:=λi h=>by simp[ks,h]
 let J:Nat->Option ((Int×Bool×Unit)×Unit):=λm=>some ((((m:Nat):Int),decide (∃ h:m<t.length,t[m].1=r),()),())
 have R:∀ d∈t,((Q72.f K (d,r,())).map λy=>y.1.1)=some (d.1-r):=λd hd=>by
  obtain⟨a1,a2⟩:=h7 d hd;obtain⟨a3,a4⟩:=Y;simp only[Q72.f];rw[aE (by omega) (by omega)];rfl
 have:=wY (step:=λrec a=>Q71.s0 K (t,r,(λz=>(Q72.f K (z.1,z.2.1,())).map λy=>y.1.1),()) rec a) (ks:=ks) (n:=t.length) (t:=r) J Z
  (λi j M X=>by
   rw[u i (by omega),u j X];exact dn.1 H i j (by omega) X M) ?_ ?_ t.length K 0 t.length (by omega) (BX _) (BW _) (by omega) (λi I=>by omega) (λi I Y=>by omega)
 ·obtain⟨m,h1,h2,h3,h4⟩:=this;exact⟨m,h1,λi h I=>by rw[<- u i h];exact h2 i I,λi h I=>by rw[<- u i h];exact h3 i I h,_,h4⟩
 ·intro rec a b a0 hb;have O:(a+b) / 2<t.length:=by omega
  simp only[Q71.s0];rw[decide_eq_true (by omega:(a:Int)<(b:Int)),uO (by omega)];simp only[cond_true];rw[ag O];simp only[BG,R _ (BI O)];rw[u _ O,ar _ (by omega)];by_cases h:t[(a+b) / 2].1<r
  ·rw[if_pos h,decide_eq_true (by omega:t[(a+b) / 2].1-r<0)];rfl
  ·rw[if_neg h,decide_eq_false (by omega:¬ t[(a+b) / 2].1-r<0)];rfl
 ·intro rec a ha;simp only[Q71.s0];rw[decide_eq_false (by omega)];simp only[cond_false];by_cases h:a<t.length
  ·rw[decide_eq_true (by omega:(a:Int)<(BH t:Int)),ag h];simp only[cond_true,BG,R _ (BI h)];have:(t[a].1-r==0)=decide (∃ h:a<t.length,t[a].1=r):=by
    rw[CR];simp only[beq_iff_eq,decide_eq_true_eq];exact⟨λe=>⟨h,by omega⟩,λ⟨_,e⟩=>by omega⟩
   rw[this]
  ·rw[decide_eq_false (by omega:¬ (a:Int)<(BH t:Int))];simp only[cond_false,J];rw[decide_eq_false (λ⟨h',_⟩=>h h')]
def iT (n:aa)(t:List af)(c:List aM)(ds:List bN):aa :=
 (n.1,n.2.1,n.2.2.1,n.2.2.2.1,n.2.2.2.2.1,n.2.2.2.2.2.1,n.2.2.2.2.2.2.1,n.2.2.2.2.2.2.2.1,t,c,n.2.2.2.2.2.2.2.2.2.2.1,ds,n.2.2.2.2.2.2.2.2.2.2.2.2)
def ke (n:aa)(f:af):Bool:=decide (∃ g∈aa.table n,g.1=f.1/\g.2.1=f.2.1/\g.2.2.1=f.2.2.1)
def sayOf (n:aa)(f:af)(b:Int):aa :=
 bif (bS (aa.table n) f).2 then iT n (bS (aa.table n) f).1 (dp (aa.cast n) f) (bif ke n f then aa.doubts n else cN n.2.2.2.2.2.1 (aa.doubts n) f b) else n
structure b8 (n:aa):Prop where
 table:ax (aa.table n)
 cast:cP (aa.cast n)
 asc:Asc (λd:bN=>d.1) (aa.doubts n)
 inp:∀ d∈aa.doubts n,InP d.1 0 7
 lt:(aa.table n).length<=1048576
 lc:(aa.cast n).length<=1048576
 ld:(aa.doubts n).length<=1048576
theorem sQ {n:aa}{f g:af}(u:Asc (λg:af=>g.1) (aa.table n))(r:g∈aa.table n)(e:g.1=f.1):ke n f=(g.2.1==f.2.1&&g.2.2.1==f.2.2.1):=by
 rw[CR,ke,decide_eq_true_eq,CN,beq_iff_eq,beq_iff_eq];constructor
 ·rintro⟨x,hx,h1,h2,h3⟩;have:=gU u hx r (by rw[h1,e]);subst this;exact⟨h2,h3⟩
 ·rintro⟨h1,h2⟩;exact⟨g,r,e,h1,h2⟩
theorem sR {n:aa}{f:af}(h:∀ g∈aa.table n,g.1≠f.1):ke n f=false :=
 decide_eq_false λ⟨g,r,e,_⟩=>h g r e
theorem pK (K:Nat)(n:aa)(f:af)(b:Int)(h:b8 n)(r:1048577<K):Q194.f K (n,f,b,())=some ((sayOf n f b,()),()):=by
 simp only[Q194.f,zcp8];rw[show Q154.f K (n.2.2.2.2.2.2.2.2.1,f,())=_ from put_s K (aa.table n) f h.lt h.table.2 r];simp only[BG];cases y:(bS (aa.table n) f).2 with
 |false =>
  simp only[sayOf,y];rfl
 |true =>
  simp only[sayOf,y,BP,cond_false,cond_true];obtain⟨o,J,M⟩:=fC K (aa.table n) f.1 h.lt r;rw[show Q16.f K (n.2.2.2.2.2.2.2.2.1,f.1,())=_ from M];simp only[BG];have z:=Ab K (n.1,n.2.1,n.2.2.1,n.2.2.2.1,n.2.2.2.2.1,n.2.2.2.2.2.1,n.2.2.2.2.2.2.1,n.2.2.2.2.2.2.2.1,(bS (aa.table n) f).1,dp (aa.cast n) f,n.2.2.2.2.2.2.2.2.2.2) f b h.ld h.asc r;have H:=Aa K (aa.cast n) f h.lc h.cast.2 r;cases J with
  |at_ i I e =>
   simp only;rw[sQ h.table.2 (BI I) e,decide_eq_true (by omega:((i:Nat):Int)>=0)];simp only[cond_true];rw[show idx n.2.2.2.2.2.2.2.2.1 (i:Int)=some (aa.table n)[i] from ag I];simp only[BG];rw[show Q155.f K (n.2.2.2.2.2.2.2.2.2.1,f,())=_ from H];simp only[BG];rw[z];cases (aa.table n)[i].2.1==f.2.1 with
   |true =>
    cases (aa.table n)[i].2.2.1==f.2.2.1 <;> rfl
   |false=>rfl
  |no u =>
   simp only;rw[sR u,decide_eq_false (by omega:¬ (-1:Int)>=0)];simp only[cond_false];rw[show Q155.f K (n.2.2.2.2.2.2.2.2.2.1,f,())=_ from H];simp only[BG];rw[z];rfl
theorem mf {α:Type}{k:α->Int}{xs:List α}(h:Asc k xs)(p:α->Bool):Asc k (xs.filter p):=Cf p h
theorem Ad {R:Type}(K:Nat)(r:Int)(ds:List bN)(f:af)(b:Int)(G:List bN->Option R)(O:ds.length<=1048576)(Y:Asc (λd:bN=>d.1) ds)(h7:∀ d∈ds,InP d.1 0 7)(hf:bA f)(hK:1048577<K) :
  ((Q4.f K (ds,(λI=>(Q70.f K (I.1,f,())).map λy=>y.1.1),())).bind λH=>bif f.2.2.1==2 then ((Q71.f K (H.1.1,f.1,(λM=>(Q72.f K (M.1,M.2.1,())).map λy=>y.1.1),())).bind λy7=>(Q5.f K (H.1.1,y7.1.1,[mkD r f b],())).bind λy8=>G y8.1.1) else G H.1.1)=G (cN r ds f b):=by
 rw[show Q4.f K (ds,(λI=>(Q70.f K (I.1,f,())).map λy=>y.1.1),())=some ((ds.filter (λd=>!(d.1==f.1)),()),()) by
  simp only[Q4.f];exact rg _ O (λd _=>rfl)]
 simp only[BG,cN];by_cases z:f.2.2.1=2
 ·rw[if_pos z,show (f.2.2.1==2)=true by simpa using z];simp only[cond_true];have u:(ds.filter (λd=>!(d.1==f.1))).length<=1048576:=BZ (CA _ _) O;obtain⟨m,X,lo,hi,b',e⟩:=Ac K (ds.filter (λd=>!(d.1==f.1))) f.1 u (mf Y _) (λd hd=>h7 d (BN.1 hd).1) hf.1 hK;rw[e];simp only[BG];rw[show Q5.f K (ds.filter (λd=>!(d.1==f.1)),(m:Int),[mkD r f b],())=some (((ds.filter (λd=>!(d.1==f.1))).take m++[mkD r f b]++(ds.filter (λd=>!(d.1==f.1))).drop m,()),()) by
   simp only[Q5.f];exact mR X (by omega) u]
  simp only[BG];have:=ji (k:=λd:bN=>d.1) (x:=mkD r f b) X lo (λi h J=>by
   have h1:=hi i h J;have Z:(!((ds.filter (λd=>!(d.1==f.1)))[i].1==f.1))=true:=(BN.1 (BI h)).2;have h4:(ds.filter (λd=>!(d.1==f.1)))[i].1≠f.1:=by simpa using Z
   show f.1<_;omega)
  rw[this];exact congrArg G (uj (k:=λd:bN=>d.1) (x:=mkD r f b))
 ·rw[if_neg z,show (f.2.2.1==2)=false by simpa using z];rfl
theorem zL (K:Nat)(n:aa)(f:af)(b:Int)(h:b8 n)(y:bA f)(u:1048577<K):Q73.f K (n,f,b,())=some ((),(sayOf n f b,())):=by
 simp only[Q73.f,zcp8];have J:∃ g:af,∃ z,Q37.f K (aa.table n,f.1,())=some ((g,z,()),())/\ke n f=(g.2.2.1==f.2.2.1&&g.2.1==f.2.1):=by
  rcases iD K (aa.table n) f.1 h.lt u with ⟨r,_⟩|⟨_,⟨g,R,e,r⟩|⟨O,r⟩⟩
  ·exact absurd h.table r
  ·exact⟨g,_,r,by rw[sQ h.table.2 R e,Bool.and_comm]⟩
  ·refine⟨_,_,r,?_⟩;rw[sR O,show ((0:Int)==f.2.2.1)=false by have:=y.2.2.1;simp;omega];rfl
 obtain⟨g,z,r,X⟩:=J;rw[show Q37.f K (n.2.2.2.2.2.2.2.2.1,f.1,())=_ from r];simp only[BG];rw[show Q67.f K (n.2.2.2.2.2.2.2.2.1,f,())=_ from zK K (aa.table n) f h.lt h.table.2 u];simp only[BG];cases H:(bS (aa.table n) f).2 with
 |false =>
  simp only[sayOf,H];rfl
 |true =>
  simp only[sayOf,H,BP,cond_false,cond_true];rw[show Q68.f K (n.2.2.2.2.2.2.2.2.2.1,f,())=_ from xe K (aa.cast n) f h.lc h.cast y u];simp only[BG];have I:=Ad K n.2.2.2.2.2.1 (aa.doubts n) f b (λM=>some ((),(iT n (bS (aa.table n) f).1 (dp (aa.cast n) f) M,()))) h.ld h.asc h.inp y u;rw[X];cases g.2.2.1==f.2.2.1 with
  |true =>
   cases g.2.1==f.2.1 with
   |true=>rfl
   |false=>exact I
  |false=>exact I
theorem iU {α:Type}{k:α->Int}{xs:List α}(h:Asc k xs)(u:∀ x∈xs,InP (k x) 0 7):xs.length<=8:=by
 have:=(jh (xs.map k) [0,1,2,3,4,5,6,7] (by unfold Asc at h;rw[B9];exact h) (by decide) (λy r=>by
  obtain⟨x,z,rfl⟩:=B3.1 r;obtain⟨I,H⟩:=u x z;simp only[CK,Cr,or_false];omega)).1
 rw[BU]at this;exact this
theorem gZ (t:List af)(f:af):(bS t f).1=t\/(bS t f).1=bH (λg=>g.1) f t:=by
 unfold bS;split
 ·split
  ·exact .inr rfl
  ·exact .inl rfl
 ·exact .inr rfl
theorem kx {t:List af}{f:af}(h:ax t)(u:bA f):ax (bS t f).1:=by
 rcases gZ t f with e|e
 ·rw[e];exact h
 ·rw[e];refine⟨λg r=>?_,fj h.2⟩;rcases aZ.1 r with rfl|⟨y,_⟩
  ·exact u
  ·exact h.1 g y
theorem pL {l:List aM}{f:af}(h:cP l)(r:bA f):cP (dp l f):=by
 unfold dp;split
 ·exact h
 ·refine⟨λx u=>?_,fj h.2⟩;rcases aZ.1 u with rfl|⟨y,_⟩
  ·exact⟨r,show (1:Int)<=4 by omega,show (4:Int)<=4 by omega⟩
  ·exact h.1 x y
theorem ky {r:Int}{ds:List bN}{f:af}{b:Int}{d:bN}(h:d∈cN r ds f b):d=mkD r f b\/d∈ds:=by
 unfold cN at h;split at h
 ·rcases aZ.1 h with h|h
  ·exact .inl h
  ·exact .inr h.1
 ·exact .inr (BN.1 h).1
theorem sS {r:Int}{ds:List bN}{f:af}{b:Int}(h:Asc (λd:bN=>d.1) ds):Asc (λd:bN=>d.1) (cN r ds f b):=by
 unfold cN;split
 ·exact fj h
 ·exact mf h _
theorem iI (n:aa)(f:af)(b:Int):∃ t c r,sayOf n f b=iT n t c r/\(t=aa.table n\/t=(bS (aa.table n) f).1)/\(c=aa.cast n\/c=dp (aa.cast n) f)/\(r=aa.doubts n\/r=cN n.2.2.2.2.2.1 (aa.doubts n) f b):=by
 unfold sayOf;cases (bS (aa.table n) f).2 with
 |false=>exact⟨aa.table n,aa.cast n,aa.doubts n,rfl,.inl rfl,.inl rfl,.inl rfl⟩
 |true =>
  cases ke n f with
  |true=>exact⟨_,_,_,rfl,.inr rfl,.inr rfl,.inl rfl⟩
  |false=>exact⟨_,_,_,rfl,.inr rfl,.inr rfl,.inr rfl⟩
theorem b8.mk' {n:aa}(r:ax (aa.table n))(u:cP (aa.cast n))(z:Asc (λd:bN=>d.1) (aa.doubts n))(y:∀ d∈aa.doubts n,InP d.1 0 7):b8 n where
 table:=r
 cast:=u
 asc:=z
 inp:=y
 lt:=BZ (iU r.2 (λg H=>(r.1 g H).1)) (by decide)
 lc:=BZ (iU u.2 (λx I=>(u.1 x I).1.1)) (by decide)
 ld:=BZ (iU z y) (by decide)
theorem jj {n:aa}{f:af}{b:Int}(h:b8 n)(r:bA f):b8 (sayOf n f b):=by
 obtain⟨t,c,z,e,I,H,y⟩:=iI n f b;rw[e];refine b8.mk' ?_ ?_ ?_ ?_
 ·show ax t;rcases I with rfl|rfl
  ·exact h.table
  ·exact kx h.table r
 ·show cP c;rcases H with rfl|rfl
  ·exact h.cast
  ·exact pL h.cast r
 ·show Asc _ z;rcases y with rfl|rfl
  ·exact h.asc
  ·exact sS h.asc
 ·show ∀ d∈z,InP d.1 0 7;rcases y with rfl|rfl
  ·exact h.inp
  ·intro d u;rcases ky u with rfl|u
   ·exact r.1
   ·exact h.inp d u
theorem yL {n:aa}{f:af}{b:Int}(h:∀ d∈aa.doubts n,d.2.2.2.length<=1048576):∀ d∈aa.doubts (sayOf n f b),d.2.2.2.length<=1048576:=by
 obtain⟨t,c,y,e,_,_,u⟩:=iI n f b;rw[e];show ∀ d∈y,_;rcases u with rfl|rfl
 ·exact h
 ·intro d r;rcases ky r with rfl|r
  ·exact Nat.succ_le_of_lt (by decide)
  ·exact h d r
theorem UpP.say {n:aa}(h:UpP n):b8 n:=by
 obtain⟨u,_,_,⟨H,_⟩,_,r,_⟩:=h;refine b8.mk' u H r.2.1 λd y=>?_
 obtain⟨f,z,e,_⟩:=(r.1 d y).1;rw[<- e];exact (u.1 f z).1
theorem lI {α β A R:Type}(t:List α)(p:α->Bool)(g:α->β)(S:List β->Nat->A)(u:List β->Option R){step:(A->Option R)->A->Option R}
  (h:∀ (rec:A->Option R) (r:List β) (i:Nat) (M:i<t.length),r.length<=i->step rec (S r i)=rec (S (bif p t[i] then r++[g t[i]] else r) (i+1)))
  (z:∀ (rec:A->Option R) (r:List β),r.length<=t.length->step rec (S r t.length)=u r) {k:Nat} (H:t.length<k) :
  ae step k (S [] 0)=u ((t.filter p).map g):=by
 have:∀ (d i k:Nat) (r:List β),i+d=t.length->d<k->r.length<=i->ae step k (S r i)=u (r++((t.drop i).filter p).map g):=by
  intro d;induction d with
  |zero =>
   intro i k r M H J;obtain⟨k,rfl⟩:∃ I,k=I+1:=⟨k-1,by omega⟩;have:i=t.length:=by omega
   subst this;show step (ae step k) _=_;rw[z _ _ J];simp
  |succ d O =>
   intro i k r M H J;obtain⟨k,rfl⟩:∃ I,k=I+1:=⟨k-1,by omega⟩;have y:i<t.length:=by omega
   show step (ae step k) _=_;rw[h _ _ _ y J,B8 y,CC];cases p t[i] with
   |true =>
    simp only[cond_true,if_true,C0];rw[O (i+1) k _ (by omega) (by omega) (by simp;omega),CH];rfl
   |false =>
    simp only[cond_false];rw[O (i+1) k _ (by omega) (by omega) (by omega)];rfl
 have:=this t.length 0 k [] (by omega) H (BW _)
 rwa [B4,BT]at this
def sU:aa:=(0,false,false,false,0,0,0,0,[],[],(0,0,0,false),[],(0,0,0,0),[],[])
theorem uk:NB sU where
 table:=BX _
 cast:=BX _
 doubts:=BX _
 by_:=λd r=>absurd r Cr
 places:=BX _
 trips:=λd r=>absurd r Cr
 others:=BX _
 facts:=λd r=>absurd r Cr
theorem szw (a b c:Nat)(r:c<=128)(h:a+b<=2097152):decide ((a+b)*c<=ak)=true:=by
 have:=Cl h r;exact decide_eq_true (by unfold ak;omega)
def kS (n:aa):aa:=(n.1,n.2.1,true,n.2.2.2)
def nP (r:Int)(n:aa)(to:Int):ao:=(1,r,n.1,to,0,n.1,aa.coord n,aa.table n)
theorem uU (K:Nat)(n:aa)(r to:Int)(u:(aa.table n).length<=1048576):Q101.f K (n,r,to,())=some ((nP r n to,()),()):=by
 simp only[Q101.f,zcp4,Q81.f,BG,Q0.f];rw[dY (by show (aa.table n).length*_<=_;omega)];rfl
theorem nQ (K:Nat)(n:aa)(r to:Int)(u:(aa.table n).length<=1048576):Q153.f K (n,r,to,0,n.1,aa.table n,())=some ((nP r n to,()),()):=by
 simp only[Q153.f];rw[szb _ _ _ (by omega) (by show (BH ([]:List af))+(aa.table n).length<=_;simp;omega)];rfl
def cL (f:af):Bool:=f.2.2.1==1||f.2.2.1==2
theorem uV (K:Nat)(t:List af)(f:af)(H:ax t)(y:t.length<=1048576)(r:f∈t)(J:1048577<K):Q196.f K (t,f.1,())=rb (cL f):=by
 simp only[Q196.f];obtain⟨o,z,I⟩:=fC K t f.1 y J;rw[I];simp only[BG];cases z with
 |at_ i u e =>
  simp only;rw[decide_eq_true (by omega:((i:Nat):Int)>=0),ag u];simp only[cond_true,BG];rw[gU H.2 (BI u) r e,cL];cases f.2.2.1==1 <;> rfl
 |no h=>exact absurd rfl (h f r)
def sW (n:aa)(f:af):Bool:=f.1 != n.1&&cL f
def lJ (n:aa):List ao:=((aa.table n).filter (sW n)).map λf=>nP 5 n f.1
def mS (n:aa):aa:=kS (sayOf n (n.1,n.2.2.2.2.1,4,n.2.2.2.1) n.1)
theorem sX (K:Nat)(x:ab Q212.ps)(m:aa)(I:ax (aa.table m))(u:(aa.table m).length<=1048576)(J:1048577<K) :
  Q212.l0 K x ([],0,m.1,m.2.1,m.2.2.2.1,m.2.2.2.2.1,m.2.2.2.2.2.1,m.2.2.2.2.2.2.1,m.2.2.2.2.2.2.2.1,m.2.2.2.2.2.2.2.2.1,m.2.2.2.2.2.2.2.2.2.1,m.2.2.2.2.2.2.2.2.2.2.1.1,m.2.2.2.2.2.2.2.2.2.2.1.2.1,m.2.2.2.2.2.2.2.2.2.2.1.2.2.1,m.2.2.2.2.2.2.2.2.2.2.1.2.2.2,m.2.2.2.2.2.2.2.2.2.2.2.1,m.2.2.2.2.2.2.2.2.2.2.2.2.1.1,m.2.2.2.2.2.2.2.2.2.2.2.2.1.2.1,m.2.2.2.2.2.2.2.2.2.2.2.2.1.2.2.1,m.2.2.2.2.2.2.2.2.2.2.2.2.1.2.2.2,m.2.2.2.2.2.2.2.2.2.2.2.2.2.1,m.2.2.2.2.2.2.2.2.2.2.2.2.2.2)=some ((kS m,lJ (kS m),()),()):=by
 refine lI (step:=λrec a=>Q212.s0 K x rec a) (aa.table m) (sW (kS m)) (λf=>nP 5 (kS m) f.1) (λr i=>(r,(i:Int),m.1,m.2.1,m.2.2.2.1,m.2.2.2.2.1,m.2.2.2.2.2.1,m.2.2.2.2.2.2.1,m.2.2.2.2.2.2.2.1,m.2.2.2.2.2.2.2.2.1,m.2.2.2.2.2.2.2.2.2.1,m.2.2.2.2.2.2.2.2.2.2.1.1,m.2.2.2.2.2.2.2.2.2.2.1.2.1,m.2.2.2.2.2.2.2.2.2.2.1.2.2.1,m.2.2.2.2.2.2.2.2.2.2.1.2.2.2,m.2.2.2.2.2.2.2.2.2.2.2.1,m.2.2.2.2.2.2.2.2.2.2.2.2.1.1,m.2.2.2.2.2.2.2.2.2.2.2.2.1.2.1,m.2.2.2.2.2.2.2.2.2.2.2.2.1.2.2.1,m.2.2.2.2.2.2.2.2.2.2.2.2.1.2.2.2,m.2.2.2.2.2.2.2.2.2.2.2.2.2.1,m.2.2.2.2.2.2.2.2.2.2.2.2.2.2)) (λz=>some ((kS m,z,()),())) ?_ ?_ (by omega)
 ·intro rec r i y H;simp only[Q212.s0,zceae5f];rw[show decide ((i:Int)<(BH m.2.2.2.2.2.2.2.2.1:Int))=true from bo (by omega:(i:Int)<(BH (aa.table m):Int)),show idx m.2.2.2.2.2.2.2.2.1 (i:Int)=some (aa.table m)[i] from ag y,ar i (by omega)];simp only[cond_true,BG,sW];rw[show (kS m).1=m.1 from rfl];cases M:(aa.table m)[i].1 != m.1 with
  |false=>rfl
  |true =>
   simp only[cond_true,CV];rw[show Q196.f K (m.2.2.2.2.2.2.2.2.1,(aa.table m)[i].1,())=_ from uV K (aa.table m) _ I u (BI y) J];simp only[BG];cases cL (aa.table m)[i] with
   |false=>rfl
   |true =>
    simp only[cond_true];refine (congrArg (λo=>CL o _) (nQ K (kS m) 5 (aa.table m)[i].1 u)).trans ?_;simp only[BG];rw[szw _ _ _ (by omega) (by simp;omega)];rfl
 ·intro rec r H;simp only[Q212.s0,zceae5f];rw[show decide ((BH (aa.table m):Int)<(BH m.2.2.2.2.2.2.2.2.1:Int))=false from aR _];rfl
theorem vJ {n:aa}(r:iR n):bA (n.1,n.2.2.2.2.1,4,n.2.2.2.1):=⟨r.1,r.2.2.2.2.1,show (1:Int)<=4 by omega,show (4:Int)<=4 by omega⟩
theorem Ae (K:Nat)(n:aa)(J:NB n)(y:iR n)(r:n.2.1=true)(I:n.2.2.1=false)(H:1048577<K):Q212.f K (n,())=some ((mS n,lJ (mS n),()),()):=by
 have u:=(y.up r).say;have z:=jj (b:=n.1) u (vJ y);simp only[Q212.f,Q212.pre];rw[r,I];simp only[BP,cond_false];rw[pK K n _ n.1 u H];exact sX K _ _ z.table z.lt H
theorem kT {α r A R:Type}(ds:List α)(st:r->α->r)(Inv:r->Prop)(S:r->Nat->A)(u:r->Option R){step:(A->Option R)->A->Option R}(n:r)(O:Inv n)
  (h:∀ (rec:A->Option R) (m:r) (i:Nat) (M:i<ds.length),Inv m->step rec (S m i)=rec (S (st m ds[i]) (i+1))/\Inv (st m ds[i]))
  (z:∀ (rec:A->Option R) (m:r),Inv m->step rec (S m ds.length)=u m) {k:Nat} (H:ds.length<k):ae step k (S n 0)=u (ds.foldl st n):=by
 have:∀ (d i k:Nat) (m:r),i+d=ds.length->d<k->Inv m->ae step k (S m i)=u ((ds.drop i).foldl st m):=by
  intro d;induction d with
  |zero =>
   intro i k m M H J;obtain⟨k,rfl⟩:∃ I,k=I+1:=⟨k-1,by omega⟩;have:i=ds.length:=by omega
   subst this;show step (ae step k) _=_;rw[z _ _ J,C4];rfl
  |succ d Z =>
   intro i k m M H J;obtain⟨k,rfl⟩:∃ I,k=I+1:=⟨k-1,by omega⟩;have y:i<ds.length:=by omega
   show step (ae step k) _=_;obtain⟨Y,X⟩:=h (ae step k) m i y J;rw[Y,B8 y];exact Z (i+1) k _ (by omega) (by omega) X
 have:=this ds.length 0 k n (by omega) H O
 rwa [B4]at this
theorem kz {α r:Type}{st:r->α->r}{Inv:r->Prop}:∀ {ds:List α} {n:r},Inv n->(∀ m,∀ d∈ds,Inv m->Inv (st m d))->Inv (ds.foldl st n)
 |[],_,h,_=>h
 |d::ds,n,h,y=>kz (ds:=ds) (y n d (by simp) h) (λm z u=>y m z (by simp[u]))
def aG (t:List af)(r:Int):af:=(t.find? λg=>g.1==r).getD (0,0,0,false)
theorem jK {t:List af}(u:Asc (λg:af=>g.1) t){f:af}(r:f∈t):aG t f.1=f:=by
 obtain⟨i,y,e⟩:=BO r;unfold aG;rw[show t.find? (λg=>g.1==f.1)=some t[i] from o6 u y (by rw[e]),e];rfl
theorem jL {t:List af}{r:Int}(h:∀ g∈t,g.1≠r):aG t r=(0,0,0,false):=by
 unfold aG;rw[show t.find? (λg=>g.1==r)=none from nO h];rfl
theorem iV (K:Nat)(t:List af)(r:Int)(y:ax t)(z:t.length<=1048576)(J:1048577<K):∃ b,Q37.f K (t,r,())=some ((aG t r,b,()),()):=by
 rcases iD K t r z J with ⟨u,_⟩|⟨_,⟨g,H,e,u⟩|⟨I,u⟩⟩
 ·exact absurd y u
 ·refine⟨true,?_⟩;rw[u,<- e,jK y.2 H]
 ·refine⟨false,?_⟩;rw[u,jL I]
theorem sY (K:Nat)(t:List af)(r:Int)(I:ax t)(y:t.length<=1048576)(H:1048577<K):Q196.f K (t,r,())=rb (cL (aG t r)):=by
 by_cases h:∃ f∈t,f.1=r
 ·obtain⟨f,z,rfl⟩:=h;rw[uV K t f I y z H,jK I.2 z]
 ·have u:∀ g∈t,g.1≠r:=λg M e=>h ⟨g,M,e⟩
  simp only[Q196.f];obtain⟨o,J,O⟩:=fC K t r y H;rw[O,jL u];cases J with
  |at_ i R e=>exact absurd e (u _ (BI R))
  |no _=>rfl
theorem sZ (K:Nat)(n:aa)(r:Int)(H:ax (aa.table n))(u:(aa.table n).length<=1048576)(I:1048577<K):Q79.f K (n,r,())=rb (cL (aG (aa.table n) r)):=by
 simp only[Q79.f,Q78.f];obtain⟨b,z⟩:=iV K (aa.table n) r H u I;rw[show Q37.f K (n.2.2.2.2.2.2.2.2.1,r,())=_ from z];simp only[BG];obtain⟨b,J,y⟩:=fA K (aG (aa.table n) r).2.2.1 1 2;rw[J];have:b=cL (aG (aa.table n) r):=by
  rw[CR,y,cL,Bool.or_eq_true,beq_iff_eq,beq_iff_eq];show (1<=(aG (aa.table n) r).2.2.1/\(aG (aa.table n) r).2.2.1<=2)<->_;omega
 rw[this];rfl
theorem eH (n:aa)(f:af)(b:Int):(sayOf n f b).1=n.1/\(sayOf n f b).2.1=n.2.1/\(sayOf n f b).2.2.1=n.2.2.1/\(sayOf n f b).2.2.2.1=n.2.2.2.1/\(sayOf n f b).2.2.2.2.1=n.2.2.2.2.1/\(sayOf n f b).2.2.2.2.2.1=n.2.2.2.2.2.1/\(sayOf n f b).2.2.2.2.2.2.1=n.2.2.2.2.2.2.1/\(sayOf n f b).2.2.2.2.2.2.2.1=n.2.2.2.2.2.2.2.1/\aa.probe (sayOf n f b)=aa.probe n/\(sayOf n f b).2.2.2.2.2.2.2.2.2.2.2.2=n.2.2.2.2.2.2.2.2.2.2.2.2:=by
 obtain⟨t,c,r,e,_⟩:=iI n f b;rw[e];exact⟨rfl,rfl,rfl,rfl,rfl,rfl,rfl,rfl,rfl,rfl⟩
theorem mT {t:List af}{f g:af}(r:g∈t):∃ u∈(bS t f).1,u.1=g.1:=by
 rcases gZ t f with e|e
 ·rw[e];exact⟨g,r,rfl⟩
 ·rw[e];by_cases h:g.1=f.1
  ·exact⟨f,aZ.2 (.inl rfl),h.symm⟩
  ·exact⟨g,aZ.2 (.inr ⟨r,h⟩),rfl⟩
theorem jM {n:aa}{f:af}{b:Int}{g:af}(r:g∈aa.table n):∃ u∈aa.table (sayOf n f b),u.1=g.1:=by
 obtain⟨t,c,z,e,y,_⟩:=iI n f b;rw[e];rcases y with rfl|rfl
 ·exact⟨g,r,rfl⟩
 ·exact mT r
def kA (u r:Int)(len:Nat):Bool:=decide (u-r>=if 6-(len:Int)+1<3 then 3 else 6-(len:Int)+1)
def jy (f:af):af:=(f.1,f.2.1,3,f.2.2.2)
def dj (n:aa)(d:bN):aa:=bif kA n.2.2.2.2.2.1 d.2.2.1 d.2.2.2.length then sayOf n (jy (aG (aa.table n) d.1)) n.1 else n
def cM (n:aa):aa:=(aa.doubts n).foldl dj n
theorem due_s (K:Nat)(r:Int)(d:bN)(y:0<=d.2.2.1)(H:d.2.2.1<=r)(u:r<=1000000)(z:d.2.2.2.length<=1048576):Q193.f K (r,d,())=rb (kA r d.2.2.1 d.2.2.2.length):=by
 simp only[Q193.f];rw[aE (n:=6-(BH d.2.2.2:Int)) (by omega) (by omega),aE (n:=6-(BH d.2.2.2:Int)+1) (by omega) (by omega),aE (n:=r-d.2.2.1) (by omega) (by omega)];unfold kA;by_cases h:6-(BH d.2.2.2:Int)+1<3
 ·rw[decide_eq_true h,if_pos h];rfl
 ·rw[decide_eq_false h,if_neg h];rfl
theorem Af (K:Nat)(a b c:Int)(len:Nat)(r:len<=1048576):Q66.f K ((a,b,c,len),())=some ((if 6-(len:Int)+1<3 then 3 else 6-(len:Int)+1,()),()):=by
 simp only[Q66.f];rw[aE (n:=6-(len:Int)) (by omega) (by omega),aE (n:=6-(len:Int)+1) (by omega) (by omega)];by_cases h:6-(len:Int)+1<3
 ·rw[decide_eq_true h,if_pos h];rfl
 ·rw[decide_eq_false h,if_neg h];rfl
structure jN (ds:List bN) (now:Int) (n:aa):Prop where
 ok:b8 n
 key:∀ d∈ds,∃ f∈aa.table n,f.1=d.1
 now_:n.2.2.2.2.2.1=now
theorem nR {f:af}(h:bA f):bA (jy f):=⟨h.1,h.2.1,show (1:Int)<=3 by omega,show (3:Int)<=4 by omega⟩
theorem c7 {t:List af}{r:Int}(y:ax t)(h:∃ f∈t,f.1=r):bA (aG t r)/\(aG t r).1=r/\aG t r∈t:=by
 obtain⟨f,u,rfl⟩:=h;rw[jK y.2 u];exact⟨y.1 f u,rfl,u⟩
theorem li {ds:List bN}{r:Int}{n:aa}{d:bN}(h:jN ds r n)(I:d∈ds):jN ds r (dj n d):=by
 unfold dj;cases kA n.2.2.2.2.2.1 d.2.2.1 d.2.2.2.length with
 |false=>exact h
 |true =>
  have M:=nR (c7 h.ok.table (h.key d I)).1;refine⟨jj h.ok M,λH u=>?_,(eH n _ _).2.2.2.2.2.1.trans h.now_⟩;obtain⟨g,z,e⟩:=h.key H u;obtain⟨O,y,J⟩:=jM (f:=jy (aG (aa.table n) d.1)) (b:=n.1) z;exact⟨O,y,J.trans e⟩
theorem xf (K:Nat)(n:aa)(h:jN (aa.doubts n) n.2.2.2.2.2.1 n)(hd:∀ d∈aa.doubts n,0<=d.2.2.1/\d.2.2.1<=n.2.2.2.2.2.1/\d.2.2.2.length<=1048576)(z:n.2.2.2.2.2.1<=1000000)(O:1048577<K):Q195.f K (n,())=some ((cM n,()),()):=by
 have hl:=h.ok.ld;refine kT (step:=λrec a=>Q195.s0 K (n,()) rec a) (aa.doubts n) dj (jN (aa.doubts n) n.2.2.2.2.2.1) (λm i=>((i:Int),m.1,m.2.1,m.2.2.1,m.2.2.2.1,m.2.2.2.2.1,m.2.2.2.2.2.1,m.2.2.2.2.2.2.1,m.2.2.2.2.2.2.2.1,m.2.2.2.2.2.2.2.2.1,m.2.2.2.2.2.2.2.2.2.1,m.2.2.2.2.2.2.2.2.2.2.1.1,m.2.2.2.2.2.2.2.2.2.2.1.2.1,m.2.2.2.2.2.2.2.2.2.2.1.2.2.1,m.2.2.2.2.2.2.2.2.2.2.1.2.2.2,m.2.2.2.2.2.2.2.2.2.2.2.1,m.2.2.2.2.2.2.2.2.2.2.2.2.1.1,m.2.2.2.2.2.2.2.2.2.2.2.2.1.2.1,m.2.2.2.2.2.2.2.2.2.2.2.2.1.2.2.1,m.2.2.2.2.2.2.2.2.2.2.2.2.1.2.2.2,m.2.2.2.2.2.2.2.2.2.2.2.2.2.1,m.2.2.2.2.2.2.2.2.2.2.2.2.2.2)) (λm=>some ((m,()),())) n h ?_ ?_ (by omega)
 ·intro rec m i H u;refine⟨?_,li u (BI H)⟩;simp only[Q195.s0,zc286a0,zc3ec45];obtain⟨J,R,I⟩:=hd _ (BI H);rw[show decide ((i:Int)<(BH n.2.2.2.2.2.2.2.2.2.2.2.1:Int))=true from bo (by omega:(i:Int)<(BH (aa.doubts n):Int)),show idx n.2.2.2.2.2.2.2.2.2.2.2.1 (i:Int)=some (aa.doubts n)[i] from ag H,ar i (by omega)];simp only[cond_true,BG];rw[due_s K m.2.2.2.2.2.1 (aa.doubts n)[i] J (by rw[u.now_];exact R) (by rw[u.now_];exact z) I];simp only[BG];have r:=u.key _ (BI H);generalize (aa.doubts n)[i]=d at r J R I ⊢;unfold dj;cases kA m.2.2.2.2.2.1 d.2.2.1 d.2.2.2.length with
  |false=>rfl
  |true =>
   simp only[cond_true];have y:=c7 u.ok.table r;obtain⟨o,X,Z⟩:=fC K (aa.table m) d.1 u.ok.lt O;rw[show Q16.f K (m.2.2.2.2.2.2.2.2.1,d.1,())=_ from Z];simp only[BG];cases X with
   |no h=>exact absurd r (λ⟨f,Y,e⟩=>h f Y e)
   |at_ j M e =>
    simp only;rw[show idx m.2.2.2.2.2.2.2.2.1 ((j:Nat):Int)=some (aa.table m)[j] from ag M,gU u.ok.table.2 (BI M) y.2.2 (by rw[e,y.2.1])];simp only[BG];refine (congrArg (λo=>CL o _) (pK K m (jy (aG (aa.table m) d.1)) m.1 u.ok O)).trans ?_;rfl
 ·intro rec m u;simp only[Q195.s0,zc286a0,zc3ec45];rw[show decide ((BH (aa.doubts n):Int)<(BH n.2.2.2.2.2.2.2.2.2.2.2.1:Int))=false from aR _];rfl
theorem AZ (K:Nat)(n:aa)(h:jN (aa.doubts n) n.2.2.2.2.2.1 n)(hd:∀ d∈aa.doubts n,0<=d.2.2.1/\d.2.2.1<=n.2.2.2.2.2.1/\d.2.2.2.length<=1048576)(Z:n.2.2.2.2.2.1<=1000000)(Y:1048577<K):Q74.f K (n,())=some ((),(cM n,())):=by
 have hl:=h.ok.ld;simp only[Q74.f,Q74.pre,zc3ec45];have hc:∃ r:List (Int×Int×Int×Nat),r=(aa.doubts n).map (λd=>(d.1,d.2.1,d.2.2.1,d.2.2.2.length))/\Q7.f K (aa.doubts n,())=some ((r,()),()):=by
  refine⟨_,rfl,?_⟩;simp only[Q7.f,qr];rw[dY (by omega)];rfl
 obtain⟨r,I,e⟩:=hc;rw[show Q7.f K (n.2.2.2.2.2.2.2.2.2.2.2.1,())=_ from e];simp only[BG];have H:r.length=(aa.doubts n).length:=by rw[I,BU]
 have M:∀ i (z:i<(aa.doubts n).length),r[i]'(by rw[H];exact z)=((aa.doubts n)[i].1,(aa.doubts n)[i].2.1,(aa.doubts n)[i].2.2.1,(aa.doubts n)[i].2.2.2.length):=λi z=>by
  simp only[I,DK]
 clear I;refine kT (step:=λrec a=>Q74.s0 K (n,()) rec a) (aa.doubts n) dj (jN (aa.doubts n) n.2.2.2.2.2.1) (λm i=>(r,(BH r:Int),(i:Int),m.1,m.2.1,m.2.2.1,m.2.2.2.1,m.2.2.2.2.1,m.2.2.2.2.2.1,m.2.2.2.2.2.2.1,m.2.2.2.2.2.2.2.1,m.2.2.2.2.2.2.2.2.1,m.2.2.2.2.2.2.2.2.2.1,m.2.2.2.2.2.2.2.2.2.2.1.1,m.2.2.2.2.2.2.2.2.2.2.1.2.1,m.2.2.2.2.2.2.2.2.2.2.1.2.2.1,m.2.2.2.2.2.2.2.2.2.2.1.2.2.2,m.2.2.2.2.2.2.2.2.2.2.2.1,m.2.2.2.2.2.2.2.2.2.2.2.2.1.1,m.2.2.2.2.2.2.2.2.2.2.2.2.1.2.1,m.2.2.2.2.2.2.2.2.2.2.2.2.1.2.2.1,m.2.2.2.2.2.2.2.2.2.2.2.2.1.2.2.2,m.2.2.2.2.2.2.2.2.2.2.2.2.2.1,m.2.2.2.2.2.2.2.2.2.2.2.2.2.2)) (λm=>some ((),(m,()))) n h ?_ ?_ (by omega)
 ·intro rec m i z u;refine⟨?_,li u (BI z)⟩;simp only[Q74.s0,zc286a0,zc3ec45];have O:i<r.length:=by rw[H];exact z
  obtain⟨d0,d1,X⟩:=hd _ (BI z);rw[bo (by omega:(i:Int)<(BH r:Int)),ag O,ar i (by omega),BK,ag O,M i z];simp only[cond_true,BG];have y:=u.key _ (BI z);generalize (aa.doubts n)[i]=d at y d0 d1 X ⊢;rw[Af K d.1 d.2.1 d.2.2.1 d.2.2.2.length X];simp only[BG];have a0:=u.now_;rw[aE (n:=m.2.2.2.2.2.1-d.2.2.1) (by omega) (by omega)];have J:decide (m.2.2.2.2.2.1-d.2.2.1<if 6-(BH d.2.2.2:Int)+1<3 then 3 else 6-(BH d.2.2.2:Int)+1)=!kA m.2.2.2.2.2.1 d.2.2.1 d.2.2.2.length:=by
   unfold kA;rw[CR];simp
  rw[show decide (m.2.2.2.2.2.1-d.2.2.1<(if 6-(BH d.2.2.2:Int)+1<3 then 3 else 6-(BH d.2.2.2:Int)+1:Int))=_ from J];unfold dj;cases kA m.2.2.2.2.2.1 d.2.2.1 d.2.2.2.length with
  |false=>rfl
  |true =>
   simp only[BP,cond_false,cond_true];have R:=c7 u.ok.table y;obtain⟨b,hw⟩:=iV K (aa.table m) d.1 u.ok.table u.ok.lt Y;rw[show Q37.f K (m.2.2.2.2.2.2.2.2.1,d.1,())=_ from hw];simp only[BG];refine (congrArg (λo=>CL o _) (zL K m (jy (aG (aa.table m) d.1)) m.1 u.ok (nR R.1) Y)).trans ?_;rfl
 ·intro rec m u;simp only[Q74.s0,zc286a0,zc3ec45];rw[<- H,aR];rfl
def setP (n:aa)(p:af):aa:=(n.1,n.2.1,n.2.2.1,n.2.2.2.1,n.2.2.2.2.1,n.2.2.2.2.2.1,n.2.2.2.2.2.2.1,n.2.2.2.2.2.2.2.1,n.2.2.2.2.2.2.2.2.1,n.2.2.2.2.2.2.2.2.2.1,p,n.2.2.2.2.2.2.2.2.2.2.2)
def noP:af:=(-1,0,0,false)
def nS (f:af):af:=(f.1,f.2.1,2,f.2.2.2)
def nT (n:aa)(f:af):Bool:=f.2.2.1==1&&f.1 != n.1&&f.1 != (aa.probe n).1
def cD (n:aa):List Int:=(((aa.table n).filter (nT n)).map (·.1)).take 2
def askW (n:aa)(to:Int):ao:=(1,3,n.1,to,(aa.probe n).2.2.1,(aa.probe n).1,aa.coord n,[])
def gu (n:aa):aa:=setP n ((aa.probe n).1,(aa.probe n).2.1,(aa.probe n).2.2.1,true)
def a7 (n:aa):aa×List ao :=
 bif (aa.probe n).1==-1 then (n,[]) else
 bif !cL (aG (aa.table n) (aa.probe n).1) then (setP n noP,[]) else
 bif decide (n.2.2.2.2.2.1-(aa.probe n).2.1>=4) then (bif (aG (aa.table n) (aa.probe n).1).2.2.1==1 then sayOf (setP n noP) (nS (aG (aa.table n) (aa.probe n).1)) n.1 else setP n noP,[]) else
 bif decide (n.2.2.2.2.2.1-(aa.probe n).2.1>=2) then (bif !(aa.probe n).2.2.2 then (gu n,(cD n).map (askW n)) else (n,[])) else (n,[])
theorem b8.setP {n:aa}(h:b8 n)(p:af):b8 (setP n p):=⟨h.table,h.cast,h.asc,h.inp,h.lt,h.lc,h.ld⟩
theorem qz {f:af}(h:bA f):bA (nS f):=⟨h.1,h.2.1,show (1:Int)<=2 by omega,show (2:Int)<=4 by omega⟩
theorem fk {t:List af}{r:Int}(h:cL (aG t r)=true):∃ f∈t,f.1=r:=by
 by_cases u:∃ f∈t,f.1=r
 ·exact u
 ·rw[jL (λg y e=>u ⟨g,y,e⟩)]at h;simp[cL]at h
theorem xg (K:Nat)(n:aa)(I:(aa.table n).length<=1048576)(J:1048577<K):Q197.f K (n,())=some ((cD n,()),()):=by
 have:=lg (step:=λrec a=>Q197.s0 K (n,()) rec a) (aa.table n) (nT n) (λf=>f.1) 2 (λy=>some ((y,()),())) ?_ ?_ ?_ (aa.table n).length 0 K [] (by omega) (by omega) (BW _) (by simp)
 ·exact this
 ·intro rec r i u z H;simp only[Q197.s0];rw[show decide ((i:Int)<(BH n.2.2.2.2.2.2.2.2.1:Int))=true from bo (by omega:(i:Int)<(BH (aa.table n):Int)),show idx n.2.2.2.2.2.2.2.2.1 (i:Int)=some (aa.table n)[i] from ag u,ar i (by omega),decide_eq_true (by omega:(BH r:Int)<2)];simp only[cond_true,BG,nT];show (bif (aa.table n)[i].1 != n.1 then (bif (aa.table n)[i].1 != (aa.probe n).1 then (bif (aa.table n)[i].2.2.1==1 then (bif decide ((BH r+BH ([(aa.table n)[i].1]))*8<=ak) then (rec (r++([(aa.table n)[i].1]),((i+1:Nat):Int))) else none) else (rec (r,((i+1:Nat):Int)))) else (rec (r,((i+1:Nat):Int)))) else (rec (r,((i+1:Nat):Int))))=_;rw[szb _ _ _ (by omega) (by simp;omega)];cases (aa.table n)[i].1 != n.1 <;> cases (aa.table n)[i].1 != (aa.probe n).1 <;> cases (aa.table n)[i].2.2.1==1 <;> rfl
 ·intro rec r i u z H;simp only[Q197.s0];rw[show decide ((i:Int)<(BH n.2.2.2.2.2.2.2.2.1:Int))=true from bo (by omega:(i:Int)<(BH (aa.table n):Int)),decide_eq_false (by omega:¬ (BH r:Int)<2)];rfl
 ·intro rec r _;simp only[Q197.s0];rw[show decide ((BH (aa.table n):Int)<(BH n.2.2.2.2.2.2.2.2.1:Int))=false from aR _];rfl
theorem xh (K:Nat)(n m:aa)(p:af)(z:aa.table m=aa.table n/\m.1=n.1)(u:p=aa.probe n)(r:(aa.table n).length<=1048576)(J:1048577<K) :
  ((Q77.f K (aa.table n,(λH=>(Q80.f K (H.1,m,p,())).map λy=>y.1.1),())).bind λI=>Q76.f K (I.1.1,2,()))=some ((cD n,()),()):=by
 rw[qy K (aa.table n) _ (nT n) r J (λf _=>by
  simp only[Q80.f,nT];rw[z.2,u];cases f.2.2.1==1 <;> cases f.1 != n.1 <;> cases f.1 != (aa.probe n).1 <;> rfl)]
 simp only[BG];rw[qx K _ 2 (by rw[BU];exact BZ (CA _ _) r)];rfl
theorem yM (K:Nat)(n:aa)(h:b8 n)(h0:0<=(aa.probe n).2.1)(h1:(aa.probe n).2.1<=1000000)(O:0<=n.2.2.2.2.2.1)(Y:n.2.2.2.2.2.1<=1000000)(u:1048577<K) :
  Q82.f K (n,())=some (((a7 n).2,()),((a7 n).1,())):=by
 simp only[Q82.f,Q82.pre,zcp8];obtain⟨b,M⟩:=iV K (aa.table n) (aa.probe n).1 h.table h.lt u;rw[show Q37.f K (n.2.2.2.2.2.2.2.2.1,n.2.2.2.2.2.2.2.2.2.2.1.1,())=_ from M];simp only[BG,a7];show (bif (aa.probe n).1==-1 then _ else _)=_;cases (aa.probe n).1==-1 with
 |true=>rfl
 |false =>
  simp only[cond_false];rw[show Q79.f K (n,n.2.2.2.2.2.2.2.2.2.2.1.1,())=_ from sZ K n (aa.probe n).1 h.table h.lt u];simp only[BG];cases R:cL (aG (aa.table n) (aa.probe n).1) with
  |false=>rfl
  |true =>
   have Z:=c7 h.table (fk R);simp only[BP,cond_false];rw[aE (n:=n.2.2.2.2.2.1-n.2.2.2.2.2.2.2.2.2.2.1.2.1) (by show -9223372036854775808<=n.2.2.2.2.2.1-(aa.probe n).2.1;omega) (by show n.2.2.2.2.2.1-(aa.probe n).2.1<=9223372036854775807;omega)];show (bif decide (n.2.2.2.2.2.1-(aa.probe n).2.1>=4) then _ else _)=_;cases decide (n.2.2.2.2.2.1-(aa.probe n).2.1>=4) with
   |true =>
    simp only[cond_true];cases (aG (aa.table n) (aa.probe n).1).2.2.1==1 with
    |true =>
     simp only[cond_true];refine (congrArg (λo=>CL o _) (zL K (setP n noP) (nS (aG (aa.table n) (aa.probe n).1)) n.1 (h.setP noP) (qz Z.1) u)).trans ?_;rfl
    |false=>rfl
   |false =>
    simp only[cond_false];show (bif decide (n.2.2.2.2.2.1-(aa.probe n).2.1>=2) then _ else _)=_;cases decide (n.2.2.2.2.2.1-(aa.probe n).2.1>=2) with
    |false=>rfl
    |true =>
     simp only[cond_true];show (bif !(aa.probe n).2.2.2 then _ else _)=_;cases H:(aa.probe n).2.2.2 with
     |true=>rfl
     |false =>
      simp only[CB,cond_true];have hh:=xh K n (gu n) (aa.probe n) ⟨rfl,rfl⟩ rfl h.lt u;obtain⟨y,X,z⟩:=Option.bind_eq_some_iff.1 hh;refine (congrArg (λo=>CL o _) X).trans ?_;simp only[BG];rw[z];simp only[BG];have I:(cD n).length<=2:=CW _ _;refine Cw (lI (step:=λrec a=>Q82.s0 K (n,()) rec a) (cD n) (λ_=>true) (askW n) (λr i=>(r,cD n,(BH (cD n):Int),(i:Int))) (λws=>some ((ws,()),(gu n,()))) ?_ ?_ (by omega)) (by rw[CI.2 (λ_ _=>rfl)])
      ·intro rec r i J ha;simp only[Q82.s0,zcp4,zcp8];rw[bo (by omega:(i:Int)<(BH (cD n):Int)),ag J,ar i (by omega),BK,ag J];simp only[cond_true,BG,Q81.f];rw[szw _ _ _ (by omega) (by simp;omega)];rfl
      ·intro rec r ha;simp only[Q82.s0,zcp4,zcp8,aR];rfl
theorem xi (K:Nat)(n:aa)(h:b8 n)(Y:(aa.probe n).1≠-1)(h0:0<=(aa.probe n).2.1)(h1:(aa.probe n).2.1<=1000000)(X:0<=n.2.2.2.2.2.1)(Z:n.2.2.2.2.2.1<=1000000)(y:1048577<K) :
  Q198.f K (n,())=some (((a7 n).1,(a7 n).2,()),()):=by
 simp only[Q198.f,Q198.pre,zcp8,a7];rw[show ((aa.probe n).1==-1)=false by simpa using Y];simp only[cond_false];rw[show Q196.f K (n.2.2.2.2.2.2.2.2.1,n.2.2.2.2.2.2.2.2.2.2.1.1,())=_ from sY K (aa.table n) (aa.probe n).1 h.table h.lt y];simp only[BG];cases I:cL (aG (aa.table n) (aa.probe n).1) with
 |false=>rfl
 |true =>
  have u:=c7 h.table (fk I);simp only[BP,cond_false];rw[aE (n:=n.2.2.2.2.2.1-n.2.2.2.2.2.2.2.2.2.2.1.2.1) (by show -9223372036854775808<=n.2.2.2.2.2.1-(aa.probe n).2.1;omega) (by show n.2.2.2.2.2.1-(aa.probe n).2.1<=9223372036854775807;omega)];show (bif decide (n.2.2.2.2.2.1-(aa.probe n).2.1>=4) then _ else _)=_;cases decide (n.2.2.2.2.2.1-(aa.probe n).2.1>=4) with
  |true =>
   simp only[cond_true];obtain⟨o,R,e1⟩:=fC K (aa.table n) (aa.probe n).1 h.lt y;rw[show Q16.f K (n.2.2.2.2.2.2.2.2.1,n.2.2.2.2.2.2.2.2.2.2.1.1,())=_ from e1];simp only[BG];cases R with
   |no z=>exact absurd (fk I) (λ⟨f,u,e⟩=>z f u e)
   |at_ j M e =>
    simp only;rw[show idx n.2.2.2.2.2.2.2.2.1 ((j:Nat):Int)=some (aa.table n)[j] from ag M,gU h.table.2 (BI M) u.2.2 (by rw[e,u.2.1])];simp only[BG];cases (aG (aa.table n) (aa.probe n).1).2.2.1==1 with
    |true =>
     simp only[cond_true];refine (congrArg (λo=>CL o _) (pK K (setP n noP) (nS (aG (aa.table n) (aa.probe n).1)) n.1 (h.setP noP) y)).trans ?_;rfl
    |false=>rfl
  |false =>
   simp only[cond_false];show (bif decide (n.2.2.2.2.2.1-(aa.probe n).2.1>=2) then _ else _)=_;cases decide (n.2.2.2.2.2.1-(aa.probe n).2.1>=2) with
   |false=>rfl
   |true =>
    simp only[cond_true];show (bif !(aa.probe n).2.2.2 then _ else _)=_;cases H:(aa.probe n).2.2.2 with
    |true=>rfl
    |false =>
     simp only[CB,cond_true];refine (congrArg (λo=>CL o _) (xg K (gu n) h.lt y)).trans ?_;simp only[BG];rw[show cD (gu n)=cD n from rfl];have J:(cD n).length<=2:=CW _ _;refine Cw (lI (step:=λrec a=>Q198.s0 K (n,()) rec a) (cD n) (λ_=>true) (askW n) (λr i=>(r,cD n,(i:Int))) (λws=>some ((gu n,ws,()),())) ?_ ?_ (by omega)) (by rw[CI.2 (λ_ _=>rfl)])
     ·intro rec r i O ha;simp only[Q198.s0,zcp8];rw[bo (by omega:(i:Int)<(BH (cD n):Int)),ag O,ar i (by omega),BK,ag O];simp only[cond_true,BG,Q153.f];rw[szb _ _ _ (by omega) (by simp)];simp only[cond_true,BG];rw[szw _ _ _ (by omega) (by simp;omega)];rfl
     ·intro rec r ha;simp only[Q198.s0,zcp8,aR];rfl
def ip (n:aa)(i:Int):aa:=(n.1,n.2.1,n.2.2.1,n.2.2.2.1,i,n.2.2.2.2.2)
def fN (n:aa)(f:af):aa:=bif decide (bR f (aG (aa.table n) n.1))&&decide (f.2.1<999) then sayOf (ip n (f.2.1+1)) (n.1,f.2.1+1,1,n.2.2.2.1) n.1 else n
def eh (f:af)(b:Int)(d:bN):bN:=bif d.1==f.1&&d.2.1==f.2.1&&f.2.2.1==2 then (d.1,d.2.1,d.2.2.1,bH (λx:Int=>x) b d.2.2.2) else d
def kU (n:aa)(f:af)(b:Int):aa:=iT n (aa.table n) (aa.cast n) ((aa.doubts n).map (eh f b))
def el (b:Int)(n:aa)(f:af):aa:=bif f.1==n.1 then fN n f else kU (sayOf n f b) f b
def jk (n:aa)(t:List af)(b:Int):aa:=t.foldl (el b) n
def mg (l:List Int):Prop:=Asc (λx:Int=>x) l/\∀ x∈l,InP x 0 7
theorem mg.len {l:List Int}(h:mg l):l.length<=8:=iU h.1 h.2
theorem mg.put {l:List Int}{b:Int}(h:mg l)(u:InP b 0 7):mg (bH (λx:Int=>x) b l) :=
 ⟨fj h.1,λx r=>by
  rcases aZ.1 r with rfl|⟨r,_⟩
  ·exact u
  ·exact h.2 x r⟩
structure ew (n:aa):Prop where
 say:b8 n
 me:InP n.1 0 7
 has:∃ g∈aa.table n,g.1=n.1
 by_:∀ d∈aa.doubts n,mg d.2.2.2
theorem b8.inc {n:aa}(h:b8 n)(i:Int):b8 (ip n i):=⟨h.table,h.cast,h.asc,h.inp,h.lt,h.lc,h.ld⟩
theorem mh {n:aa}{f:af}{b:Int}(y:InP b 0 7)(h:∀ d∈aa.doubts n,mg d.2.2.2):∀ d∈aa.doubts (sayOf n f b),mg d.2.2.2:=by
 obtain⟨t,c,z,e,_,_,u⟩:=iI n f b;rw[e];intro d r;have r:d∈z:=r;rcases u with rfl|rfl
 ·exact h d r
 ·rcases ky r with rfl|r
  ·exact⟨C5 _ _,λx H=>by rw[CG.1 H];exact y⟩
  ·exact h d r
theorem uW {n:aa}{f:af}(r:InP n.1 0 7)(u:bA f)(h:f.2.1<999):bA (n.1,f.2.1+1,1,n.2.2.2.1):=by
 obtain⟨_,⟨z,y⟩,_⟩:=u;exact⟨r,⟨show (0:Int)<=f.2.1+1 by omega,show f.2.1+1<=999 by omega⟩,show (1:Int)<=1 by omega,show (1:Int)<=4 by omega⟩
theorem ew.refute {n:aa}{f:af}(h:ew n)(J:bA f):ew (fN n f):=by
 unfold fN;cases y:decide (bR f (aG (aa.table n) n.1))&&decide (f.2.1<999) with
 |false=>exact h
 |true =>
  have I:f.2.1<999:=by
   rw[CN]at y;exact of_decide_eq_true y.2
  obtain⟨u,_⟩:=eH (ip n (f.2.1+1)) (n.1,f.2.1+1,1,n.2.2.2.1) n.1;refine⟨jj (h.say.inc _) (uW h.me J I),?_,?_,mh h.me h.by_⟩
  ·show InP (sayOf (ip n (f.2.1+1)) (n.1,f.2.1+1,1,n.2.2.2.1) n.1).1 0 7;rw[u];exact h.me
  ·obtain⟨g,H,e⟩:=h.has;obtain⟨z,r,M⟩:=jM (n:=ip n (f.2.1+1)) (f:=(n.1,f.2.1+1,1,n.2.2.2.1)) (b:=n.1) (g:=g) H;refine⟨z,r,?_⟩;show z.1=(sayOf (ip n (f.2.1+1)) (n.1,f.2.1+1,1,n.2.2.2.1) n.1).1;rw[u,M,e];rfl
theorem ew.confirm {n:aa}{f:af}{b:Int}(h:ew n)(Y:bA f)(O:InP b 0 7):ew (kU (sayOf n f b) f b):=by
 have u:=jj (b:=b) h.say Y;obtain⟨M,_⟩:=eH n f b;have z:=mh (f:=f) O h.by_;obtain⟨g,X,e⟩:=h.has;obtain⟨R,I,Z⟩:=jM (n:=n) (f:=f) (b:=b) X;have H:∀ d,(eh f b d).1=d.1:=λd=>by unfold eh;cases d.1==f.1&&d.2.1==f.2.1&&f.2.2.1==2 <;> rfl
 refine⟨⟨u.table,u.cast,?_,λd J=>?_,u.lt,u.lc,?_⟩,?_,⟨R,I,?_⟩,λd J=>?_⟩
 ·show Asc (λd:bN=>d.1) ((aa.doubts (sayOf n f b)).map (eh f b));unfold Asc;rw[B9];exact u.asc.imp λ {a c} h=>by show (eh f b a).1<(eh f b c).1;rw[H,H];exact h
 ·obtain⟨y,r,rfl⟩:=B3.1 J;rw[H];exact u.inp y r
 ·show ((aa.doubts (sayOf n f b)).map (eh f b)).length<=_;rw[BU];exact u.ld
 ·show InP (sayOf n f b).1 0 7;rw[M];exact h.me
 ·show R.1=(sayOf n f b).1;rw[M,Z,e]
 ·obtain⟨y,r,rfl⟩:=B3.1 J;unfold eh;cases y.1==f.1&&y.2.1==f.2.1&&f.2.2.1==2 with
  |false=>exact z y r
  |true=>exact (z y r).put O
theorem ew.step {n:aa}{f:af}{b:Int}(h:ew n)(r:bA f)(u:InP b 0 7):ew (el b n f):=by
 unfold el;cases f.1==n.1 with
 |true=>exact h.refute r
 |false=>exact h.confirm r u
theorem yN {α A R:Type}(ds:List α)(g:α->α)(S:List α->Nat->A)(u:List α->Option R){step:(A->Option R)->A->Option R}
  (h:∀ (rec:A->Option R) (cur:List α) (i:Nat) (X:i<ds.length),cur.length=ds.length->cur[i]?=some ds[i]->step rec (S cur i)=rec (S (cur.set i (g ds[i])) (i+1)))
  (z:∀ (rec:A->Option R) (cur:List α),cur.length=ds.length->step rec (S cur ds.length)=u cur) {k:Nat} (J:ds.length<k):ae step k (S ds 0)=u (ds.map g):=by
 have:∀ (d i k:Nat) (cur:List α),i+d=ds.length->d<k->cur.length=ds.length->(∀ j,(r:j<ds.length)->cur[j]?=some (if j<i then g ds[j] else ds[j]))->ae step k (S cur i)=u (ds.map g):=by
  intro d;induction d with
  |zero =>
   intro i k cur X J H I;obtain⟨k,rfl⟩:∃ M,k=M+1:=⟨k-1,by omega⟩;have:i=ds.length:=by omega
   subst this;show step (ae step k) _=_;rw[z _ _ H];congr 1;refine List.ext_getElem? λj=>?_
   rw[List.getElem?_map];by_cases r:j<ds.length
   ·rw[I j r,if_pos r,BS r];rfl
   ·rw[Cb (by omega),Cb (by omega)];rfl
  |succ d Y =>
   intro i k cur X J H I;obtain⟨k,rfl⟩:∃ M,k=M+1:=⟨k-1,by omega⟩;have y:i<ds.length:=by omega
   show step (ae step k) _=_;rw[h (ae step k) cur i y H (by rw[I i y,if_neg (by omega)])];refine Y (i+1) k _ (by omega) (by omega) (by rw[DA,H]) λj r=>?_
   rw[List.getElem?_set];by_cases e:i=j
   ·subst e;rw[if_pos rfl,if_pos (by omega),if_pos (by omega)]
   ·rw[if_neg e,I j r];by_cases O:j<i
    ·rw[if_pos O,if_pos (by omega)]
    ·rw[if_neg O,if_neg (by omega)]
 exact this ds.length 0 k ds (by omega) J rfl (λj r=>by rw[if_neg (by omega),BS r])
theorem ta {α:Type}{cur:List α}{i:Nat}{x:α}(h:cur[i]?=some x):cur.set i x=cur:=by
 obtain⟨r,e⟩:=List.getElem?_eq_some_iff.1 h;rw[<- e,List.set_getElem_self]
theorem tc {by_:List Int}{b:Int}{m:Nat}(u:m<=by_.length)(y:by_.length<=8){R:Type}(G:List Int->Option R) :
  (bif decide ((0:Int)<=0)&&decide ((0:Int)<=(m:Int))&&decide ((m:Int)<=(BH by_:Int))&&true then (bif decide ((BH ([]:List Int)+BH ((by_.take (BJ (m:Int))).drop (BJ 0)))*8<=ak) then (bif decide ((BH ([]++((by_.take (BJ (m:Int))).drop (BJ 0)))+BH ([b]))*8<=ak) then (bif decide ((0:Int)<=(m:Int))&&decide ((m:Int)<=(BH by_:Int))&&decide ((BH by_:Int)<=(BH by_:Int))&&true then (bif decide ((BH (([]++((by_.take (BJ (m:Int))).drop (BJ 0)))++([b]))+BH ((by_.take (BJ (BH by_:Int))).drop (BJ (m:Int))))*8<=ak) then G ((([]++((by_.take (BJ (m:Int))).drop (BJ 0)))++([b]))++((by_.take (BJ (BH by_:Int))).drop (BJ (m:Int)))) else none) else none) else none) else none) else none)=G (by_.take m++[b]++by_.drop m):=by
 rw[decide_eq_true (by omega:(0:Int)<=0),decide_eq_true (by omega:(0:Int)<=(m:Int)),decide_eq_true (by omega:(m:Int)<=(BH by_:Int)),decide_eq_true (by omega:(BH by_:Int)<=(BH by_:Int))];simp only[BK,Cd,B4,BT,Ch,Ca,cond_true];have z:(by_.take m).length=m:=by rw[BY];omega
 have r:(by_.drop m).length=by_.length-m:=CD;rw[szb _ _ _ (by omega) (by simp only[BQ];omega),szb _ _ _ (by omega) (by simp only[BM,BQ];omega),szb _ _ _ (by omega) (by simp only[BV,BM,BQ];omega)];rfl
theorem xj (K:Nat)(n:aa)(f:af)(b:Int)(hd:∀ d∈aa.doubts n,mg d.2.2.2)(hl:(aa.doubts n).length<=1048576)(hK:1048577<K):Q159.f K (n,f,b,())=some ((kU n f b,()),()):=by
 simp only[Q159.f,Q159.pre];refine yN (step:=λrec a=>Q159.s0 K (n,f,b,()) (Q159.l1 K (n,f,b,()) rec) rec a) (aa.doubts n) (eh f b) (λu i=>((i:Int),u)) (λu=>some ((iT n (aa.table n) (aa.cast n) u,()),())) ?_ ?_ (by omega)
 ·intro rec u i hi X I;have M:i<u.length:=by omega
  have a2:u[i]=(aa.doubts n)[i]:=by
   rw[BS M]at I;exact Option.some.inj I
  have R:=hd _ (BI hi);simp only[Q159.s0,zcp8];rw[bo (by omega:(i:Int)<(BH u:Int)),ag M,ar i (by omega),BK,ag M,a2];simp only[cond_true,BG];generalize a9:(aa.doubts n)[i]=d at R I ⊢;have H:rec (((i+1:Nat):Int),u)=rec (((i+1:Nat):Int),u.set i d):=by rw[ta I]
  unfold eh;by_cases h1:d.1=f.1
  case neg =>
   rw[show (d.1 != f.1)=true by simpa using h1,show (d.1==f.1)=false by simpa using h1];exact H
  by_cases h2:d.2.1=f.2.1
  case neg =>
   rw[show (d.1 != f.1)=false by simpa using h1,show (d.2.1 != f.2.1)=true by simpa using h2,show (d.2.1==f.2.1)=false by simpa using h2,DE];exact H
  by_cases h3:f.2.2.1=2
  case neg =>
   rw[show (d.1 != f.1)=false by simpa using h1,show (d.2.1 != f.2.1)=false by simpa using h2,show (f.2.2.1 != 2)=true by simpa using h3,show (f.2.2.1==2)=false by simpa using h3,DE];exact H
  rw[show (d.1 != f.1)=false by simpa using h1,show (d.2.1 != f.2.1)=false by simpa using h2,show (f.2.2.1 != 2)=false by simpa using h3,show (d.1==f.1)=true by simpa using h1,show (d.2.1==f.2.1)=true by simpa using h2,show (f.2.2.1==2)=true by simpa using h3];simp only[cond_false,Ca,cond_true];have a0:=R.len;have a1:∀ m:Nat,m<=d.2.2.2.length->(∀ j,(J:j<d.2.2.2.length)->j<m->d.2.2.2[j]<b)->(∀ j,(J:j<d.2.2.2.length)->m<=j->b<d.2.2.2[j])->d.2.2.2.take m++[b]++d.2.2.2.drop m=bH (λx:Int=>x) b d.2.2.2:=λm Y lo hi=>ji (k:=λx:Int=>x) Y lo hi
  have:=ch (step:=λr a=>Q159.s1 K (n,f,b,()) rec r a) d.2.2.2.length (λj=>((i:Int),(j:Int),u,d.1,d.2.1,d.2.2.1,d.2.2.2)) (λj=>∃ h:j<d.2.2.2.length,¬ d.2.2.2[j]<b)
   (rec (((i+1:Nat):Int),u.set i (d.1,d.2.1,d.2.2.1,d.2.2.2.take d.2.2.2.length++[b]++d.2.2.2.drop d.2.2.2.length)))
   (λj=>if h:j<d.2.2.2.length then (if d.2.2.2[j]=b then rec (((i+1:Nat):Int),u) else rec (((i+1:Nat):Int),u.set i (d.1,d.2.1,d.2.2.1,d.2.2.2.take j++[b]++d.2.2.2.drop j))) else none) ?_ ?_ d.2.2.2.length K 0 (by omega) (by omega)
  ·rcases this with ⟨a6,he⟩|⟨j,_,J,⟨Z,ad⟩,a4,he⟩
   ·refine Cw he ?_;rw[a1 _ (BW _) (λj J _=>by
     by_cases O:d.2.2.2[j]<b
     ·exact O
     ·exact absurd ⟨J,O⟩ (a6 j (BX _) J)) (λj J Y=>by omega)]
   ·refine Cw he ?_;rw[dif_pos Z];have lo:∀ m,(Y:m<d.2.2.2.length)->m<j->d.2.2.2[m]<b:=λm Y a3=>by
     by_cases O:d.2.2.2[m]<b
     ·exact O
     ·exact absurd ⟨Y,O⟩ (a4 m (BX _) a3)
    by_cases y:d.2.2.2[j]=b
    ·rw[if_pos y,<- kv (k:=λx:Int=>x) R.1 Z y];rw[show d.2.2.2.set j b=d.2.2.2 from ta (by rw[BS Z,y])];exact H
    ·rw[if_neg y,a1 j (by omega) lo (λm Y a5=>by
      rcases CO a5 with h4|rfl
      ·have:=dn.1 R.1 j m (by omega) Y h4;omega
      ·omega)]
  ·intro r j J;simp only[Q159.s1];rw[bo (by omega:(j:Int)<(BH d.2.2.2:Int)),ag J,ar j (by omega)];simp only[cond_true,BG];by_cases O:d.2.2.2[j]<b
   ·left;refine⟨λ⟨_,h⟩=>h O,?_⟩;rw[decide_eq_true O];rfl
   ·right;refine⟨⟨J,O⟩,?_⟩;rw[decide_eq_false O,show ((j:Int)==(BH d.2.2.2:Int))=false by simp;omega,dif_pos J];simp only[cond_false];by_cases y:d.2.2.2[j]=b
    ·rw[if_pos y,show (d.2.2.2[j] != b)=false by simpa using y,ar i (by omega)];rfl
    ·rw[if_neg y,show (d.2.2.2[j] != b)=true by simpa using y];simp only[cond_true];refine (tc (m:=j) (b:=b) (Nat.le_of_lt J) a0 (λz=>(idx u (i:Int)).bind λ_=>(idx u (BJ (i:Int):Nat)).bind λ_=>rec (wr .i64 ((i:Int)+1),u.set (BJ (i:Int)) (d.1,(d.2.1,(d.2.2.1,z)))))).trans ?_;rw[BK,ag M,ar i (by omega)];rfl
  ·intro r;simp only[Q159.s1];rw[aR];simp only[cond_false,beq_self_eq_true,cond_true];refine (tc (b:=b) (BW _) a0 (λz=>(idx u (i:Int)).bind λ_=>(idx u (BJ (i:Int):Nat)).bind λ_=>rec (wr .i64 ((i:Int)+1),u.set (BJ (i:Int)) (d.1,(d.2.1,(d.2.2.1,z)))))).trans ?_;rw[BK,ag M,ar i (by omega)];rfl
 ·intro rec u X;simp only[Q159.s0,zcp8];rw[<- X,aR];rfl
theorem yO (K:Nat)(n:aa)(f:af)(h:ew n)(M:bA f)(z:1048577<K):Q158.f K (n,f,())=some ((fN n f,()),()):=by
 simp only[Q158.f,zcp4];have r:=c7 h.say.table h.has;obtain⟨o,I,O⟩:=fC K (aa.table n) n.1 h.say.lt z;rw[show Q16.f K (n.2.2.2.2.2.2.2.2.1,n.1,())=_ from O];simp only[BG];cases I with
 |no u=>exact absurd h.has (λ⟨g,J,e⟩=>u g J e)
 |at_ j y e =>
  simp only;rw[show idx n.2.2.2.2.2.2.2.2.1 ((j:Nat):Int)=some (aa.table n)[j] from ag y,gU h.say.table.2 (BI y) r.2.2 (by rw[e,r.2.1])];simp only[BG];rw[pJ];obtain⟨_,⟨R,X⟩,_⟩:=M;simp only[rb,BG,fN];cases decide (bR f (aG (aa.table n) n.1)) with
  |false=>rfl
  |true =>
   simp only[BP,cond_false,CV];by_cases H:f.2.1<999
   ·rw[decide_eq_false (by omega:¬ f.2.1>=999),decide_eq_true H,aE (by omega) (by omega)];simp only[cond_false,cond_true];refine (congrArg (λo=>CL o _) (pK K (ip n (f.2.1+1)) (n.1,f.2.1+1,1,n.2.2.2.1) n.1 (h.say.inc _) z)).trans ?_;rfl
   ·rw[decide_eq_true (by omega:f.2.1>=999),decide_eq_false H];rfl
theorem uX (K:Nat)(n:aa)(t:List af)(b:Int)(h:ew n)(I:∀ f∈t,bA f)(J:t.length<=1048576)(z:InP b 0 7)(y:1048577<K):Q160.f K (n,t,b,())=some ((jk n t b,()),()):=by
 refine kT (step:=λrec a=>Q160.s0 K (n,t,b,()) rec a) t (el b) ew (λm i=>((i:Int),m.1,m.2.1,m.2.2.1,m.2.2.2.1,m.2.2.2.2.1,m.2.2.2.2.2.1,m.2.2.2.2.2.2.1,m.2.2.2.2.2.2.2.1,m.2.2.2.2.2.2.2.2.1,m.2.2.2.2.2.2.2.2.2.1,m.2.2.2.2.2.2.2.2.2.2.1.1,m.2.2.2.2.2.2.2.2.2.2.1.2.1,m.2.2.2.2.2.2.2.2.2.2.1.2.2.1,m.2.2.2.2.2.2.2.2.2.2.1.2.2.2,m.2.2.2.2.2.2.2.2.2.2.2.1,m.2.2.2.2.2.2.2.2.2.2.2.2.1.1,m.2.2.2.2.2.2.2.2.2.2.2.2.1.2.1,m.2.2.2.2.2.2.2.2.2.2.2.2.1.2.2.1,m.2.2.2.2.2.2.2.2.2.2.2.2.1.2.2.2,m.2.2.2.2.2.2.2.2.2.2.2.2.2.1,m.2.2.2.2.2.2.2.2.2.2.2.2.2.2)) (λm=>some ((m,()),())) n h ?_ ?_ (by omega)
 ·intro rec m i H r;have u:=I _ (BI H);refine⟨?_,r.step u z⟩;simp only[Q160.s0,zc286a0,zc3ec45];rw[bo (by omega:(i:Int)<(BH t:Int)),ag H,ar i (by omega)];simp only[cond_true,BG];generalize t[i]=f at u ⊢;unfold el;cases f.1==m.1 with
  |true =>
   simp only[cond_true];refine (congrArg (λo=>CL o _) (yO K m f r u y)).trans ?_;rfl
  |false =>
   simp only[cond_false];refine (congrArg (λo=>CL o _) (pK K m f b r.say y)).trans ?_;simp only[BG];rw[xj K (sayOf m f b) f b (mh z r.by_) (jj r.say u).ld y];rfl
 ·intro rec m r;simp only[Q160.s0,zc286a0,zc3ec45];rw[aR];rfl
def dv {α:Type}(r:α->α->Bool)(x:α):List α->List α->List α
 |[],B=>x::B
 |y::A,B=>bif r x y then dv r x A (y::B) else (y::A).reverse++x::B
def cQ {α:Type}(r:α->α->Bool):List α->List α->List α
 |done,[]=>done
 |done,x::u=>cQ r (dv r x done.reverse []) u
theorem o7 {α:Type}(r:α->α->Bool)(x:α):∀ (A B C:List α),dv r x A (B++C)=dv r x A B++C
 |[],B,C=>rfl
 |y::A,B,C=>by
  simp only[dv];cases r x y with
  |true=>exact o7 r x A (y::B) C
  |false=>simp
theorem o8 {α:Type}(r:α->α->Bool)(x:α):∀ (A B:List α),(dv r x A B).length=A.length+B.length+1
 |[],B=>by simp[dv]
 |y::A,B=>by
  simp only[dv];cases r x y with
  |true=>simp only[cond_true];rw[o8 r x A (y::B)];simp;omega
  |false=>simp;omega
theorem mU {α:Type}(r:α->α->Bool)(x:α):∀ (A B:List α),(dv r x A B).Perm (x::(A.reverse++B))
 |[],B=>by simp[dv]
 |y::A,B=>by
  simp only[dv];cases r x y with
  |true=>exact (mU r x A (y::B)).trans (by simp)
  |false=>simp only[cond_false];exact DL
theorem mi {α:Type}(r:α->α->Bool):∀ (xs done:List α),(cQ r done xs).Perm (done++xs)
 |[],done=>by simp[cQ]
 |x::xs,done=>by
  simp only[cQ];refine (mi r xs _).trans ?_;have:=mU r x done.reverse [];simp only[B6,BR]at this;exact (this.append_right xs).trans (by simpa using (DL (a:=x) (l₁:=done) (l₂:=xs)).symm)
def jU {α:Type}(r:α->α->Bool)(xs:List α):Prop:=xs.Pairwise λa b=>r b a=false
theorem lj {α:Type}(r:α->α->Bool)(H:∀ a b c,r a b=false->r b c=false->r a c=false)(x:α) :
  ∀ (A B:List α),jU r A.reverse->dv r x A B=(A.reverse.filter λy=>!r x y)++x::((A.reverse.filter λy=>r x y)++B)
 |[],B,_=>rfl
 |y::A,B,h=>by
  simp only[dv];have J:jU r A.reverse:=by
   unfold jU at h ⊢;rw[CU,CS]at h;exact h.1
  cases z:r x y with
  |true =>
   simp only[cond_true];rw[lj r H x A (y::B) J];simp[z,CY]
  |false =>
   have I:∀ a∈A.reverse,r x a=false:=λa u=>by
    unfold jU at h;rw[CU,CS]at h;exact H x y a z (h.2.2 a u y (by simp))
   simp only[cond_false];have O:(y::A).reverse.filter (λy=>!r x y)=(y::A).reverse:=CI.2 λa u=>by
    rw[CU,CQ,CG]at u;rcases u with u|rfl
    ·rw[I a u];rfl
    ·rw[z];rfl
   have M:(y::A).reverse.filter (λy=>r x y)=[]:=CZ.2 λa u=>by
    rw[CU,CQ,CG]at u;rcases u with u|rfl
    ·rw[I a u];simp
    ·rw[z];simp
   rw[O,M];rfl
theorem vK {α:Type}(r:α->α->Bool)(H:∀ a b c,r a b=false->r b c=false->r a c=false)(u:∀ a b,r a b=true->r b a=false)(x:α)(A:List α)(h:jU r A):jU r (dv r x A.reverse []):=by
 rw[lj r H x A.reverse [] (by rwa [B6])];unfold jU at h ⊢;simp only[B6,BR];rw[CS];refine⟨h.filter _,?_,?_⟩
 ·rw[B5];refine⟨λa y=>?_,h.filter _⟩;exact u _ _ (by simpa using (BN.1 y).2)
 ·intro a y b z;have I:r x a=false:=by simpa using (BN.1 y).2
  rcases CK.1 z with rfl|z
  ·exact I
  ·have J:r x b=true:=by simpa using (BN.1 z).2
   exact H b x a (u _ _ J) I
theorem mV {α:Type}(r:α->α->Bool)(y:∀ a b c,r a b=false->r b c=false->r a c=false)(u:∀ a b,r a b=true->r b a=false):∀ (xs done:List α),jU r done->jU r (cQ r done xs)
 |[],done,h=>h
 |x::xs,done,h=>mV r y u xs _ (vK r y u x done h)
theorem oi {α:Type}(J:α->α->Bool):∀ {u H:List α},u.Perm H->jU J u->H.Pairwise (λa b=>J a b=true)->u=H
 |u,[],r,_,_=>r.eq_nil
 |[],z::H,r,_,_=>absurd r.symm.eq_nil (by simp)
 |y::u,z::H,r,I,M=>by
  unfold jU at I;rw[B5]at I M;have e:y=z:=by
   rcases CK.1 (r.mem_iff.1 (DI ..)) with h|h
   ·exact h
   ·have R:=M.1 y h;rcases CK.1 (r.symm.mem_iff.1 (DI ..)) with O|O
    ·exact O.symm
    ·rw[I.1 z O]at R;cases R
  subst e;rw[oi J r.cons_inv I.2 M.2]
abbrev SoR (α:Type):=Unit×(List α×Unit)
theorem vL {α R:Type}(H:α->α->Bool)(i:Int)(r:List α×Int->Option R){step:(List α×Int×Int->Option R)->List α×Int×Int->Option R}
  (h:∀ (rec:List α×Int×Int->Option R) (A:List α) (y x:α) (B:List α),A.length+B.length<=1048576->step rec (A++y::x::B,i,((A.length+1:Nat):Int))=bif H x y then rec (A++x::y::B,i,(A.length:Int)) else r (A++y::x::B,wr .i64 (i+1)))
  (O:∀ (rec:List α×Int×Int->Option R) (I:List α),step rec (I,i,0)=r (I,wr .i64 (i+1))) :
  ∀ (A B:List α) (x:α) (k:Nat),A.length+B.length<=1048576->A.length<k->ae step k (A.reverse++x::B,i,(A.length:Int))=r (dv H x A B,wr .i64 (i+1)):=by
 intro A;induction A with
 |nil =>
  intro B x k J u;obtain⟨k,rfl⟩:∃ z,k=z+1:=⟨k-1,by simp at u;omega⟩;exact O (ae step k) (x::B)
 |cons y A X =>
  intro B x k J u;simp only[BM]at u J;obtain⟨k,rfl⟩:∃ z,k=z+1:=⟨k-1,by omega⟩;have M:=h (ae step k) A.reverse y x B (by simp;omega);simp only[Cj]at M;show step (ae step k) _=_;rw[CU,CH];simp only[BM,DM,BT,dv];rw[M];cases H x y with
  |true=>exact X (y::B) x k (by simp;omega) (by omega)
  |false=>simp
theorem ul {α:Type}(r:α->α->Bool){step:(List α×Int->Option (SoR α))->List α×Int->Option (SoR α)}(n:Nat)(O:n<=1048576)
  (h:∀ (rec:List α×Int->Option (SoR α)) (done:List α) (x:α) (xs:List α),done.length+1+xs.length=n->step rec (done++x::xs,(done.length:Int))=rec (dv r x done.reverse xs,wr .i64 ((done.length:Int)+1)))
  (J:∀ (rec:List α×Int->Option (SoR α)) (H:List α) (i:Int),(n:Int)<=i->step rec (H,i)=some ((),(H,()))) :
  ∀ (xs done:List α) (k:Nat),done.length+xs.length=n->xs.length<k->ae step k (done++xs,(done.length:Int))=some ((),(cQ r done xs,())):=by
 intro xs;induction xs with
 |nil =>
  intro done k y z;obtain⟨k,rfl⟩:∃ u,k=u+1:=⟨k-1,by omega⟩;show step (ae step k) _=_;rw[J _ _ _ (by simp at y;omega)];simp[cQ]
 |cons x xs M =>
  intro done k y z;simp only[BM]at z y;obtain⟨k,rfl⟩:∃ u,k=u+1:=⟨k-1,by omega⟩;show step (ae step k) _=_;rw[h _ _ _ _ (by omega),ar _ (by omega)];have e:dv r x done.reverse xs=dv r x done.reverse []++xs:=o7 r x done.reverse [] xs;have I:(dv r x done.reverse []).length=done.length+1:=by rw[o8];simp
  rw[e,<- I];exact M _ k (by rw[I];omega) (by omega)
theorem yP {α:Type}(u:α->α->Bool){step:(List α×Int->Option (SoR α))->List α×Int->Option (SoR α)}(xs:List α)(J:xs.length<=1048576)
  (h:∀ (rec:List α×Int->Option (SoR α)) (done:List α) (x:α) (r:List α),done.length+1+r.length=xs.length->step rec (done++x::r,(done.length:Int))=rec (dv u x done.reverse r,wr .i64 ((done.length:Int)+1)))
  (H:∀ (rec:List α×Int->Option (SoR α)) (z:List α) (i:Int),(xs.length:Int)<=i->step rec (z,i)=some ((),(z,()))) {k:Nat} (y:xs.length<k) :
  ae step k (xs,1)=some ((),(cQ u [] xs,())):=by
 cases xs with
 |nil =>
  obtain⟨k,rfl⟩:∃ I,k=I+1:=⟨k-1,by simp at y;omega⟩;exact H (ae step k) [] 1 (by simp)
 |cons x xs =>
  simp only[BM]at y;have:=ul u (xs.length+1) (by simpa using J) h H xs [x] k (by simp;omega) (by omega);exact this
theorem uY {α:Type}(A B:List α)(x:α):idx (A++x::B) (A.length:Int)=some x:=by
 rw[qs];simp
theorem td {α:Type}(A B:List α)(y x:α):idx (A++y::x::B) ((A.length+1:Nat):Int)=some x:=by
 rw[qs];simp[List.getElem?_append_right]
theorem uZ {α:Type}(A B:List α)(x v:α):(A++x::B).set A.length v=A++v::B:=by simp
theorem te {α:Type}(A B:List α)(y x v:α):(A++y::x::B).set (A.length+1) v=A++y::v::B:=by
 simp[DD]
theorem um {α R:Type}(P:α->Prop)(M:α->α->Bool)(i:Int)(r:List α×Int->Option R){step:(List α×Int×Int->Option R)->List α×Int×Int->Option R}
  (h:∀ (rec:List α×Int×Int->Option R) (A:List α) (y x:α) (B:List α),P y->P x->A.length+B.length<=1048576->step rec (A++y::x::B,i,((A.length+1:Nat):Int))=bif M x y then rec (A++x::y::B,i,(A.length:Int)) else r (A++y::x::B,wr .i64 (i+1)))
  (Z:∀ (rec:List α×Int×Int->Option R) (O:List α),step rec (O,i,0)=r (O,wr .i64 (i+1))) :
  ∀ (A B:List α) (x:α) (k:Nat),(∀ y∈A,P y)->P x->A.length+B.length<=1048576->A.length<k->ae step k (A.reverse++x::B,i,(A.length:Int))=r (dv M x A B,wr .i64 (i+1)):=by
 intro A;induction A with
 |nil =>
  intro B x k I J X u;obtain⟨k,rfl⟩:∃ H,k=H+1:=⟨k-1,by simp at u;omega⟩;exact Z (ae step k) (x::B)
 |cons y A ih =>
  intro B x k I J X u;simp only[BM]at u X;obtain⟨k,rfl⟩:∃ H,k=H+1:=⟨k-1,by omega⟩;have Y:=h (ae step k) A.reverse y x B (I y (by simp)) J (by simp;omega);simp only[Cj]at Y;show step (ae step k) _=_;rw[CU,CH];simp only[BM,DM,BT,dv];rw[Y];cases M x y with
  |true=>exact ih (y::B) x k (λz hz=>I z (by simp[hz])) J (by simp;omega) (by omega)
  |false=>simp
theorem tf {α:Type}(P:α->Prop)(r:α->α->Bool){step:(List α×Int->Option (SoR α))->List α×Int->Option (SoR α)}(n:Nat)(hn:n<=1048576)
  (h:∀ (rec:List α×Int->Option (SoR α)) (done:List α) (x:α) (xs:List α),(∀ y∈done,P y)->P x->done.length+1+xs.length=n->step rec (done++x::xs,(done.length:Int))=rec (dv r x done.reverse xs,wr .i64 ((done.length:Int)+1)))
  (Z:∀ (rec:List α×Int->Option (SoR α)) (X:List α) (i:Int),(n:Int)<=i->step rec (X,i)=some ((),(X,()))) :
  ∀ (xs done:List α) (k:Nat),(∀ y∈done,P y)->(∀ y∈xs,P y)->done.length+xs.length=n->xs.length<k->ae step k (done++xs,(done.length:Int))=some ((),(cQ r done xs,())):=by
 intro xs;induction xs with
 |nil =>
  intro done k M u J R;obtain⟨k,rfl⟩:∃ I,k=I+1:=⟨k-1,by omega⟩;show step (ae step k) _=_;rw[Z _ _ _ (by simp at J;omega)];simp[cQ]
 |cons x xs ih =>
  intro done k M u J R;simp only[BM]at R J;obtain⟨k,rfl⟩:∃ I,k=I+1:=⟨k-1,by omega⟩;show step (ae step k) _=_;rw[h _ _ _ _ M (u x (by simp)) (by omega),ar _ (by omega)];have e:dv r x done.reverse xs=dv r x done.reverse []++xs:=o7 r x done.reverse [] xs;have Y:(dv r x done.reverse []).length=done.length+1:=by rw[o8];simp
  rw[e,<- Y];refine ih _ k (λz O=>?_) (λz O=>u z (by simp[O])) (by rw[Y];omega) (by omega);have H:=(mU r x done.reverse []).mem_iff.1 O;simp only[B6,BR,CK]at H;rcases H with rfl|H
  ·exact u z (by simp)
  ·exact M z H
theorem xk {α:Type}(P:α->Prop)(z:α->α->Bool){step:(List α×Int->Option (SoR α))->List α×Int->Option (SoR α)}(xs:List α)(M:∀ y∈xs,P y)(R:xs.length<=1048576)
  (h:∀ (rec:List α×Int->Option (SoR α)) (done:List α) (x:α) (r:List α),(∀ y∈done,P y)->P x->done.length+1+r.length=xs.length->step rec (done++x::r,(done.length:Int))=rec (dv z x done.reverse r,wr .i64 ((done.length:Int)+1)))
  (J:∀ (rec:List α×Int->Option (SoR α)) (I:List α) (i:Int),(xs.length:Int)<=i->step rec (I,i)=some ((),(I,()))) {k:Nat} (H:xs.length<k) :
  ae step k (xs,1)=some ((),(cQ z [] xs,())):=by
 cases xs with
 |nil =>
  obtain⟨k,rfl⟩:∃ O,k=O+1:=⟨k-1,by simp at H;omega⟩;exact J (ae step k) [] 1 (by simp)
 |cons x xs =>
  simp only[BM]at H;have:=tf P z (xs.length+1) (by simpa using R) h J xs [x] k (λy u=>M y (by simpa using .inl (by simpa using u))) (λy u=>M y (by simp[u])) (by simp;omega) (by omega);exact this
def ltZ (a b:Int):Bool:=decide (a<b)
theorem Ba (K:Nat)(a b:Int):Q89.f K (a,b,())=some ((ltZ a b,()),()):=by
 simp only[Q89.f,Q33.f,ltZ];simp
theorem yQ (K:Nat)(xs:List Int)(H:Int×Int×Unit->Option Int)(I:Int->Int->Bool)(P:Int->Prop)(X:∀ y∈xs,P y)(hφ:∀ y z,P y->P z->∃ c,H (y,z,())=some c/\decide (c<0)=I y z)(Y:xs.length<=1048576)(hK:1048577<K) :
  Q83.f K (xs,0,(xs.length:Int),H,())=some ((),(cQ I [] xs,())):=by
 refine xk P (step:=λrec a=>Q83.s0 K (xs,0,(xs.length:Int),H,()) (Q83.l1 K (xs,0,(xs.length:Int),H,()) rec) rec a) I xs X Y ?_ ?_ (by omega)
 ·intro rec done x r O J hl;simp only[Q83.s0];rw[decide_eq_true (by omega:((done.length:Int))<(xs.length:Int))];simp only[cond_true];have:=um P I (done.length:Int) rec (step:=λu a=>Q83.s1 K (xs,0,(xs.length:Int),H,()) rec u a) ?_ ?_ done.reverse r x K (λy M=>O y (by simpa using M)) J (by simp;omega) (by simp;omega)
  ·rw[B6,Cj]at this;exact this
  ·intro u A y z B M hz Z;simp only[Q83.s1];have e1:wr .i64 (((A.length+1:Nat):Int)-1)=(A.length:Int):=(aE (by omega) (by omega)).trans (by omega);rw[decide_eq_true (by omega:((A.length+1:Nat):Int)>0)];obtain⟨c,hc,O⟩:=hφ z y hz M;simp only[cond_true,e1,BK,td,uY,BG,hc,O,te,uZ]
  ·intro u R;simp only[Q83.s1];rw[decide_eq_false (by omega:¬ (0:Int)>0)];rfl
 ·intro rec R i hi;simp only[Q83.s0];rw[decide_eq_false (by omega:¬ i<(xs.length:Int))];rfl
theorem yR (K:Nat)(xs:List Int)(u:Int×Int×Unit->Option Int)(H:Int->Int->Bool)(P:Int->Prop)(J:∀ y∈xs,P y)(hφ:∀ y z,P y->P z->∃ c,u (y,z,())=some c/\decide (c<0)=H y z)(R:xs.length<=19)(O:1048577<K) :
  Q85.f K (xs,u,())=some ((),(cQ H [] xs,())):=by
 simp only[Q85.f];have:Q84.f K (xs,(xs.length:Int),u,())=some ((),(cQ H [] xs,())):=by
  obtain⟨k,rfl⟩:∃ I,K=I+1:=⟨K-1,by omega⟩;show Q84.s0 _ _ _ _ _=_;simp only[Q84.s0];rw[decide_eq_false (by omega:¬ (20:Int)<=(xs.length:Int))];simp only[cond_false];rw[yQ (k+1) xs u H P J hφ (by omega) O];simp only[BG];have M:∀ (r:Q84.A1->Option Q84.Res),Q84.s1 (k+1) (xs,(xs.length:Int),u,()) (Q84.l2 (k+1) (xs,(xs.length:Int),u,()) r) r (cQ H [] xs,20)=some ((),(cQ H [] xs,())):=by
   intro r;simp only[Q84.s1];rw[decide_eq_false (by omega:¬ (20:Int)<(xs.length:Int))];rfl
  exact M _
 rw[this];rfl
theorem yS (K:Nat)(xs:List Int)(I:xs.length<=1048576)(R:1048577<K) :
  Q90.f K (xs,0,(xs.length:Int),())=some ((),(cQ ltZ [] xs,())):=by
 refine yP (step:=λrec a=>Q90.s0 K (xs,0,(xs.length:Int),()) (Q90.l1 K (xs,0,(xs.length:Int),()) rec) rec a) ltZ xs I ?_ ?_ (by omega)
 ·intro rec done x r O;simp only[Q90.s0];rw[decide_eq_true (by omega:((done.length:Int))<(xs.length:Int))];simp only[cond_true];have:=vL ltZ (done.length:Int) rec (step:=λu a=>Q90.s1 K (xs,0,(xs.length:Int),()) rec u a) ?_ ?_ done.reverse r x K (by simp;omega) (by simp;omega)
  ·rw[B6,Cj]at this;exact this
  ·intro u A y z B J;simp only[Q90.s1];have M:wr .i64 (((A.length+1:Nat):Int)-1)=(A.length:Int):=(aE (by omega) (by omega)).trans (by omega);rw[decide_eq_true (by omega:((A.length+1:Nat):Int)>0)];simp only[cond_true,M,BK,td,uY,BG,te,uZ];rw[show Q89.f K (z,y,())=_ from Ba K z y];rfl
  ·intro u H;simp only[Q90.s1];rw[decide_eq_false (by omega:¬ (0:Int)>0)];rfl
 ·intro rec H i X;simp only[Q90.s0];rw[decide_eq_false (by omega:¬ i<(xs.length:Int))];rfl
theorem yT (K:Nat)(xs:List Int)(H:xs.length<=12)(I:1048577<K) :
  Q96.f K (xs,())=some ((),(cQ ltZ [] xs,())):=by
 simp only[Q96.f,Q88.f];obtain⟨l,z⟩:∃ l:Int,Q87.f K (wr .u64 (xs.length:Int),())=some ((l,()),()):=by
  have e:wr .u64 (xs.length:Int)=(xs.length:Int):=by
   show IntKind.u64.wrap _=_;have r:IntKind.u64.wrap (xs.length:Int)=(xs.length:Int) % 18446744073709551616:=by simp[IntKind.wrap,IntKind.bits,IntKind.signed]
   rw[r];omega
  rw[e];generalize J:xs.length=n at H;have:n=0\/n=1\/n=2\/n=3\/n=4\/n=5\/n=6\/n=7\/n=8\/n=9\/n=10\/n=11\/n=12:=by omega
  rcases this with rfl|rfl|rfl|rfl|rfl|rfl|rfl|rfl|rfl|rfl|rfl|rfl|rfl
  ·exact⟨0,by kernel_rfl⟩
  ·exact⟨1,by kernel_rfl⟩
  ·exact⟨2,by kernel_rfl⟩
  ·exact⟨2,by kernel_rfl⟩
  ·exact⟨3,by kernel_rfl⟩
  ·exact⟨3,by kernel_rfl⟩
  ·exact⟨3,by kernel_rfl⟩
  ·exact⟨3,by kernel_rfl⟩
  ·exact⟨4,by kernel_rfl⟩
  ·exact⟨4,by kernel_rfl⟩
  ·exact⟨4,by kernel_rfl⟩
  ·exact⟨4,by kernel_rfl⟩
  ·exact⟨4,by kernel_rfl⟩
 rw[z];simp only[BG];have:Q95.f K (xs,0,(xs.length:Int),l,())=some ((),(cQ ltZ [] xs,())):=by
  obtain⟨k,rfl⟩:∃ u,K=u+1:=⟨K-1,by omega⟩;have y:∀ (rec:Q95.A0->Option Q95.Res) (a:Q95.A0),Q95.s0 (k+1) (xs,0,(xs.length:Int),l,()) rec a=some ((),(cQ ltZ [] xs,())):=by
   intro rec a;simp only[Q95.s0];have e:wr .i64 ((xs.length:Int)-0)=(xs.length:Int):=(aE (by omega) (by omega)).trans (by omega);rw[e,decide_eq_true (by omega:(xs.length:Int)<=12)];simp only[cond_true];rw[yS (k+1) xs (by omega) I];rfl
  exact y (λ_=>none) ()
 rw[this];rfl
def d6 (l:List aM)(i:Int):Int:=((l[i.toNat]?).map (·.2)).getD 0
def ltL (l:List aM)(a b:Int):Bool:=decide (d6 l b<d6 l a)
def lt2 (l:List aM)(a b:Int):Prop:=d6 l b<d6 l a\/(d6 l a=d6 l b/\a<b)
def cq (n:Nat):List Int:=(List.range n).map λ (i:Nat)=>(i:Int)
def bB (l:List aM):List Int:=cQ (ltL l) [] (cq l.length)
theorem iq {n:Nat}{i:Int}:i∈cq n<->0<=i/\i<n:=by
 unfold cq;rw[B3];constructor
 ·rintro⟨j,hj,rfl⟩;have:=DT.1 hj;omega
 ·rintro⟨h0,h1⟩;exact⟨i.toNat,DT.2 (by omega),by omega⟩
theorem jl (n:Nat):(cq n).Pairwise (·<·):=by
 unfold cq;rw[B9];exact List.pairwise_lt_range.imp λh=>by omega
theorem dL {l:List aM}{i:Nat}(h:i<l.length):d6 l (i:Int)=l[i].2:=by
 unfold d6;rw[BK,BS h];rfl
theorem tg (l:List aM):∀ (xs done:List Int),done.Pairwise (lt2 l)->(∀ a∈done,∀ b∈xs,a<b)->xs.Pairwise (·<·)->(cQ (ltL l) done xs).Pairwise (lt2 l)
 |[],done,h,_,_=>h
 |x::xs,done,h,H,R=>by
  have y:=B5.1 R;have M:jU (ltL l) done:=h.imp λ {a b} O=>by
   unfold ltL;rw[decide_eq_false_iff_not];rcases O with z|⟨z,_⟩ <;> omega
  have e:=lj (ltL l) (λa b c z I=>by
   unfold ltL at z I ⊢;rw[decide_eq_false_iff_not]at z I ⊢;omega) x done.reverse [] (by rw[B6];exact M)
  rw[B6,BR]at e;simp only[cQ];rw[e];refine tg l xs _ ?_ ?_ y.2
  ·rw[CS,B5];refine⟨h.filter _,⟨λb u=>?_,h.filter _⟩,λa r b u=>?_⟩
   ·have z:ltL l x b=true:=by simpa using (BN.1 u).2
    exact .inl (by simpa[ltL]using z)
   ·have z:ltL l x a=false:=by simpa using (BN.1 r).2
    have X:¬ d6 l a<d6 l x:=by simpa[ltL]using z
    have J:=H a (BN.1 r).1 x (by simp);rcases CK.1 u with rfl|u
    ·by_cases I:d6 l b<d6 l a
     ·exact .inl I
     ·exact .inr ⟨by omega,J⟩
    ·have I:ltL l x b=true:=by simpa using (BN.1 u).2
     have Y:d6 l b<d6 l x:=by simpa[ltL]using I
     exact .inl (by omega)
  ·intro a r b u;rcases CQ.1 r with r|r
   ·exact H a (BN.1 r).1 b (by simp[u])
   ·rcases CK.1 r with rfl|r
    ·exact y.1 b u
    ·exact H a (BN.1 r).1 b (by simp[u])
theorem pM (l:List aM):(bB l).Pairwise (lt2 l):=tg l _ [] List.Pairwise.nil (by simp) (jl _)
theorem mj (l:List aM):(bB l).Perm (cq l.length):=by
 unfold bB;simpa using mi (ltL l) (cq l.length) []
theorem iJ {l:List aM}{i:Int}:i∈bB l<->0<=i/\i<l.length:=by rw[(mj l).mem_iff,iq]
theorem xm (l:List aM):(bB l).length=l.length:=by rw[(mj l).length_eq];simp[cq]
theorem un (l:List aM):(bB l).Nodup:=(mj l).nodup_iff.2 ((jl _).imp λh=>by omega)
def dk (T:List Int)(n:Nat):List Bool:=(cq n).map λi=>decide (i∈T)
theorem ff (T:List Int)(n:Nat):(dk T n).length=n:=by simp[dk,cq]
theorem iK (T:List Int){n i:Nat}(h:i<n):(dk T n)[i]'(by rw[ff];exact h)=decide ((i:Int)∈T):=by
 simp[dk,cq]
theorem xn {T:List Int}{n b:Nat}(u:b<n):(dk T n).set b true=dk (T++[(b:Int)]) n:=by
 refine Cs (by rw[DA,ff,ff]) λi y r=>?_
 rw[ff]at r;rw[DN,iK _ r];by_cases h:b=i
 ·subst h;rw[if_pos rfl,iK _ r];simp
 ·rw[if_neg h,iK _ r];have:¬ (i:Int)=(b:Int):=by omega
  simp[this]
def pN (l:List aM)(T:List Int)(i:Nat)(r:Int):Prop :=
 (r=-1/\∀ j:Nat,j<i->(j:Int)∈T)\/(0<=r/\r<i/\r∉T/\∀ j:Nat,j<i->(j:Int)∉T->(j:Int)≠r->lt2 l r (j:Int))
theorem Ag (K:Nat)(l:List aM)(T:List Int)(hl:l.length<=1048576):∀ (d i k:Nat) (r:Int),i+d=l.length->d<k->pN l T i r ->
  ∃ b:Int,ae (λrec a=>Q166.s0 K (l,dk T l.length,()) rec a) k (r,(i:Int))=some ((b,()),())/\pN l T l.length b:=by
 intro d;induction d with
 |zero =>
  intro i k r hi hk Y;obtain⟨k,rfl⟩:∃ k',k=k'+1:=⟨k-1,by omega⟩;have:i=l.length:=by omega
  subst this;refine⟨r,?_,Y⟩;show Q166.s0 K (l,dk T l.length,()) _ _=_;simp only[Q166.s0,aR];rfl
 |succ d ih =>
  intro i k r hi hk Y;obtain⟨k,rfl⟩:∃ k',k=k'+1:=⟨k-1,by omega⟩;have y:i<l.length:=by omega
  have J:∀ r,pN l T (i+1) r->∃ b:Int,ae (λrec a=>Q166.s0 K (l,dk T l.length,()) rec a) k (r,((i+1:Nat):Int))=some ((b,()),())/\pN l T l.length b:=λr h=>ih (i+1) k r (by omega) (by omega) h
  show ∃ b:Int,Q166.s0 K (l,dk T l.length,()) (ae (λrec a=>Q166.s0 K (l,dk T l.length,()) rec a) k) (r,(i:Int))=_/\_;generalize ae (λrec a=>Q166.s0 K (l,dk T l.length,()) rec a) k=REC at J ⊢;simp only[Q166.s0];rw[bo (by omega:(i:Int)<(BH l:Int)),ag (show i<(dk T l.length).length by rw[ff];exact y),iK T y,ar i (by omega)];simp only[cond_true,BG];by_cases O:(i:Int)∈T
  ·rw[decide_eq_true O];simp only[BP,cond_false];refine J r ?_;rcases Y with ⟨rfl,h⟩|⟨h0,h1,h2,X⟩
   ·refine .inl ⟨rfl,λj Z=>?_⟩;by_cases z:j=i
    ·subst z;exact O
    ·exact h j (by omega)
   ·refine .inr ⟨h0,by omega,h2,λj Z u H=>?_⟩;by_cases z:j=i
    ·subst z;exact absurd O u
    ·exact X j (by omega) u H
  ·rw[decide_eq_false O];simp only[CB,cond_true];rcases Y with ⟨rfl,h⟩|⟨h0,h1,h2,X⟩
   ·rw[show decide ((-1:Int)<0)=true from rfl];refine J (i:Int) (.inr ⟨by omega,by omega,O,λj Z u H=>?_⟩);exact absurd (h j (by omega)) u
   ·rw[decide_eq_false (by omega:¬ r<0)];obtain⟨b,rfl⟩:=BL h0;have I:b<l.length:=by omega
    simp only[cond_false];rw[ag y,ag I];simp only[BG];by_cases M:l[i].2>l[b].2
    ·rw[decide_eq_true M];refine J (i:Int) (.inr ⟨by omega,by omega,O,λj Z u H=>?_⟩);have z:j<i:=by omega
     have a1:j<l.length:=by omega
     by_cases R:(j:Int)=(b:Int)
     ·rw[R];exact .inl (by rw[dL y,dL I];exact M)
     ·have:=X j z u R;rcases this with h4|⟨h4,_⟩
      ·exact .inl (by rw[dL I]at h4;rw[dL y];omega)
      ·exact .inl (by rw[dL I]at h4;rw[dL y];omega)
    ·rw[decide_eq_false M];refine J (b:Int) (.inr ⟨by omega,by omega,h2,λj Z u H=>?_⟩);by_cases z:j=i
     ·subst z;by_cases a0:d6 l (b:Int)=d6 l (j:Int)
      ·exact .inr ⟨a0,h1⟩
      ·refine .inl ?_;rw[dL y,dL I]at *;omega
     ·exact X j (by omega) u H
theorem Bb (K:Nat)(l:List aM)(n:Nat)(hl:l.length<=1048576)(hK:1048577<K):Q166.f K (l,dk ((bB l).take n) l.length,())=some ((((bB l)[n]?).getD (-1),()),()):=by
  obtain⟨b,e,Z⟩:=Ag K l ((bB l).take n) hl l.length 0 K (-1) (by omega) (by omega) (.inl ⟨rfl,λj H=>by omega⟩);have:b=((bB l)[n]?).getD (-1):=by
    by_cases I:n<(bB l).length
    · rw[BS I]
      show b=(bB l)[n];have hm:(bB l)[n]∉(bB l).take n:=λh=>by
        obtain⟨j,H,e⟩:=BO h;rw[BY]at H;rw[Ck]at e;have:=CP.1 (pM l) j n (by omega) I (by omega);rw[e]at this;rcases this with u|⟨_,u⟩ <;> omega
      have hr:=iJ.1 (BI I);obtain⟨m,r⟩:=BL hr.1;rcases Z with ⟨rfl,h⟩|⟨M,Y,z,h3⟩
      · have:=h m (by omega)
        rw[<- r]at this;exact absurd this hm
      · by_cases R:b=(bB l)[n]
        · exact R
        · exfalso
          have y:=h3 m (by omega) (by rw[<- r];exact hm) (by rw[<- r];exact λh=>R h.symm);rw[<- r]at y;have J:b∈bB l:=iJ.2 ⟨M,Y⟩;obtain⟨j,H,X⟩:=BO J;have O:n<j:=by
            rcases Cn j n with h|h|h
            · exact absurd (List.mem_take_iff_getElem.2 ⟨j,by omega,X⟩) z
            · subst h;exact absurd X.symm R
            · exact h
          have u:=CP.1 (pM l) n j I H O;rw[X]at u;rcases y with y|⟨y,h6⟩ <;> rcases u with u|⟨u,h7⟩ <;> omega
    · rw[Cb (by omega)]
      show b=-1;rcases Z with ⟨rfl,_⟩|⟨M,Y,z,_⟩
      · rfl
      · exfalso
        rw[CE (by omega)]at z;exact z (iJ.2 ⟨M,Y⟩)
  rw[<- this];exact e
def bW (l:List aM):List Int:=(bB l).take 3
def gv (l:List aM)(i:Int):aM:=(l[i.toNat]?).getD ((0,0,0,false),0)
def dM (l:List aM)(T:List Int)(i:Int):aM:=bif decide (i∈T) then ((gv l i).1,(gv l i).2-1) else gv l i
def ei (l:List aM)(T:List Int)(n:Nat):List af:=((cq n).filter λi=>decide (i∈T)).map λi=>(gv l i).1
def fY (l:List aM)(T:List Int)(n:Nat):List aM:=(cq n).map (dM l T)
def dx (l:List aM)(T:List Int)(n:Nat):List aM:=(fY l T n).filter λx=>decide (x.2>0)
theorem co {l:List aM}{i:Nat}(h:i<l.length):gv l (i:Int)=l[i]:=by
 unfold gv;rw[BK,BS h];rfl
theorem mW (n:Nat):cq (n+1)=cq n++[(n:Int)]:=by
 unfold cq;rw[List.range_succ,Cu];rfl
theorem vM (l:List aM)(T:List Int)(n:Nat):ei l T (n+1)=ei l T n++(bif decide ((n:Int)∈T) then [(gv l (n:Int)).1] else []):=by
 unfold ei;rw[mW,CY,Cu,CC];cases decide ((n:Int)∈T) <;> rfl
theorem vN (l:List aM)(T:List Int)(n:Nat):dx l T (n+1)=dx l T n++(bif decide ((dM l T (n:Int)).2>0) then [dM l T (n:Int)] else []):=by
 unfold dx fY;rw[mW,Cu,CY,C0,CC];cases decide ((dM l T (n:Int)).2>0) <;> rfl
theorem xo (l:List aM)(T:List Int)(n:Nat):(ei l T n).length<=n:=by
 unfold ei;rw[BU];refine BZ (CA _ _) ?_;simp[cq]
theorem xp (l:List aM)(T:List Int)(n:Nat):(dx l T n).length<=n:=by
 unfold dx;refine BZ (CA _ _) ?_;simp[fY,cq]
theorem Ah (K:Nat)(l:List aM)(m:Int)(T:List Int)(J:l.length<=1048576)(H:cP l)(R:1048577<K) :
  Q167.l1 K (l,m,()) (dk T l.length,[],[],0)=some ((ei l T l.length,dx l T l.length,()),()):=by
 refine eY (step:=λrec a=>Q167.s1 K (l,m,()) rec a) l.length (λi=>(dk T l.length,ei l T i,dx l T i,(i:Int))) (some ((ei l T l.length,dx l T l.length,()),())) ?_ ?_ (by omega)
 ·intro rec i r;simp only[Q167.s1];have u:i<(dk T l.length).length:=by rw[ff];exact r
  have X:=xo l T i;have M:=xp l T i;obtain⟨O,I⟩:=(H.1 l[i] (BI r)).2;rw[bo (by omega:(i:Int)<(BH l:Int)),ag r,ag u,ar i (by omega),BK,ag u,iK T r,vM,vN,co r];simp only[cond_true,BG];cases z:decide ((i:Int)∈T) with
  |true =>
   have y:dM l T (i:Int)=(l[i].1,l[i].2-1):=by unfold dM;rw[z,co r];rfl
   rw[y];simp only[cond_true];rw[szb _ _ _ (by omega) (by simp;omega),aE (n:=l[i].2-1) (by omega) (by omega)];simp only[cond_true];cases decide (l[i].2-1>0) with
   |true =>
    simp only[cond_true];rw[szb _ _ _ (by omega) (by simp;omega)];rfl
   |false =>
    simp only[cond_false,BR]
  |false =>
   have y:dM l T (i:Int)=l[i]:=by unfold dM;rw[z,co r];rfl
   rw[y];simp only[cond_false,BR];cases decide (l[i].2>0) with
   |true =>
    simp only[cond_true];rw[szb _ _ _ (by omega) (by simp;omega)];rfl
   |false =>
    simp only[cond_false,BR]
 ·intro rec;simp only[Q167.s1,aR];rfl
theorem Bc (K:Nat)(l:List aM)(M:l.length<=1048576)(Z:cP l)(X:1048577<K):Q167.f K (l,3,())=some ((ei l (bW l) l.length,dx l (bW l) l.length,()),()):=by
 have r:∀ T,Q167.l1 K (l,3,()) (dk T l.length,[],[],0)=some ((ei l T l.length,dx l T l.length,()),()):=λT=>Ah K l 3 T M Z X
 have go:∀ (d n k:Nat),n+d=3->d<k->ae (λrec a=>Q167.s0 K (l,3,()) (Q167.l1 K (l,3,())) rec a) k (dk ((bB l).take n) l.length,(n:Int))=some ((ei l (bW l) l.length,dx l (bW l) l.length,()),()):=by
  intro d;induction d with
  |zero =>
   intro n k hn Y;obtain⟨k,rfl⟩:∃ H,k=H+1:=⟨k-1,by omega⟩;have:n=3:=by omega
   subst this;exact r _
  |succ d ih =>
   intro n k hn Y;obtain⟨k,rfl⟩:∃ H,k=H+1:=⟨k-1,by omega⟩;have y:=ih (n+1) k (by omega) (by omega);show Q167.s0 K (l,3,()) (Q167.l1 K (l,3,())) (ae (λrec a=>Q167.s0 K (l,3,()) (Q167.l1 K (l,3,())) rec a) k) (dk ((bB l).take n) l.length,(n:Int))=_;generalize ae (λrec a=>Q167.s0 K (l,3,()) (Q167.l1 K (l,3,())) rec a) k=REC at y ⊢;simp only[Q167.s0];rw[decide_eq_true (by omega:(n:Int)<3),Bb K l n M X,ar n (by omega)];simp only[cond_true,BG];by_cases u:n<(bB l).length
   ·rw[BS u];have R:=iJ.1 (BI u);have I:(bB l).take (n+1)=(bB l).take n++[(bB l)[n]]:=CT u;rw[I]at y;simp only[DO];generalize (bB l)[n]=v at R y ⊢;obtain⟨b,rfl⟩:=BL R.1;have J:b<l.length:=by omega
    have z:b<(dk ((bB l).take n) l.length).length:=by rw[ff];exact J
    rw[decide_eq_false (by omega:¬ (b:Int)<0),ag z,BK,ag z,xn J];exact y
   ·rw[Cb (by omega)];show Q167.l1 K (l,3,()) (dk ((bB l).take n) l.length,[],[],0)=_;rw[r,show (bB l).take n=bW l by unfold bW;rw[CE (by omega),CE (by omega)]]
 simp only[Q167.f,Q167.pre];rw[decide_eq_true (by omega:(0:Int)<=(BH l:Int)),show decide ((BH l:Int)*(1:Nat)<=ak)=true from decide_eq_true (by simp only[ak];omega),BK];simp only[decide_true,Ca,cond_true];have h0:Cg l.length false=dk ((bB l).take 0) l.length:=by
  refine Cs (by rw[Cq,ff]) λi h1 O=>?_
  rw[ff]at O;rw[List.getElem_replicate,iK _ O];simp
 have:=go 3 0 K (by omega) (by omega);rw[<- h0]at this;exact this
theorem rY {a b:List Int}(r:a.Nodup)(u:b.Nodup)(h:∀ x,x∈a<->x∈b):a.Perm b:=by
 rw[List.perm_iff_count];intro x;rw[r.count,u.count];simp[h]
def cW (l:List aM):List Int:=(cq l.length).filter λi=>decide (i∈bW l)
theorem uo (l:List aM):cQ ltZ [] (bW l)=cW l:=by
 have u:(bW l).Nodup:=(un l).sublist (List.take_sublist _ _);have r:((cq l.length).filter λi=>decide (i∈bW l)).Nodup:=((jl l.length).imp (λh=>by omega:∀ {a b:Int},a<b->a≠b)).filter _;refine oi ltZ ?_ (mV ltZ (λa b c u r=>by
  unfold ltZ at u r ⊢;rw[decide_eq_false_iff_not]at u r ⊢;omega) (λa b h=>by
  unfold ltZ at h ⊢;rw[decide_eq_true_eq]at h;rw[decide_eq_false_iff_not];omega) (bW l) [] List.Pairwise.nil) ?_
 ·refine (by simpa using mi ltZ (bW l) []:(cQ ltZ [] (bW l)).Perm (bW l)).trans (rY u r λx=>?_);rw[cW,BN,decide_eq_true_eq,iq];exact⟨λh=>⟨iJ.1 (DF h),h⟩,λh=>h.2⟩
 ·exact ((jl l.length).filter _).imp λh=>by unfold ltZ;exact decide_eq_true h
theorem xq {l:List aM}{i:Int}:i∈cW l<->i∈bW l:=by
 unfold cW;rw[BN,decide_eq_true_eq,iq];exact⟨λh=>h.2,λh=>⟨iJ.1 (DF h),h⟩⟩
theorem xt (l:List aM):(cW l).Pairwise (·<·):=(jl l.length).filter _
theorem eJ (l:List aM)(T:List Int)(n:Nat):(fY l T n).length=n:=by simp[fY,cq]
theorem fm (l:List aM)(T:List Int){n i:Nat}(h:i<n):(fY l T n)[i]'(by rw[eJ];exact h)=dM l T (i:Int):=by
 simp[fY,cq]
theorem yU (l:List aM):fY l [] l.length=l:=by
 refine Cs (eJ _ _ _) λi u r=>?_
 rw[fm l [] r];unfold dM;rw[co r];simp
theorem yV {l:List aM}{T:List Int}{b:Nat}(y:b<l.length):(fY l T l.length).set b ((gv l (b:Int)).1,(gv l (b:Int)).2-1)=fY l (T++[(b:Int)]) l.length:=by
 refine Cs (by rw[DA,eJ,eJ]) λi u r=>?_
 rw[eJ]at r;rw[DN,fm _ _ r];by_cases h:b=i
 ·subst h;rw[if_pos rfl,fm _ _ r];unfold dM;rw[decide_eq_true (by simp:(b:Int)∈T++[(b:Int)])];rfl
 ·rw[if_neg h,fm _ _ r];unfold dM;have:((i:Int)∈T++[(b:Int)])<->(i:Int)∈T:=by
   rw[CQ,CG];exact⟨λu=>u.resolve_right (by omega),.inl⟩
  rw[show decide ((i:Int)∈T++[(b:Int)])=decide ((i:Int)∈T) by rw[decide_eq_decide];exact this]
theorem vO {l:List aM}{T T':List Int}(h:∀ i,i∈T<->i∈T')(n:Nat):fY l T n=fY l T' n:=by
 unfold fY;refine List.map_congr_left λi _=>?_
 unfold dM;rw[show decide (i∈T)=decide (i∈T') by rw[decide_eq_decide];exact h i]
theorem uq (K:Nat)(x:ab Q98.ps)(l:List aM)(hl:l.length<=1048576)(X:cP l)(hK:1048577<K) :
  Q98.l1 K x (l,cW l,[],(BH (cW l):Int),0)=some ((ei l (bW l) l.length,dx l (bW l) l.length,()),()):=by
 have a0:(cW l).length<=l.length:=by
  refine BZ (CA _ _) ?_;simp[cq]
 refine Cw ?_ (eY (step:=λrec a=>Q98.s1 K x rec a) (cW l).length (λi=>(fY l ((cW l).take i) l.length,cW l,((cW l).take i).map (λj=>(gv l j).1),(BH (cW l):Int),(i:Int))) (some ((ei l (bW l) l.length,dx l (bW l) l.length,()),())) ?_ ?_ (by omega:(cW l).length<K))
 ·simp only[List.take_zero,DV,yU];rfl
 ·intro rec i r;simp only[Q98.s1];have Y:=iq.1 ((BN.1 (BI r)).1);have u:(cW l)[i]∉(cW l).take i:=λh=>by
   obtain⟨j,hj,e⟩:=BO h;rw[BY]at hj;rw[Ck]at e;have:=CP.1 (xt l) j i (by omega) r (by omega);omega
  have O:(cW l).take (i+1)=(cW l).take i++[(cW l)[i]]:=CT r;rw[O,Cu];have I:(((cW l).take i).map (λj=>(gv l j).1)).length<=1048576:=by rw[BU,BY];omega
  rw[bo (by omega:(i:Int)<(BH (cW l):Int)),ag r,ar i (by omega),BK,ag r];simp only[cond_true,BG];generalize (cW l)[i]=v at Y u ⊢;obtain⟨b,rfl⟩:=BL Y.1;have z:b<l.length:=by omega
  have H:b<(fY l ((cW l).take i) l.length).length:=by rw[eJ];exact z
  have hd:dM l ((cW l).take i) (b:Int)=l[b]:=by
   unfold dM;rw[decide_eq_false u,co z];rfl
  obtain⟨c0,c1⟩:=(X.1 l[b] (BI z)).2;rw[ag H,BK,ag H,fm l _ z,hd];simp only[BG];rw[szb _ _ _ (by omega) (by simp only[BU,BM,BQ]at I ⊢;omega),aE (n:=l[b].2-1) (by omega) (by omega),<- yV z,co z];simp only[cond_true,C0,DV,co z]
 ·intro rec;simp only[Q98.s1,aR,cond_false,Ch,Q9.f];have e:∀ J:List aM,J.length<=1048576->gI t3 J (λM=>(Q97.f K (M.1,())).map λy=>y.1.1)=some ((J.filter (λx=>!(x.2==0)),()),()):=λJ R=>rg (e:=t3) (λx=>x.2==0) R (λx _=>rfl)
  rw[e _ (by rw[eJ];exact hl)];simp only[BG];rw[vO (l:=l) (T:=cW l) (T':=bW l) (λi=>xq) l.length];have Z:(fY l (bW l) l.length).filter (λx=>!(x.2==0))=dx l (bW l) l.length:=by
   unfold dx;refine Cz λx hx=>?_
   have h0:0<=x.2:=by
    obtain⟨i,r,rfl⟩:=BO hx;rw[eJ]at r;rw[fm l _ r];obtain⟨c0,c1⟩:=(X.1 l[i] (BI r)).2;unfold dM;rw[co r];cases decide ((i:Int)∈bW l) with
    |true=>show 0<=l[i].2-1;omega
    |false=>show 0<=l[i].2;omega
   rw[CR];simp;omega
  rw[Z];rfl
theorem vP (K:Nat)(l:List aM)(hl:l.length<=8)(H:cP l)(I:1048577<K):Q98.f K (l,3,())=some ((ei l (bW l) l.length,dx l (bW l) l.length,()),()):=by
 simp only[Q98.f,Q98.pre];obtain⟨b1,e1,e2⟩:=oY K l (by omega) I;have J:=e2.2 H;subst J;rw[e1];simp only[BG,BP,cond_false];rw[decide_eq_true (by omega:(0:Int)<=(BH l:Int)),show decide ((BH l:Int)*(8:Nat)<=ak)=true from decide_eq_true (by simp only[ak];omega),BK];simp only[decide_true,Ca,cond_true];have O:(cq l.length).length=l.length:=by simp[cq]
 have hS:∀ i,i<=l.length->(cq i++Cg (l.length-i) (0:Int)).length=l.length:=λi hi=>by simp[cq];omega
 refine Cw ?_ (eY (step:=λrec a=>Q98.s0 K (l,3,()) (Q98.l1 K (l,3,())) rec a) l.length (λi=>(cq i++Cg (l.length-i) (0:Int),(i:Int))) (some ((ei l (bW l) l.length,dx l (bW l) l.length,()),())) ?_ ?_ (by omega:l.length<K))
 ·rfl
 ·intro rec i hi;simp only[Q98.s0];have u:i<(cq i++Cg (l.length-i) (0:Int)).length:=by rw[hS i (by omega)];exact hi
  rw[decide_eq_true (by rw[Cq];show (i:Int)<((BJ (BH l:Int):Nat):Int);omega),ag u,ar i (by omega),BK,ag u];simp only[cond_true,BG];have e:(cq i++Cg (l.length-i) (0:Int)).set i (i:Int)=cq (i+1)++Cg (l.length-(i+1)) (0:Int):=by
   obtain⟨m,hm⟩:∃ m,l.length-i=m+1:=⟨l.length-i-1,by omega⟩;have X:(cq i).length=i:=by simp[cq]
   rw[hm,show l.length-(i+1)=m by omega,mW,DD _ _ (by omega),X,Nat.sub_self,List.replicate_succ,List.set_cons_zero,CH];rfl
  rw[e]
 ·intro rec;simp only[Q98.s0];rw[decide_eq_false (by rw[Cq];show ¬ (BH l:Int)<((BJ (BH l:Int):Nat):Int);omega),Nat.sub_self,List.replicate_zero,BR];simp only[cond_false,Q2.f];have r:=yR K (cq l.length) (λZ=>(Q86.f K (Z.1,Z.2.1,l,())).map λy=>y.1.1) (ltL l) (λi=>0<=i/\i<l.length) (λy R=>iq.1 R) (λy z R hz=>by
   obtain⟨a,rfl⟩:=BL R.1;obtain⟨b,rfl⟩:=BL hz.1;have Y:a<l.length:=by omega
   have M:b<l.length:=by omega
   obtain⟨c0,c1⟩:=(H.1 l[a] (BI Y)).2;obtain⟨c2,c3⟩:=(H.1 l[b] (BI M)).2;refine⟨l[b].2-l[a].2,?_,?_⟩
   ·simp only[Q86.f];rw[ag Y,ag M];simp only[BG];rw[aE (n:=l[b].2-l[a].2) (by omega) (by omega)];rfl
   ·unfold ltL;rw[dL Y,dL M,decide_eq_decide];omega) (by rw[O];omega) I
  rw[r];simp only[BG];rw[dY (by omega)];simp only[BG];rw[show Q76.f K (cQ (ltL l) [] (cq l.length),3,())=some ((bW l,()),()) from qx K (bB l) 3 (by rw[xm];omega)];simp only[BG];rw[yT K (bW l) (BZ (CW _ _) (by omega)) I,uo];simp only[BG];exact uq K (l,3,()) l (by omega) H I
theorem Bd {a b:Int}(r:0<=a)(z:a<4611686018427387904)(u:0<=b)(y:b<4611686018427387904):0<=qp .i64 a b:=by
 obtain⟨m,rfl⟩:=BL r;obtain⟨n,rfl⟩:=BL u;have h:(BitVec.ofInt 64 (m:Int) ^^^ BitVec.ofInt 64 (n:Int)).toNat=m ^^^ n:=by
  rw[BitVec.toNat_xor,BitVec.toNat_ofInt,BitVec.toNat_ofInt];congr 1
  ·omega
  ·omega
 have H:m ^^^ n<2 ^ 62:=Nat.xor_lt_two_pow (by omega) (by omega);show 0<=IntKind.i64.wrap (((BitVec.ofInt 64 (m:Int) ^^^ BitVec.ofInt 64 (n:Int)).toNat:Nat):Int);rw[h,DP];omega
structure fZ (b:List Int):Prop where
 byte:∀ y∈b,0<=y/\y<=255
 len:b.length<=2000
theorem Ai (K:Nat)(b:List Int)(q:Nat)(n:Int)(h:fZ b)(hq:q<=100000)(hn:1<=n):∃ v:Int,Q117.f K ((b,(q:Int)),n,())=some ((v,()),((b,((q+1:Nat):Int)),()))/\0<=v/\v<n:=by
 have w1:wr .i64 ((q:Int)+1)=((q+1:Nat):Int):=ar q (by omega);have w2:wr .i64 (((q+1:Nat):Int)-1)=(q:Int):=by rw[aE (n:=((q+1:Nat):Int)-1) (by omega) (by omega)];omega
 have hl:=h.len;have I:decide (n=0)=false:=decide_eq_false (by omega);have r:∀ x:Int,0<=x->0<=CJ x n/\CJ x n<n:=λx u=>⟨DB _ u,Cx _ (by omega)⟩
 simp only[Q117.f];rw[decide_eq_false (by omega:¬ n<1)];simp only[cond_false,w1,w2,I];by_cases O:b.length=0
 ·rw[show ((b.length:Int)==0)=true by simpa using O];exact⟨0,rfl,by omega,by omega⟩
 ·rw[show ((b.length:Int)==0)=false by simpa using O];simp only[cond_false];by_cases H:q<b.length
  ·rw[decide_eq_true (by omega:(q:Int)<(b.length:Int)),ag H];simp only[cond_true,BG];obtain⟨J,M⟩:=h.byte b[q] (BI H);rw[aE (n:=b[q]) (by omega) (by omega)];exact⟨_,rfl,r _ J⟩
  ·rw[decide_eq_false (by omega:¬ (q:Int)<(b.length:Int)),decide_eq_false (by omega:¬ (b.length:Int)=0)];simp only[cond_false];have t1:CJ (q:Int) (b.length:Int)=((q % b.length:Nat):Int):=by rw[Cy (by omega)];rfl
   have t2:wr .i64 (wr .i64 ((q:Int)*7)+3)=((q*7+3:Nat):Int):=by rw[aE (n:=(q:Int)*7) (by omega) (by omega),aE (n:=(q:Int)*7+3) (by omega) (by omega)];omega
   have t3:CJ (((q*7+3:Nat)):Int) (b.length:Int)=(((q*7+3) % b.length:Nat):Int):=by rw[Cy (by omega)];rfl
   have R:q % b.length<b.length:=Nat.mod_lt _ (by omega);have Y:(q*7+3) % b.length<b.length:=Nat.mod_lt _ (by omega);rw[t1,t2,t3,ag R,ag Y];simp only[BG];obtain⟨J,M⟩:=h.byte b[q % b.length] (BI R);obtain⟨Z,z1⟩:=h.byte b[(q*7+3) % b.length] (BI Y);generalize b[q % b.length]=y at J M ⊢;generalize b[(q*7+3) % b.length]=z at Z z1 ⊢;have d1:0<=Co (q:Int) (b.length:Int)/\Co (q:Int) (b.length:Int)<=q:=⟨DS (by omega) (by omega),DQ _ (by omega)⟩;generalize Co (q:Int) (b.length:Int)=e at d1 ⊢;have x1:wr .i64 (wr .i64 (wr .i64 (wr .i64 (wr .i64 y*131)+wr .i64 (wr .i64 z*1117))+wr .i64 ((q:Int)*29))+wr .i64 (wr .i64 e*53))=y*131+z*1117+q*29+e*53:=by
    rw[aE (n:=y) (by omega) (by omega),aE (n:=z) (by omega) (by omega),aE (n:=e) (by omega) (by omega),aE (n:=y*131) (by omega) (by omega),aE (n:=z*1117) (by omega) (by omega),aE (n:=(q:Int)*29) (by omega) (by omega),aE (n:=e*53) (by omega) (by omega),
     aE (n:=y*131+z*1117) (by omega) (by omega),aE (n:=y*131+z*1117+(q:Int)*29) (by omega) (by omega),aE (n:=y*131+z*1117+(q:Int)*29+e*53) (by omega) (by omega)]
   rw[x1];have u:0<=y*131+z*1117+q*29+e*53/\y*131+z*1117+q*29+e*53<=10000000:=by omega
   generalize y*131+z*1117+(q:Int)*29+e*53=X at u ⊢;have d2:0<=Co X 64/\Co X 64<=X:=⟨DS u.1 (by omega),DQ _ u.1⟩;rw[aE (n:=Co X 64) (by omega) (by omega)];exact⟨_,rfl,r _ (Bd u.1 (by omega) d2.1 (by omega))⟩
theorem vQ (K:Nat)(t:List af)(f:af)(Z:t.length<=1048576)(O:Asc (λg:af=>g.1) t)(hK:1048577<K):Q119.f K (t,f,())=some (((bS t f).1,(bS t f).2,()),()):=by
 simp only[Q119.f,Q119.pre];obtain⟨o,z,J⟩:=fC K t f.1 Z hK;rw[J];simp only[BG];cases z with
 |at_ i r e =>
  simp only;rw[kw O r e,decide_eq_true (by omega:((i:Nat):Int)>=0),ag r];simp only[cond_true,BG,BK,ag r];rw[show Q19.f K (f,t[i],())=_ from pJ K f t[i]];simp only[BG];by_cases z:bR f t[i]
  ·rw[decide_eq_true z,if_pos z];simp only[BP,cond_false];rw[szb _ _ _ (by omega) (by show (BH ([]:List af))+t.length<=_;simp;omega)];simp only[cond_true,BT,ag r,BG,BK];rw[kv (k:=λg:af=>g.1) O r e]
  ·rw[decide_eq_false z,if_neg z];rfl
 |no h =>
  simp only;rw[im h,decide_eq_false (by omega:¬ (-1:Int)>=0)];simp only[cond_false];have I:∀ m:Nat,m<=t.length->(bif decide ((0:Int)<=0)&&decide ((0:Int)<=(m:Int))&&decide ((m:Int)<=(BH t:Int))&&true then (bif decide ((BH ([]:List af)+BH ((t.take (BJ (m:Int))).drop (BJ 0)))*32<=ak) then (bif decide ((BH ([]++((t.take (BJ (m:Int))).drop (BJ 0)))+BH ([f]))*32<=ak) then (bif decide ((0:Int)<=(m:Int))&&decide ((m:Int)<=(BH t:Int))&&decide ((BH t:Int)<=(BH t:Int))&&true then (bif decide ((BH (([]++((t.take (BJ (m:Int))).drop (BJ 0)))++([f]))+BH ((t.take (BJ (BH t:Int))).drop (BJ (m:Int))))*32<=ak) then (some (((([]++((t.take (BJ (m:Int))).drop (BJ 0)))++([f]))++((t.take (BJ (BH t:Int))).drop (BJ (m:Int))),true,()),())) else none) else none) else none) else none) else (none:Option ((List af×Bool×Unit)×Unit)))=some ((t.take m++[f]++t.drop m,true,()),()):=by
   intro m X;rw[decide_eq_true (by omega:(0:Int)<=0),decide_eq_true (by omega:(0:Int)<=(m:Int)),decide_eq_true (by omega:(m:Int)<=(BH t:Int)),decide_eq_true (by omega:(BH t:Int)<=(BH t:Int))];simp only[BK,Cd,B4,BT,Ch,Ca,cond_true];have J:(t.take m).length=m:=by rw[BY];omega
   have H:(t.drop m).length=t.length-m:=CD;rw[szb _ _ _ (by omega) (by simp only[BQ];omega),szb _ _ _ (by omega) (by simp only[BM,BQ];omega),szb _ _ _ (by omega) (by simp only[BV,BM,BQ];omega)];rfl
  have:=ch (step:=λrec a=>Q119.s0 K (t,f,()) rec a) t.length (λi=>(i:Int)) (λj=>∃ h:j<t.length,¬ t[j].1<f.1) (some ((t.take t.length++[f]++t.drop t.length,true,()),())) (λj=>some ((t.take j++[f]++t.drop j,true,()),())) ?_ ?_ t.length K 0 (by omega) (by omega)
  ·have M:∀ m,m<=t.length->(∀ i,(r:i<t.length)->i<m->t[i].1<f.1)->(∀ i,(r:i<t.length)->m<=i->f.1<t[i].1)->t.take m++[f]++t.drop m=bH (λg=>g.1) f t:=λm X lo r=>ji (k:=λg:af=>g.1) X lo r
   rcases this with ⟨J,H⟩|⟨j,_,J,⟨h3,h4⟩,h5,H⟩
   ·rw[M t.length (BW _) (λi r _=>by
     have:=J i (BX _) r;exact Cm.1 λh=>this ⟨r,h⟩) (λi r h=>by omega)]at H
    exact H
   ·rw[M j (by omega) (λi r y=>by
     have:=h5 i (BX _) y;exact Cm.1 λh=>this ⟨r,h⟩) (λi r y=>by
     have Y:=h t[i] (BI r);rcases CO y with R|R
     ·have:=dn.1 O j i h3 r R;omega
     ·subst R;omega)]at H
    exact H
  ·intro rec i r;simp only[Q119.s0];rw[bo (by omega:(i:Int)<(BH t:Int)),ag r,ar i (by omega)];simp only[cond_true,BG];rw[show idx t ((BJ (i:Int):Nat):Int)=some t[i] by rw[BK];exact ag r];simp only[BG];by_cases u:t[i].1<f.1
   ·exact .inl ⟨λ⟨_,h⟩=>h u,by rw[decide_eq_true u];rfl⟩
   ·exact .inr ⟨⟨r,u⟩,by rw[decide_eq_false u];exact I i (by omega)⟩
  ·intro rec;simp only[Q119.s0,aR,cond_false];exact I t.length (BW _)
def fE (t:List af)(fs:List af):List af:=fs.foldl (λt f=>(bS t f).1) t
theorem rh:∀ {fs t:List af},ax t->(∀ f∈fs,bA f)->ax (fE t fs)
 |[],_,h,_=>h
 |f::fs,t,h,r=>rh (fs:=fs) (kx h (r f (by simp))) (λg u=>r g (by simp[u]))
theorem cE {t:List af}(h:ax t):t.length<=1048576:=BZ (iU h.2 (λg r=>(h.1 g r).1)) (by decide)
theorem ur {R:Type}(a fs:List af)(O:ax a)(M:∀ f∈fs,bA f)(u:List af->Option R){step:(List af×Int->Option R)->List af×Int->Option R}
  (h:∀ (rec:List af×Int->Option R) (t:List af) (i:Nat) (J:i<fs.length),ax t->step rec (t,(i:Int))=rec ((bS t fs[i]).1,((i+1:Nat):Int)))
  (y:∀ (rec:List af×Int->Option R) (t:List af),step rec (t,(fs.length:Int))=u t) {k:Nat} (z:fs.length<k):ae step k (a,0)=u (fE a fs):=by
 have:∀ (d i k:Nat) (t:List af),i+d=fs.length->d<k->ax t->ae step k (t,(i:Int))=u (fE t (fs.drop i)):=by
  intro d;induction d with
  |zero =>
   intro i k t J z _;obtain⟨k,rfl⟩:∃ H,k=H+1:=⟨k-1,by omega⟩;have:i=fs.length:=by omega
   subst this;show step (ae step k) _=_;rw[y,C4];rfl
  |succ d X =>
   intro i k t J z I;obtain⟨k,rfl⟩:∃ H,k=H+1:=⟨k-1,by omega⟩;have r:i<fs.length:=by omega
   show step (ae step k) _=_;rw[h _ _ _ r I,B8 r];exact X (i+1) k _ (by omega) (by omega) (kx I (M _ (BI r)))
 have:=this fs.length 0 k a (by omega) z O
 rwa [B4]at this
theorem xu (f:af):¬ bR f f:=by
 unfold bR;simp
theorem kD (K:Nat)(xs:List af)(y:xs.length<=1048576)(z:1048577<K):Q226.f K (xs,xs,())=rb true:=by
 have r:Q226.l0 K (xs,xs,()) 0=rb true:=by
  refine eY (step:=λrec a=>Q226.s0 K (xs,xs,()) rec a) xs.length (λi=>(i:Int)) (rb true) ?_ ?_ (by omega)
  ·intro rec i u;simp only[Q226.s0];rw[decide_eq_true (by omega:(i:Int)<(BH xs:Int)),ag u,ar i (by omega)];simp only[cond_true,BG];rw[show Ty.eqv t2 xs[i] xs[i]=decide (xs[i]=xs[i]) from jI _ _,decide_eq_true rfl];rfl
  ·intro rec;simp only[Q226.s0,aR];rfl
 simp only[Q226.f,Q226.pre,bne_self_eq_false,cond_false];exact r
theorem o9 {l:List aM}(J:cP l)(T:List Int):ax (ei l T l.length):=by
 unfold ei;constructor
 ·intro f hf;obtain⟨i,I,rfl⟩:=B3.1 hf;obtain⟨R,h1⟩:=iq.1 (BN.1 I).1;obtain⟨b,rfl⟩:=BL R;have M:b<l.length:=by omega
  rw[co M];exact (J.1 l[b] (BI M)).1
 ·unfold Asc;rw[B9];have Y:((cq l.length).filter λi=>decide (i∈T)).Pairwise λ (a b:Int)=>(0<=a/\a<l.length)/\(0<=b/\b<l.length)/\a<b:=by
   refine Cf _ ?_;have:∀ u:List Int,(∀ x∈u,0<=x/\x<l.length)->u.Pairwise (·<·)->u.Pairwise λ (a b:Int)=>(0<=a/\a<l.length)/\(0<=b/\b<l.length)/\a<b:=by
    intro u z r;induction u with
    |nil=>exact List.Pairwise.nil
    |cons x u ih =>
     rw[B5]at r ⊢;exact⟨λy H=>⟨z x (by simp),z y (by simp[H]),r.1 y H⟩,ih (λy H=>z y (by simp[H])) r.2⟩
   exact this _ (λx z=>iq.1 z) (jl _)
  refine Y.imp λ {a b} h=>?_
  obtain⟨⟨Z,a1⟩,⟨X,b1⟩,a2⟩:=h;obtain⟨i,rfl⟩:=BL Z;obtain⟨j,rfl⟩:=BL X;have I:i<l.length:=by omega
  have O:j<l.length:=by omega
  rw[co I,co O];exact dn.1 J.2 i j I O (by omega)
theorem th {l:List aM}(J:cP l)(T:List Int):cP (dx l T l.length):=by
 have r:∀ i (h:i<l.length),(dM l T (i:Int)).1=l[i].1:=λi h=>by
  unfold dM;rw[co h];cases decide ((i:Int)∈T) <;> rfl
 have I:∀ i (h:i<l.length),(dM l T (i:Int)).2<=l[i].2:=λi h=>by
  unfold dM;rw[co h];cases decide ((i:Int)∈T) with
  |true=>show l[i].2-1<=l[i].2;omega
  |false=>exact CM _
 unfold dx;constructor
 ·intro x M;obtain⟨O,z⟩:=BN.1 M;have z:x.2>0:=by simpa using z
  obtain⟨i,u,rfl⟩:=BO O;rw[eJ]at u;rw[fm l T u]at z ⊢;have:=(J.1 l[i] (BI u));refine⟨by rw[r i u];exact this.1,?_,?_⟩
  ·omega
  ·have R:=I i u;have X:=this.2.2;omega
 ·unfold Asc;refine Cf _ ?_;rw[CP];intro i j u y H;rw[eJ]at u y;show (fY l T l.length)[i].1.1<(fY l T l.length)[j].1.1;rw[fm l T u,fm l T y,r i u,r j y];exact dn.1 J.2 i j u y H
def iW (n:aa)(to:Int):List af :=
 bif (aG (aa.table n) to).2.2.1==2 then (bS (ei (aa.cast n) (bW (aa.cast n)) (aa.cast n).length) (aG (aa.table n) to)).1 else ei (aa.cast n) (bW (aa.cast n)) (aa.cast n).length
def ir (n:aa):aa:=iT n (aa.table n) (dx (aa.cast n) (bW (aa.cast n)) (aa.cast n).length) (aa.doubts n)
theorem km {n:aa}(h:b8 n)(to:Int):ax (iW n to):=by
 have y:=o9 h.cast (bW (aa.cast n));unfold iW;cases u:(aG (aa.table n) to).2.2.1==2 with
 |false=>exact y
 |true =>
  refine kx y (c7 h.table ?_).1;by_cases r:∃ f∈aa.table n,f.1=to
  ·exact r
  ·rw[jL (λg z e=>r ⟨g,z,e⟩)]at u;simp at u
theorem Be {n:aa}(h:b8 n):b8 (ir n):=b8.mk' h.table (th h.cast _) h.asc h.inp
theorem clen {n:aa}(h:b8 n):(aa.cast n).length<=8:=iU h.cast.2 (λx r=>(h.cast.1 x r).1.1)
theorem qA (K:Nat)(n:aa)(to:Int)(h:b8 n)(y:1048577<K):Q200.f K (n,to,())=some ((iW n to,ir n,()),()):=by
 have M:=clen h;simp only[Q200.f,zcp8];rw[show Q167.f K (n.2.2.2.2.2.2.2.2.2.1,3,())=_ from Bc K (aa.cast n) (by omega) h.cast y];simp only[BG];obtain⟨o,J,I⟩:=fC K (aa.table n) to h.lt y;rw[show Q16.f K (n.2.2.2.2.2.2.2.2.1,to,())=_ from I];simp only[BG,iW];have H:=o9 h.cast (bW (aa.cast n));cases J with
 |no r =>
  rw[jL r];rfl
 |at_ j z e =>
  have u:aG (aa.table n) to=(aa.table n)[j]:=by rw[<- e];exact jK h.table.2 (BI z)
  rw[u];simp only;rw[decide_eq_true (by omega:((j:Nat):Int)>=0),show idx n.2.2.2.2.2.2.2.2.1 ((j:Nat):Int)=some (aa.table n)[j] from ag z];simp only[cond_true,BG];cases (aa.table n)[j].2.2.1==2 with
  |false=>rfl
  |true =>
   simp only[cond_true];rw[vQ K _ _ (cE H) H.2 y];rfl
theorem vR (K:Nat)(n:aa)(to:Int)(h:b8 n)(r:1048577<K):Q99.f K (n,to,())=some ((iW n to,()),(ir n,())):=by
 simp only[Q99.f,zcp8];rw[show Q98.f K (n.2.2.2.2.2.2.2.2.2.1,3,())=_ from vP K (aa.cast n) (clen h) h.cast r];simp only[BG];obtain⟨b,y⟩:=iV K (aa.table n) to h.table h.lt r;rw[show Q37.f K (n.2.2.2.2.2.2.2.2.1,to,())=_ from y];simp only[BG,iW];have u:=o9 h.cast (bW (aa.cast n));cases (aG (aa.table n) to).2.2.1==2 with
 |false=>rfl
 |true =>
  simp only[cond_true];rw[zK K _ _ (cE u) u.2 r];rfl
def bg (n:aa)(k:Nat):Int:=CJ (n.2.2.2.2.2.2.2.1+(k:Int)) 8
def gL (n:aa)(k:Nat):Prop:=bg n k≠n.1/\cL (aG (aa.table n) (bg n k))=true
def qB (n:aa)(to:Int):aa :=
 let m:=ir n
 (m.1,m.2.1,m.2.2.1,m.2.2.2.1,m.2.2.2.2.1,m.2.2.2.2.2.1,m.2.2.2.2.2.2.1+1,to+1,m.2.2.2.2.2.2.2.2.1,m.2.2.2.2.2.2.2.2.2.1,(to,m.2.2.2.2.2.1,m.2.2.2.2.2.2.1+1,false),m.2.2.2.2.2.2.2.2.2.2.2)
def sk (n:aa)(to:Int):ao:=(1,1,n.1,to,n.2.2.2.2.2.2.1+1,n.1,aa.coord n,iW n to)
theorem u3 (K:Nat)(n:aa)(h:b8 n)(O:0<=n.2.2.2.2.2.2.2.1)(X:n.2.2.2.2.2.2.2.1<=8)(hK:1048577<K) :
  ∃ to:Int,Q199.f K (n,())=some ((to,()),())/\((to=-1/\∀ k,k<8->¬ gL n k)\/∃ k,k<8/\gL n k/\(∀ j,j<k->¬ gL n j)/\to=bg n k):=by
 have u:∀ k:Nat,k<8->wr .i64 (n.2.2.2.2.2.2.2.1+(k:Int))=n.2.2.2.2.2.2.2.1+(k:Int):=λk M=>aE (by omega) (by omega)
 have:=ch (step:=λrec a=>Q199.s0 K (n,()) rec a) 8 (λi=>(i:Int)) (gL n) (some ((-1,()),())) (λj=>some ((bg n j,()),())) ?_ ?_ 8 K 0 (by omega) (by omega)
 ·rcases this with ⟨I,H⟩|⟨j,_,I,R,Y,H⟩
  ·exact⟨-1,H,.inl ⟨rfl,λk M=>I k (BX _) M⟩⟩
  ·exact⟨_,H,.inr ⟨j,I,R,λm Z=>Y m (BX _) Z,rfl⟩⟩
 ·intro rec i hi;simp only[Q199.s0];rw[decide_eq_true (by omega:(i:Int)<=7),u i hi,ar i (by omega)];simp only[cond_true];show (¬ gL n i/\(bif bg n i != n.1 then ((Q196.f K (aa.table n,bg n i,())).bind λy=>bif y.1.1 then (some ((bg n i,()),())) else (rec ((i+1:Nat):Int))) else (rec ((i+1:Nat):Int)))=rec ((i+1:Nat):Int))\/(gL n i/\(bif bg n i != n.1 then ((Q196.f K (aa.table n,bg n i,())).bind λy=>bif y.1.1 then (some ((bg n i,()),())) else (rec ((i+1:Nat):Int))) else (rec ((i+1:Nat):Int)))=some ((bg n i,()),()));rw[sY K (aa.table n) (bg n i) h.table h.lt hK];by_cases r:bg n i=n.1
  ·exact .inl ⟨λJ=>J.1 r,by rw[show (bg n i != n.1)=false by simpa using r];rfl⟩
  ·rw[show (bg n i != n.1)=true by simpa using r];cases z:cL (aG (aa.table n) (bg n i)) with
   |true=>exact .inr ⟨⟨r,z⟩,rfl⟩
   |false=>exact .inl ⟨λJ=>(by rw[J.2]at z;cases z),rfl⟩
 ·intro rec;simp only[Q199.s0];rfl
theorem yW (K:Nat)(n:aa)(h:b8 n)(hp:(aa.probe n).1=-1)(a6:0<=n.2.2.2.2.2.2.1)(ad:n.2.2.2.2.2.2.1<=1000000)(a0:0<=n.2.2.2.2.2.2.2.1)(a2:n.2.2.2.2.2.2.2.1<=8)(Y:1048577<K) :
  ∃ (y:aa) (X:List ao),Q201.f K (n,())=some ((y,X,()),())/\Q100.f K (n,())=some ((X,()),(y,()))/\((y=n/\X=[])\/∃ to,y=qB n to/\X=[sk n to]):=by
 have z:∀ k:Nat,k<8->wr .i64 (n.2.2.2.2.2.2.2.1+(k:Int))=n.2.2.2.2.2.2.2.1+(k:Int):=λk R=>aE (by omega) (by omega)
 have H:∀ k:Nat,k<8->0<=bg n k/\bg n k<8:=λk R=>⟨DB _ (by omega),Cx _ (by omega)⟩
 obtain⟨to,es,a3⟩:=u3 K n h a0 a2 Y;simp only[Q201.f,zcp4,Q100.f,Q100.pre];rw[es,show (n.2.2.2.2.2.2.2.2.2.2.1.1 != -1)=false by show ((aa.probe n).1 != -1)=false;rw[hp];rfl];simp only[BG,cond_false];by_cases u:n.2.2.2.2.2.2.1>=999999
 ·rw[decide_eq_true u];refine⟨n,[],?_,rfl,.inl ⟨rfl,rfl⟩⟩;cases decide (to<0) <;> rfl
 ·rw[decide_eq_false u];simp only[cond_false];have O:wr .i64 (n.2.2.2.2.2.2.1+1)=n.2.2.2.2.2.2.1+1:=aE (by omega) (by omega);have M:=ch (step:=λrec a=>Q100.s0 K (n,()) rec a) 8 (λi=>(i:Int)) (gL n) (some (([],()),(n,()))) (λj=>some (([sk n (bg n j)],()),(qB n (bg n j),()))) ?_ ?_ 8 K 0 (by omega) (by omega)
  ·rcases a3 with ⟨rfl,a5⟩|⟨k,R,I,a4,rfl⟩
   ·rcases M with ⟨_,h2⟩|⟨j,_,Z,h3,_,_⟩
    ·exact⟨n,[],rfl,h2,.inl ⟨rfl,rfl⟩⟩
    ·exact absurd h3 (a5 j Z)
   ·have a9:=H k R;rcases M with ⟨Z,_⟩|⟨j,_,Z,h3,h4,h2⟩
    ·exact absurd I (Z k (BX _) R)
    ·have:j=k:=by
      rcases Cn j k with J|J|J
      ·exact absurd h3 (a4 j J)
      ·exact J
      ·exact absurd I (h4 k (BX _) J)
     subst this;refine⟨qB n (bg n j),[sk n (bg n j)],?_,h2,.inr ⟨_,rfl,rfl⟩⟩;rw[decide_eq_false (by omega:¬ bg n j<0)];simp only[cond_false];rw[qA K n _ h Y];simp only[BG];rw[show wr .i64 ((ir n).2.2.2.2.2.2.1+1)=n.2.2.2.2.2.2.1+1 from O,aE (n:=bg n j+1) (by omega) (by omega)];simp only[Q153.f];rw[szb _ _ _ (by omega) (by have:=cE (km h (bg n j));simp;omega)];rfl
  ·intro rec i M;have hc:=H i M;simp only[Q100.s0,zcp4];rw[decide_eq_true (by omega:(i:Int)<8),z i M,ar i (by omega)];simp only[cond_true];have a1:=sZ K n (bg n i) h.table h.lt Y;rw[show CJ (n.2.2.2.2.2.2.2.1+(i:Int)) 8=bg n i from rfl];by_cases r:bg n i=n.1
   ·exact .inl ⟨λhc=>hc.1 r,by rw[show (bg n i==n.1)=true by simpa using r];rfl⟩
   ·rw[show (bg n i==n.1)=false by simpa using r];simp only[cond_false];rw[a1];simp only[BG];cases hl:cL (aG (aa.table n) (bg n i)) with
    |false=>exact .inl ⟨λhc=>(by rw[hc.2]at hl;cases hl),rfl⟩
    |true =>
     refine .inr ⟨⟨r,hl⟩,?_⟩;simp only[BP,cond_false];rw[vR K n _ h Y];simp only[BG,Q81.f];rw[show wr .i64 ((ir n).2.2.2.2.2.2.1+1)=n.2.2.2.2.2.2.1+1 from O,aE (n:=bg n i+1) (by omega) (by omega)];rfl
  ·intro rec;simp only[Q100.s0,zcp4];rfl
abbrev lK:=Int×ByteArray×Bool
abbrev bX:=List aa×List lK×List Int×List af
abbrev bX.radio (w:bX):List lK:=w.2.1
abbrev bX.sides (w:bX):List Int:=w.2.2.1
abbrev bX.born (w:bX):List af:=w.2.2.2
theorem kE {n:Int}(h:InP n 0 7):ap n=n / 4:=by
 obtain⟨r,u⟩:=h;unfold ap;rw[CF r,aE (by omega) (by omega)]
theorem Aj {α:Type}{k:α->Int}{xs:List α}(h:Asc k xs):∀ i (r:i<xs.length),k (xs[0]'(by omega))+i<=k xs[i]:=by
 rw[gK]at h;intro i;induction i with
 |zero=>intro r;simp
 |succ i y =>
  intro r;have z:=y (by omega);have u:=h (i+1) r (by omega);simp only[Nat.add_sub_cancel]at u;omega
theorem ut {t:List af}{s:Int}(u:ax t)(z:ce t s):t.length<=4:=by
 cases h:t.length with
 |zero=>omega
 |succ m =>
  have r:m<t.length:=by omega
  have y:0<t.length:=by omega
  have O:=Aj u.2 m r;have M:=z _ (BI r);have I:=z _ (BI y);have J:=(u.1 _ (BI r)).1;have H:=(u.1 _ (BI y)).1;rw[kE J]at M;rw[kE H]at I;omega
theorem mX {z:Int}{l:List cS}(u:InP z 0 7)(h:c6 z l):l=[]\/∃ x,l=[x]:=by
 match l,h with
 |[],_=>exact .inl rfl
 |[x],_=>exact .inr ⟨x,rfl⟩
 |x::y::r,h =>
  exfalso;have I:=h.1 x (by simp);have H:=h.1 y (by simp);have X:x.1<y.1:=by
   have:=h.2;unfold Asc at this;rw[B5]at this;exact this.1 y (by simp)
  have e:=kE u;obtain⟨⟨a1,Y⟩,M,_⟩:=I;obtain⟨⟨Z,R⟩,J,_⟩:=H;obtain⟨O,m2⟩:=u;rw[e]at M J;omega
theorem lL {a:Int}{m:Nat}(u:m<4611686018427387904):0<=aP .i64 a (m:Int)/\aP .i64 a (m:Int)<=m:=by
 have h:(BitVec.ofInt 64 a &&& BitVec.ofInt 64 (m:Int)).toNat<=m:=by
  rw[BitVec.toNat_and];refine BZ Nat.and_le_right ?_;rw[BitVec.toNat_ofInt];omega
 show 0<=IntKind.i64.wrap (((BitVec.ofInt 64 a &&& BitVec.ofInt 64 (m:Int)).toNat:Nat):Int)/\IntKind.i64.wrap (((BitVec.ofInt 64 a &&& BitVec.ofInt 64 (m:Int)).toNat:Nat):Int)<=m;generalize (BitVec.ofInt 64 a &&& BitVec.ofInt 64 (m:Int)).toNat=r at h ⊢;rw[DP];omega
def gM (g:List Int)(d:Int):Int:=g.getD (BJ (CJ (aP .i64 d 255) (g.length:Int))) 0
theorem eK {g:List Int}{d:Int}(h:g≠[]):idx g (CJ (aP .i64 d 255) (g.length:Int))=some (gM g d)/\idx g ((BJ (CJ (aP .i64 d 255) (g.length:Int)):Nat):Int)=some (gM g d)/\gM g d∈g:=by
 have I:0<g.length:=CX.2 h;have z:=(lL (a:=d) (m:=255) (by omega)).1;have H:0<=CJ (aP .i64 d 255) (g.length:Int):=DB _ z;have u:CJ (aP .i64 d 255) (g.length:Int)<g.length:=Cx _ (by omega);unfold gM;obtain⟨v,y⟩:=BL H;rw[y]at u ⊢;have r:v<g.length:=by omega
 rw[BK,ag r,List.getD_eq_getElem?_getD,BS r];exact⟨rfl,rfl,BI r⟩
def iX (n:aa)(r d:Int):Int :=
 bif decide (dK (di (aa.others n) r)≠[])&&aP .i64 d 4==0 then gM (dK (di (aa.others n) r)) (B7 d (2 ^ 3)) else r*4+aP .i64 (B7 d (2 ^ 3)) 3
structure hZ (n:aa):Prop where
 short:(aa.others n).length<=1
 table:∀ x∈aa.others n,ax x.2/\x.2.length<=1048576
theorem xv {r d:Int}(z:0<=r)(H:r<=1):wr .i64 (wr .i64 (r*4)+aP .i64 (B7 d (2 ^ 3)) 3)=r*4+aP .i64 (B7 d (2 ^ 3)) 3:=by
 obtain⟨y,u⟩:=lL (a:=B7 d (2 ^ 3)) (m:=3) (by omega);have y:0<=aP .i64 (B7 d (2 ^ 3)) 3:=y;have u:aP .i64 (B7 d (2 ^ 3)) 3<=3:=u;rw[aE (n:=r*4) (by omega) (by omega),aE (by omega) (by omega)]
theorem far_s (K:Nat)(n:aa)(r d:Int)(h:hZ n)(J:0<=r)(R:r<=1)(O:1048577<K):Q205.f K (n,r,d,())=some ((iX n r d,()),()):=by
 obtain⟨k,rfl⟩:∃ k,K=k+2:=⟨K-2,by omega⟩;show Q205.s0 (k+2) (n,r,d,()) (ae (λrec a=>Q205.s0 (k+2) (n,r,d,()) rec a) (k+1)) 0=_;have z:∀ (rec:Int->Option ((Int×Unit)×Unit)) (a:Int),¬ a<(aa.others n).length->Q205.s0 (k+2) (n,r,d,()) rec a=some ((r*4+aP .i64 (B7 d (2 ^ 3)) 3,()),()):=by
  intro rec a X;simp only[Q205.s0];rw[show decide (a<(BH n.2.2.2.2.2.2.2.2.2.2.2.2.2.2:Int))=false from decide_eq_false X,xv J R];rfl
 match y:aa.others n with
 |[] =>
  rw[z _ _ (by rw[y];simp),iX,y];rfl
 |[x] =>
  have M:=h.table x (by rw[y];simp);have u:ae (λrec a=>Q205.s0 (k+2) (n,r,d,()) rec a) (k+1) 1=some ((r*4+aP .i64 (B7 d (2 ^ 3)) 3,()),()):=z _ _ (by rw[y];simp);generalize ae (λrec a=>Q205.s0 (k+2) (n,r,d,()) rec a) (k+1)=rec at u ⊢;simp only[Q205.s0];rw[show decide ((0:Int)<(BH n.2.2.2.2.2.2.2.2.2.2.2.2.2.2:Int))=true from decide_eq_true (by show (0:Int)<((aa.others n).length:Int);rw[y];simp),show idx n.2.2.2.2.2.2.2.2.2.2.2.2.2.2 (0:Int)=some x by show idx (aa.others n) (0:Int)=some x;rw[y];rfl,show wr .i64 ((0:Int)+1)=1 from rfl];simp only[cond_true,BG,u];rw[iX,y];cases I:x.1==r with
  |false =>
   simp only[cond_false,di,C8,I,List.find?_nil];rfl
  |true =>
   simp only[cond_true,di,C8,I,DR,DO];rw[uS (k+2) x.2 M.2 O];simp only[BG];by_cases H:dK x.2=[]
   ·rw[H];rfl
   ·have Y:0<(dK x.2).length:=CX.2 H;rw[decide_eq_true H,decide_eq_true (by omega:((dK x.2).length:Int)>0)];simp only[cond_true,CV];cases aP .i64 d 4==0 with
    |false=>rfl
    |true =>
     simp only[cond_true];rw[decide_eq_false (by omega:¬ ((dK x.2).length:Int)=0),(eK H).1,(eK H).2.1];rfl
 |_::_::_=>exact absurd h.short (by rw[y];simp)
def gN (n:aa):Bool:=decide (n.1∈dK (aa.table n))
theorem yX (K:Nat)(n:aa)(z:(aa.table n).length<=1048576)(O:1048577<K):Q204.f K (n,())=rb (gN n):=by
 simp only[Q204.f,Q204.pre];rw[show Q203.f K (n.2.2.2.2.2.2.2.2.1,2,())=_ from uS K (aa.table n) z O];simp only[BG];have J:=q9 (aa.table n);unfold gN;generalize dK (aa.table n)=g at J ⊢;have:=ch (step:=λrec a=>Q204.s0 K (n,()) rec a) g.length (λi=>(g,(i:Int))) (λj=>∃ h:j<g.length,g[j]=n.1) (rb false) (λ_=>rb true) ?_ ?_ g.length K 0 (by omega) (by omega)
 ·rcases this with ⟨y,u⟩|⟨j,_,y,⟨H,I⟩,_,u⟩
  ·rw[decide_eq_false (λM=>by
    obtain⟨i,r,e⟩:=BO M;exact y i (BX _) r ⟨r,e⟩)]
   exact u
  ·rw[decide_eq_true (I ▸ BI H:n.1∈g)];exact u
 ·intro rec i r;simp only[Q204.s0];rw[bo (by omega:(i:Int)<(BH g:Int)),ag r,ar i (by omega),BK,ag r];simp only[cond_true,BG];by_cases h:g[i]=n.1
  ·exact .inr ⟨⟨r,h⟩,by rw[show (g[i]==n.1)=true by simpa using h];rfl⟩
  ·exact .inl ⟨λ⟨_,R⟩=>h R,by rw[show (g[i]==n.1)=false by simpa using h];rfl⟩
 ·intro rec;simp only[Q204.s0,aR];rfl
theorem yY (K:Nat)(g:List Int)(v:Int)(O:g.length<=1048576)(R:1048577<K):Q106.f K (g,v,())=rb (decide (v∈g)):=by
 have:=ch (step:=λrec a=>Q105.s0 K (g,v,()) rec a) g.length (λi=>(i:Int)) (λj=>∃ h:j<g.length,v=g[j]) (some ((-1,()),())) (λj=>some ((((j:Nat):Int),()),())) ?_ ?_ g.length K 0 (by omega) (by omega)
 ·simp only[Q106.f];rcases this with ⟨y,u⟩|⟨j,_,y,⟨z,H⟩,_,u⟩
  ·have e:Q105.f K (g,v,())=some ((-1,()),()):=u;rw[e,decide_eq_false (λI=>by
    obtain⟨i,r,M⟩:=BO I;exact y i (BX _) r ⟨r,M.symm⟩)]
   rfl
  ·have e:Q105.f K (g,v,())=some ((((j:Nat):Int),()),()):=u;rw[e,decide_eq_true (H ▸ BI z:v∈g)];simp only[BG];rw[decide_eq_true (by omega:((j:Nat):Int)>=0)]
 ·intro rec i r;simp only[Q105.s0];rw[bo (by omega:(i:Int)<(BH g:Int)),ag r,ar i (by omega)];simp only[cond_true,BG];by_cases h:v=g[i]
  ·exact .inr ⟨⟨r,h⟩,by rw[show (v==g[i])=true by simpa using h];rfl⟩
  ·exact .inl ⟨λ⟨_,J⟩=>h J,by rw[show (v==g[i])=false by simpa using h];rfl⟩
 ·intro rec;simp only[Q105.s0,aR];rfl
def wanW (n:aa)(d r:Int):ao:=(2,(nP 6 n (iX n r d)).2)
def gw (n:aa)(d:Int):List ao:=bif gN n then (([0,1]:List Int).filter (λs=>s != ap n.1)).map (wanW n d) else []
theorem wan_s (K:Nat)(n:aa)(d:Int)(h:hZ n)(u:(aa.table n).length<=1048576)(y:1048577<K):Q206.f K (n,d,())=some ((gw n d,()),()):=by
 simp only[Q206.f,Q206.pre];rw[yX K n u y];simp only[BG,gw];cases gN n with
 |false=>rfl
 |true =>
  simp only[BP,cond_false,cond_true];refine lI (step:=λrec a=>Q206.s0 K (n,d,()) rec a) ([0,1]:List Int) (λs=>s != ap n.1) (wanW n d) (λr i=>(r,(i:Int))) (λH=>some ((H,()),())) ?_ ?_ (by simp;omega)
  ·intro rec r i I J;have z:i<2:=I;have M:([0,1]:List Int)[i]=(i:Int):=by
    have:i=0\/i=1:=by omega
    rcases this with rfl|rfl <;> rfl
   simp only[Q206.s0,M];rw[decide_eq_true (by omega:(i:Int)<=1),ar i (by omega),eG K n.1];simp only[cond_true,BG];cases (i:Int) != ap n.1 with
   |false=>rfl
   |true =>
    simp only[cond_true];rw[far_s K n (i:Int) d h (by omega) (by omega) y];simp only[BG];refine (congrArg (λo=>CL o _) (nQ K n 6 (iX n (i:Int) d) u)).trans ?_;simp only[BG];rw[szw _ _ _ (by omega) (by simp;omega)];rfl
  ·intro rec r J;simp only[Q206.s0];rfl
theorem yZ (K:Nat)(n:aa)(d:Int)(R:NB n)(h:hZ n)(hT:ax (aa.table n))(I:1048577<K):Q107.f K (n,d,())=some ((gw n d,()),()):=by
 have M:=R.table;simp only[Q107.f,Q107.pre];rw[show Q103.f K (n.2.2.2.2.2.2.2.2.1,2,())=_ from uT K (aa.table n) M I hT];simp only[BG];rw[yY K (dK (aa.table n)) n.1 (BZ (q9 _) (by decide)) I];simp only[BG,gw];show (bif !(gN n) then _ else _)=_;cases gN n with
 |false=>rfl
 |true =>
  simp only[BP,cond_false,cond_true];rw[wZ K 7];simp only[BG,show wr .i64 (ap 7+1)=2 from rfl];refine lI (step:=λrec a=>Q107.s0 K (n,d,()) rec a) ([0,1]:List Int) (λs=>s != ap n.1) (wanW n d) (λr i=>(r,(2:Int),(i:Int))) (λws=>some ((ws,()),())) ?_ ?_ (by simp;omega)
  ·intro rec r i hi ha;have X:i<2:=hi;have hv:([0,1]:List Int)[i]=(i:Int):=by
    have:i=0\/i=1:=by omega
    rcases this with rfl|rfl <;> rfl
   simp only[Q107.s0,hv];rw[decide_eq_true (by omega:(i:Int)<2),ar i (by omega),qu K n];simp only[cond_true,BG];rw[show ((i:Int) != ap n.1)=!((i:Int)==ap n.1) from rfl];cases (i:Int)==ap n.1 with
   |true=>rfl
   |false =>
    simp only[cond_false,CB,cond_true];rw[z9 K n (i:Int) R I];simp only[BG];have z:ax (di (aa.others n) (i:Int))/\(di (aa.others n) (i:Int)).length<=1048576:=by
     rcases mQ (l:=aa.others n) (s:=(i:Int)) with e|⟨x,Z,_,e⟩
     ·rw[e];exact⟨⟨by simp,List.Pairwise.nil⟩,by simp⟩
     ·rw[e];exact h.table x Z
    rw[uT K _ z.2 I z.1];simp only[BG];rw[xv (by omega) (by omega)];have Y:=λto=>uU K n 6 to M
    have u:∀ to,to=iX n (i:Int) d->((Q101.f K (n,6,to,())).bind λO=>bif decide ((BH r+BH ([(2,O.1.1.2)]))*104<=ak) then (rec (r++([(2,O.1.1.2)]),(2:Int),((i+1:Nat):Int))) else none)=rec (r++[wanW n d (i:Int)],(2:Int),((i+1:Nat):Int)):=by
     intro to J;rw[Y to,J];simp only[BG];rw[szw _ _ _ (by omega) (by simp;omega)];rfl
    by_cases y:dK (di (aa.others n) (i:Int))=[]
    ·rw[y];refine u _ ?_;rw[iX,y];rfl
    ·have hl:0<(dK (di (aa.others n) (i:Int))).length:=CX.2 y;rw[decide_eq_true (by omega:((dK (di (aa.others n) (i:Int))).length:Int)>0)];simp only[cond_true];cases H:aP .i64 d 4==0 with
     |false =>
      refine u _ ?_;rw[iX,H,DE];rfl
     |true =>
      simp only[cond_true];rw[decide_eq_false (by omega:¬ ((dK (di (aa.others n) (i:Int))).length:Int)=0),(eK y).1,(eK y).2.1];simp only[cond_false,BG];refine u _ ?_;rw[iX,H,decide_eq_true y];rfl
  ·intro rec r ha;simp only[Q107.s0];rfl
def mY (n:aa)(f:af):Bool:=f.2.2.1 != 4&&f.1 != n.1
def bY (n:aa):List Int:=((aa.table n).filter (mY n)).map (·.1)
def lM (n:aa)(to:Int):List ao:=match aa.others n with
 |[]=>[]
 |x::_=>[(1,6,n.1,to,0,n.1,aa.coord n,x.2)]
def dD (n:aa)(r:Int):List ao :=
 bif aP .i64 r 3==1 then gw n (B7 r (2 ^ 2)) else
 bif aP .i64 r 3==3||decide (bY n=[]) then [] else
 bif aP .i64 r 3==0 then [nP 4 n (gM (bY n) (B7 r (2 ^ 2)))] else lM n (gM (bY n) (B7 r (2 ^ 2)))
theorem and3 (a:Int):aP .i64 a 3=0\/aP .i64 a 3=1\/aP .i64 a 3=2\/aP .i64 a 3=3:=by
 obtain⟨r,u⟩:=lL (a:=a) (m:=3) (by omega);have r:0<=aP .i64 a 3:=r;have u:aP .i64 a 3<=3:=u;omega
theorem xw {n:aa}(y:ax (aa.table n)){v:Int}(u:v∈bY n):0<=v:=by
 obtain⟨f,r,rfl⟩:=B3.1 u;exact (y.1 f (BN.1 r).1).1.1
theorem Bf (K:Nat)(n:aa)(d:Int)(H:(aa.table n).length<=1048576)(M:1048577<K):Q202.f K (n,d,())=some ((bif decide (bY n=[]) then -1 else gM (bY n) d,()),()):=by
 refine (pF (step:=λrec a=>Q202.s0 K (n,d,()) rec a) (aa.table n) (mY n) (λf=>f.1) (λy=>some ((bif decide (y=[]) then -1 else gM y d,()),())) ?_ ?_ (by omega)).trans rfl
 ·intro rec r i z I;simp only[Q202.s0];rw[show decide ((i:Int)<(BH n.2.2.2.2.2.2.2.2.1:Int))=true from bo (by omega:(i:Int)<(BH (aa.table n):Int)),show idx n.2.2.2.2.2.2.2.2.1 (i:Int)=some (aa.table n)[i] from ag z,ar i (by omega)];simp only[cond_true,BG,mY];rw[szb _ _ _ (by omega) (by simp;omega)];cases (aa.table n)[i].1 != n.1 <;> cases (aa.table n)[i].2.2.1 != 4 <;> rfl
 ·intro rec r _;simp only[Q202.s0];rw[show decide ((BH (aa.table n):Int)<(BH n.2.2.2.2.2.2.2.2.1:Int))=false from aR _];simp only[cond_false];by_cases u:r=[]
  ·subst u;rfl
  ·have J:0<r.length:=CX.2 u;rw[show ((r.length:Int)==0)=false by simp;exact u,decide_eq_false (by omega:¬ (r.length:Int)=0),decide_eq_false u,(eK u).1,(eK u).2.1];rfl
theorem xx (K:Nat)(n:aa)(r:Int)(h:hZ n)(M:ax (aa.table n))(z:(aa.table n).length<=1048576)(I:1048577<K):Q207.f K (n,r,())=some ((dD n r,()),()):=by
 simp only[Q207.f];rw[Bf K n _ z I];simp only[BG];rw[wan_s K n _ h z I];simp only[BG,dD];by_cases u:bY n=[]
 ·rw[decide_eq_true u];simp only[cond_true,DU,show decide ((-1:Int)>=0)=false from rfl,cond_false];rcases and3 r with e|e|e|e <;> rw[e] <;> rfl
 ·have O:=xw M (eK (d:=B7 r (2 ^ 2)) u).2.2;rw[decide_eq_false u];simp only[cond_false,Bool.or_false];rw[decide_eq_true (by omega:gM (bY n) (B7 r (2 ^ 2))>=0)];simp only[cond_true];rw[show Q153.f K (n,4,gM (bY n) (B7 r (2 ^ 2)),0,n.1,n.2.2.2.2.2.2.2.2.1,())=_ from nQ K n 4 _ z];simp only[BG];rcases and3 r with e|e|e|e
  ·rw[e];rfl
  ·rw[e];rfl
  ·rw[e];simp only[show ((2:Int)==0)=false from rfl,show ((2:Int)==1)=false from rfl,show ((2:Int)==2)=true from rfl,show ((2:Int)==3)=false from rfl,cond_false,cond_true];unfold lM
   match y:aa.others n with
   |[] =>
    rw[show decide ((BH n.2.2.2.2.2.2.2.2.2.2.2.2.2.2:Int)>0)=false by show decide (((aa.others n).length:Int)>0)=false;rw[y];rfl];rfl
   |[x] =>
    have J:=h.table x (by rw[y];simp);have H:(aa.others n).length=1:=by rw[y];rfl
    rw[show decide ((BH n.2.2.2.2.2.2.2.2.2.2.2.2.2.2:Int)>0)=true by show decide (((aa.others n).length:Int)>0)=true;rw[H];rfl,show decide ((BH n.2.2.2.2.2.2.2.2.2.2.2.2.2.2:Int)=0)=false by show decide (((aa.others n).length:Int)=0)=false;rw[H];rfl];simp only[cond_true,cond_false];rw[show idx n.2.2.2.2.2.2.2.2.2.2.2.2.2.2 (CJ (aP .i64 (B7 r (2 ^ 10)) 255) (BH n.2.2.2.2.2.2.2.2.2.2.2.2.2.2:Int))=some x by
     show idx (aa.others n) (CJ (aP .i64 (B7 r (2 ^ 10)) 255) ((aa.others n).length:Int))=some x;rw[H,y,show ((1:Nat):Int)=1 from rfl,Int.tmod_one];rfl]
    simp only[BG,Q153.f];rw[szb _ _ _ (by omega) (by have:=J.2;simp;omega)];rfl
   |_::_::_=>exact absurd h.short (by rw[y];simp)
  ·rw[e];rfl
theorem Ak (K:Nat)(n:aa)(r:Int)(M:NB n)(h:hZ n)(R:ax (aa.table n))(J:1048577<K):Q109.f K (n,r,())=some ((dD n r,()),()):=by
 have I:=M.table;simp only[Q109.f,zcp4];rw[yZ K n _ M h R J];simp only[BG,dD];cases aP .i64 r 3==1 with
 |true=>rfl
 |false =>
  simp only[cond_false];rw[show Q77.f K (n.2.2.2.2.2.2.2.2.1,(λO=>(Q108.f K (O.1,n,())).map λy=>y.1.1),())=_ from qy K (aa.table n) _ (mY n) I J (λf _=>by
   simp only[Q108.f,mY];cases f.2.2.1 != 4 <;> cases f.1 != n.1 <;> rfl)]
  simp only[BG];show (bif aP .i64 r 3==3 then some (([],()),()) else (bif ((bY n).length:Int)==0 then _ else _))=_;cases aP .i64 r 3==3 with
  |true=>rfl
  |false =>
   simp only[cond_false,Ct];by_cases u:bY n=[]
   ·rw[decide_eq_true u,show (((bY n).length:Int)==0)=true by rw[u];rfl];rfl
   ·have Z:0<(bY n).length:=CX.2 u;rw[decide_eq_false u,show (((bY n).length:Int)==0)=false by simp;exact u];simp only[cond_false];show (bif decide (((bY n).length:Int)=0) then none else ((idx (bY n) (CJ (aP .i64 (B7 r (2 ^ 2)) 255) ((bY n).length:Int))).bind λ_=>(idx (bY n) ((BJ (CJ (aP .i64 (B7 r (2 ^ 2)) 255) ((bY n).length:Int)):Nat):Int)).bind λY=>_))=_;rw[decide_eq_false (by omega:¬ ((bY n).length:Int)=0),(eK u).1,(eK u).2.1];simp only[cond_false,BG];cases aP .i64 r 3==0 with
    |true =>
     simp only[cond_true];rw[uU K n 4 _ I];rfl
    |false =>
     simp only[cond_false,Q81.f,BG,Q0.f];unfold lM
     match H:aa.others n with
     |[] =>
      rw[show ((BH n.2.2.2.2.2.2.2.2.2.2.2.2.2.2:Int)==0)=true by show (((aa.others n).length:Int)==0)=true;rw[H];rfl];rfl
     |[x] =>
      have X:=h.table x (by rw[H];simp);have z:(aa.others n).length=1:=by rw[H];rfl
      rw[show ((BH n.2.2.2.2.2.2.2.2.2.2.2.2.2.2:Int)==0)=false by show (((aa.others n).length:Int)==0)=false;rw[z];rfl,show decide ((BH n.2.2.2.2.2.2.2.2.2.2.2.2.2.2:Int)=0)=false by show decide (((aa.others n).length:Int)=0)=false;rw[z];rfl];simp only[cond_false];rw[show idx n.2.2.2.2.2.2.2.2.2.2.2.2.2.2 (CJ (aP .i64 (B7 (B7 r (2 ^ 2)) (2 ^ 10)) 255) (BH n.2.2.2.2.2.2.2.2.2.2.2.2.2.2:Int))=some x by
       show idx (aa.others n) (CJ (aP .i64 (B7 (B7 r (2 ^ 2)) (2 ^ 10)) 255) ((aa.others n).length:Int))=some x;rw[z,H,show ((1:Nat):Int)=1 from rfl,Int.tmod_one];rfl]
      simp only[BG];rw[dY (by have:=X.2;omega)];rfl
     |_::_::_=>exact absurd h.short (by rw[H];simp)
def rk (f:af):Int:=f.2.1*16+f.2.2.1*2+(if f.2.2.2=true then 1 else 0)
theorem qC {f g:af}(u:bA f)(r:bA g):bR f g<->rk g<rk f:=by
 obtain⟨_,_,I,y⟩:=u;obtain⟨_,_,z,H⟩:=r;unfold bR rk;by_cases a:f.2.1=g.2.1
 ·rw[if_neg (by simpa using a)];by_cases c:f.2.2.1=g.2.2.1
  ·rw[if_neg (by simpa using c),a,c];cases f.2.2.2 <;> cases g.2.2.2 <;> simp <;> omega
  ·rw[if_pos c];cases f.2.2.2 <;> cases g.2.2.2 <;> simp <;> omega
 ·rw[if_pos a];cases f.2.2.2 <;> cases g.2.2.2 <;> simp <;> omega
theorem oj {t:List af}(H:Asc (λg:af=>g.1) t)(f:af):bS t f=(t,false)\/(bS t f=(bH (λg=>g.1) f t,true)/\∀ g∈t,g.1=f.1->bR f g):=by
 by_cases h:∃ g∈t,g.1=f.1
 ·obtain⟨g,r,e⟩:=h;obtain⟨i,I,rfl⟩:=BO r;rw[kw H I e];by_cases y:bR f t[i]
  ·rw[if_pos y];refine .inr ⟨rfl,λM u J=>?_⟩;rw[gU H u r (by rw[e,J])];exact y
  ·rw[if_neg y];exact .inl rfl
 ·have z:∀ g∈t,g.1≠f.1:=λg r e=>h ⟨g,r,e⟩
  exact .inr ⟨im z,λg r e=>absurd e (z g r)⟩
theorem ol {n:aa}(Y:ax (aa.table n)):iF n<->(∀ d∈aa.doubts n,lH n d)/\Asc (λd:bN=>d.1) (aa.doubts n)/\∀ f∈aa.table n,f.2.2.1=2->∃ d∈aa.doubts n,d.1=f.1:=by
 have I:((aU (aa.table n)).map (λf:af=>f.1)).Pairwise (·<·):=by
  rw[B9];exact Cf _ Y.2
 constructor
 ·rintro⟨h1,h2,h3⟩;refine⟨h1,h2,λf J u=>?_⟩;have r:((aa.doubts n).map (λd:bN=>d.1)).Pairwise (·<·):=by rw[B9];exact h2
  have:=(jh _ _ r I (λx y=>by
   obtain⟨d,r,rfl⟩:=B3.1 y;obtain⟨⟨g,z,e,M,_⟩,_⟩:=h1 d r;exact B3.2 ⟨g,BN.2 ⟨z,by simpa using M⟩,e⟩)).2 (by rw[BU,BU,h3])
  have O:f.1∈(aU (aa.table n)).map (λf:af=>f.1):=B3.2 ⟨f,BN.2 ⟨J,by simpa using u⟩,rfl⟩;rw[<- this]at O;obtain⟨d,r,e⟩:=B3.1 O;exact⟨d,r,e⟩
 ·rintro⟨h1,h2,h3⟩;refine⟨h1,h2,?_⟩;have r:((aa.doubts n).map (λd:bN=>d.1)).Pairwise (·<·):=by rw[B9];exact h2
  have R:=(jh _ _ r I (λx y=>by
   obtain⟨d,r,rfl⟩:=B3.1 y;obtain⟨⟨g,z,e,M,_⟩,_⟩:=h1 d r;exact B3.2 ⟨g,BN.2 ⟨z,by simpa using M⟩,e⟩)).1
  have X:=(jh _ _ I r (λx y=>by
   obtain⟨f,J,rfl⟩:=B3.1 y;obtain⟨H,u⟩:=BN.1 J;obtain⟨d,r,e⟩:=h3 f H (by simpa using u);exact B3.2 ⟨d,r,e⟩)).1
  rw[BU,BU]at R X;omega
def br (n:aa):Int:=n.2.2.2.2.2.1
def fF (n:aa)(b:Int):Prop:=InP b 0 7/\ap b=ap n.1
theorem om {n:aa}(u:Asc (λg:af=>g.1) (aa.table n))(f:af)(b:Int):sayOf n f b=n \/
  (sayOf n f b=iT n (bH (λg=>g.1) f (aa.table n)) (dp (aa.cast n) f) (bif ke n f then aa.doubts n else cN (br n) (aa.doubts n) f b)/\∀ g∈aa.table n,g.1=f.1->bR f g):=by
 rcases oj u f with h|⟨h,r⟩
 ·left;unfold sayOf;rw[h];rfl
 ·right;refine⟨?_,r⟩;unfold sayOf;rw[h];rfl
theorem vS {n:aa}{f:af}{b:Int}(Y:ax (aa.table n))(hD:iF n)(hf:bA f)(hb:fF n b)(hn:0<=br n)(c:List aM) :
  iF (iT n (bH (λg=>g.1) f (aa.table n)) c (bif ke n f then aa.doubts n else cN (br n) (aa.doubts n) f b)):=by
 obtain⟨h1,h2,h3⟩:=(ol Y).1 hD;have a0:ax (bH (λg:af=>g.1) f (aa.table n)):=⟨λg y=>by
  rcases aZ.1 y with rfl|⟨y,_⟩
  ·exact hf
  ·exact Y.1 g y,fj Y.2⟩
 refine (ol (n:=iT n _ c _) a0).2 ?_;have I:∀ d∈aa.doubts n,d.1≠f.1->∀ ds,lH (iT n (bH (λg:af=>g.1) f (aa.table n)) c ds) d:=λd z u ds=>by
  obtain⟨⟨g,y,X,R,O⟩,r⟩:=h1 d z;exact⟨⟨g,aZ.2 (.inr ⟨y,by rw[X];exact u⟩),X,R,O⟩,r⟩
 have J:∀ g∈bH (λg:af=>g.1) f (aa.table n),g.1≠f.1->g.2.2.1=2->∃ d∈aa.doubts n,d.1=g.1:=λg y u h=>by
  rcases aZ.1 y with rfl|⟨y,_⟩
  ·exact absurd rfl u
  ·exact h3 g y h
 cases hs:ke n f with
 |true =>
  obtain⟨g0,M,s1,s2,s3⟩:=of_decide_eq_true hs;refine⟨λd z=>?_,h2,λg y h=>?_⟩
  ·by_cases u:d.1=f.1
   ·obtain⟨⟨g,y,X,R,O⟩,r⟩:=h1 d z;rw[gU Y.2 y M (by rw[X,s1,u])]at R O;exact⟨⟨f,aZ.2 (.inl rfl),u.symm,by rw[<- s3];exact R,by rw[<- s2];exact O⟩,r⟩
   ·exact I d z u _
  ·by_cases u:g.1=f.1
   ·have Z:g=f:=by
     rcases aZ.1 y with h|⟨_,h⟩
     ·exact h
     ·exact absurd u h
    rw[Z]at h ⊢;obtain⟨d,z,e⟩:=h3 g0 M (by rw[s3];exact h);exact⟨d,z,by rw[e,s1]⟩
   ·exact J g y u h
 |false =>
  by_cases H:f.2.2.1=2
  ·have e:cN (br n) (aa.doubts n) f b=bH (λd=>d.1) (mkD (br n) f b) (aa.doubts n):=by unfold cN;rw[if_pos H]
   simp only[cond_false];rw[e];refine⟨λd z=>?_,fj h2,λg y h=>?_⟩
   ·rcases aZ.1 z with rfl|⟨z,u⟩
    ·exact⟨⟨f,aZ.2 (.inl rfl),rfl,H,rfl⟩,⟨hn,CM _⟩,List.cons_ne_nil _ _,λx hx=>by rw[CG.1 hx];exact hb,C5 _ _⟩
    ·exact I d z u _
   ·by_cases u:g.1=f.1
    ·exact⟨mkD (br n) f b,aZ.2 (.inl rfl),u.symm⟩
    ·obtain⟨d,z,e⟩:=J g y u h;exact⟨d,aZ.2 (.inr ⟨z,λe'=>u (e.symm.trans e')⟩),e⟩
  ·have e:cN (br n) (aa.doubts n) f b=(aa.doubts n).filter (λd=>!(d.1==f.1)):=by unfold cN;rw[if_neg H]
   simp only[cond_false];rw[e];refine⟨λd z=>?_,mf h2 _,λg y h=>?_⟩
   ·obtain⟨z,u⟩:=BN.1 z;exact I d z (by simpa using u) _
   ·have u:g.1≠f.1:=λu=>by
     rcases aZ.1 y with h'|⟨_,h'⟩
     ·rw[h']at h;exact H h
     ·exact h' u
    obtain⟨d,z,e⟩:=J g y u h;exact⟨d,BN.2 ⟨z,by rw[e];simpa using u⟩,e⟩
theorem vT {n:aa}{f:af}(Y:ax (aa.table n))(R:cP (aa.cast n))(X:gY (aa.table n) (aa.cast n))(M:bA f)(O:∀ g∈aa.table n,g.1=f.1->bR f g) :
  gY (bH (λg=>g.1) f (aa.table n)) (dp (aa.cast n) f):=by
 have z:∀ x∈aa.cast n,∃ g∈bH (λg:af=>g.1) f (aa.table n),g.1=x.1.1/\¬ bR x.1 g:=λx r=>by
  obtain⟨g,J,e,I⟩:=X x r;by_cases u:g.1=f.1
  ·refine⟨f,aZ.2 (.inl rfl),by rw[<- e,u],λh=>I ?_⟩;have H:=(R.1 x r).1;have y:=Y.1 g J;have:=O g J u;rw[qC M y]at this;rw[qC H M]at h;rw[qC H y];omega
  ·exact⟨g,aZ.2 (.inr ⟨J,u⟩),e,I⟩
 intro x r;unfold dp at r;split at r
 ·exact z x r
 ·rcases aZ.1 r with rfl|⟨r,_⟩
  ·exact⟨f,aZ.2 (.inl rfl),rfl,xu f⟩
  ·exact z x r
structure UpX (n:aa):Prop where
 me:InP n.1 0 7
 now0:0<=br n
 table:ax (aa.table n)
 site:ce (aa.table n) (ap n.1)
 cast:cP (aa.cast n)
 vs:gY (aa.table n) (aa.cast n)
 probe:cU n
 doubts:iF n
 coord:cC (aa.coord n)
 places:eu n.1 (aa.places n)
 others:c6 n.1 (aa.others n)
theorem UpX.of {n:aa}(h:UpP n)(z:InP n.1 0 7)(I:0<=br n):UpX n:=by
 obtain⟨M,O,_,⟨J,R⟩,H,X,y,r,u⟩:=h;exact⟨z,I,M,O,J,R,H,X,y,r,u⟩
theorem UpX.up {n:aa}(h:UpX n)(r:db n):UpP n:=⟨h.table,h.site,r,⟨h.cast,h.vs⟩,h.probe,h.doubts,h.coord,h.places,h.others⟩
theorem UpX.say {n:aa}(h:UpX n):b8 n:=by
 refine b8.mk' h.table h.cast h.doubts.2.1 λd r=>?_
 obtain⟨f,u,e,_⟩:=(h.doubts.1 d r).1;rw[<- e];exact (h.table.1 f u).1
theorem fF.me {n:aa}(h:InP n.1 0 7):fF n n.1:=⟨h,rfl⟩
theorem ri {n m:aa}(h:cU n)(Y:m.1=n.1)(X:aa.probe m=aa.probe n)(I:∀ g∈aa.table n,∃ y∈aa.table m,y.1=g.1)(hn:br n<=br m)(O:n.2.2.2.2.2.2.1<=m.2.2.2.2.2.2.1):cU m:=by
 unfold cU at h ⊢;rw[X,Y];split at h
 ·rename_i r;rw[if_pos r];exact h
 ·rename_i r;rw[if_neg r];obtain⟨z,⟨g,J,H⟩,⟨p2,M⟩,⟨R,p5⟩⟩:=h;obtain⟨y,u,Z⟩:=I g J;exact⟨z,⟨y,u,Z.trans H⟩,⟨p2,Cv M hn⟩,⟨R,Cv p5 O⟩⟩
theorem UpX.said {n:aa}{f:af}{b:Int}(h:UpX n)(u:bA f)(z:ap f.1=ap n.1)(H:fF n b):UpX (sayOf n f b):=by
 rcases om h.table.2 f b with e|⟨e,I⟩
 ·rw[e];exact h
 ·have y:=λg r=>jM (n:=n) (f:=f) (b:=b) (g:=g) r
  rw[e]at y ⊢;refine⟨h.me,h.now0,⟨λg r=>?_,fj h.table.2⟩,λg r=>?_,pL h.cast u,vT h.table h.cast h.vs u I,ri h.probe rfl rfl y (CM _) (CM _),vS h.table h.doubts u H h.now0 _,h.coord,h.places,h.others⟩
  ·rcases aZ.1 r with rfl|⟨r,_⟩
   ·exact u
   ·exact h.table.1 g r
  ·rcases aZ.1 r with rfl|⟨r,_⟩
   ·exact z
   ·exact h.site g r
theorem xy {n:aa}(u:Asc (λg:af=>g.1) (aa.table n)){f g:af}{b:Int}(r:g.1≠f.1):g∈aa.table (sayOf n f b)<->g∈aa.table n:=by
 rcases om u f b with e|⟨e,_⟩
 ·rw[e]
 ·rw[e];exact aZ.trans ⟨λh=>h.elim (λh=>absurd (by rw[h]) r) (·.1),λh=>.inr ⟨h,r⟩⟩
theorem rj {n:aa}(y:Asc (λg:af=>g.1) (aa.table n)){f:af}{b:Int}(h:∀ g∈aa.table n,g.1=f.1->bR f g):f∈aa.table (sayOf n f b):=by
 have H:bS (aa.table n) f=(bH (λg=>g.1) f (aa.table n),true):=by
  rcases oj y f with e|⟨e,_⟩
  ·by_cases u:∃ g∈aa.table n,g.1=f.1
   ·obtain⟨g,r,z⟩:=u;obtain⟨i,I,rfl⟩:=BO r;rw[kw y I z,if_pos (h _ r z)]
   ·exact im λg r e=>u ⟨g,r,e⟩
  ·exact e
 unfold Go.Proofs.YtaegajachoklkaaGreatEv.sayOf;rw[H];exact aZ.2 (.inl rfl)
def OnN (n m:aa):Prop:=∃ t c r,m=iT n t c r
theorem OnN.refl (n:aa):OnN n n:=⟨_,_,_,rfl⟩
theorem OnN.say {n m:aa}(h:OnN n m)(f:af)(b:Int):OnN n (Go.Proofs.YtaegajachoklkaaGreatEv.sayOf m f b):=by
 obtain⟨t,c,y,rfl⟩:=h;obtain⟨u,z,r,e,_⟩:=iI (iT n t c y) f b;exact⟨u,z,r,e⟩
def ml (n:aa):af:=(n.1,n.2.2.2.2.1,(if n.2.2.1=true then 4 else 1),n.2.2.2.1)
theorem pa {n m:aa}(H:Asc (λg:af=>g.1) (aa.table m))(u:OnN n m){f:af}{b:Int}(r:f.1≠n.1)(h:db m):db (sayOf m f b):=by
 obtain⟨t,c,M,e⟩:=u.say f b;obtain⟨O,R,z,I⟩:=u;have J:ml n∈aa.table m:=by rw[I]at h ⊢;exact h
 have y:=(xy H (f:=f) (b:=b) (g:=ml n) (λh=>r h.symm)).2 J;rw[e]at y ⊢;exact y
theorem za {n:aa}(h:UpX n)(y:db n){d:bN}(z:d∈aa.doubts n):d.1≠n.1:=by
 obtain⟨⟨g,u,e,r,_⟩,_⟩:=h.doubts.1 d z;intro H;have I:ml n∈aa.table n:=y;have:=gU h.table.2 u I (by rw[e,H];rfl);rw[this]at r;revert r;show (if n.2.2.1=true then (4:Int) else 1)=2->False;split <;> omega
theorem mZ {n:aa}(h:UpX n)(Z:db n):UpX (cM n)/\db (cM n)/\OnN n (cM n):=by
 have:=kz (st:=dj) (Inv:=λm=>(UpX m/\db m/\OnN n m)/\∀ g∈aa.table n,∃ Y∈aa.table m,Y.1=g.1) (ds:=aa.doubts n) (n:=n) ⟨⟨h,Z,OnN.refl n⟩,λg u=>⟨g,u,rfl⟩⟩ ?_
 ·exact this.1
 ·rintro m d hd ⟨⟨r,y,H⟩,z⟩;have I:=za h Z hd;unfold dj;cases kA m.2.2.2.2.2.1 d.2.2.1 d.2.2.2.length with
  |false=>exact⟨⟨r,y,H⟩,z⟩
  |true =>
   obtain⟨⟨g,u,e,_⟩,_⟩:=h.doubts.1 d hd;obtain⟨Y,X,e'⟩:=z g u;obtain⟨h1,h2,h3⟩:=c7 r.table ⟨Y,X,e'.trans e⟩;have J:ap (jy (aG (aa.table m) d.1)).1=ap m.1:=by
    show ap (aG (aa.table m) d.1).1=ap m.1;exact r.site _ h3
   have R:(jy (aG (aa.table m) d.1)).1≠n.1:=by rw[show (jy (aG (aa.table m) d.1)).1=_ from h2];exact I
   refine⟨⟨r.said (nR h1) J (fF.me r.me),pa r.table.2 H R y,H.say _ _⟩,λg u=>?_⟩;obtain⟨g1,O,e1⟩:=z g u;obtain⟨g2,M,e2⟩:=jM (f:=jy (aG (aa.table m) d.1)) (b:=m.1) O;exact⟨g2,M,e2.trans e1⟩
theorem UpX.setProbe {n:aa}(h:UpX n){p:af}(r:cU (setP n p)):UpX (setP n p):=⟨h.me,h.now0,h.table,h.site,h.cast,h.vs,r,h.doubts,h.coord,h.places,h.others⟩
theorem xz (n:aa):cU (setP n noP):=by
 unfold cU;exact (if_pos rfl).mpr rfl
theorem xA {n:aa}(h:UpX n)(z:db n):UpX (a7 n).1/\db (a7 n).1/\∃ p,OnN (setP n p) (a7 n).1:=by
 have r:UpX n/\db n/\∃ p,OnN (setP n p) n:=⟨h,z,aa.probe n,OnN.refl n⟩;have y:UpX (setP n noP):=h.setProbe (xz n);unfold a7;cases J:(aa.probe n).1==-1 with
 |true=>exact r
 |false =>
  have H:(aa.probe n).1≠-1:=by simpa using J
  have u:=h.probe;unfold cU at u;rw[if_neg H]at u;simp only[cond_false];cases R:cL (aG (aa.table n) (aa.probe n).1) with
  |false=>exact⟨y,z,_,OnN.refl _⟩
  |true =>
   obtain⟨X,M,O⟩:=c7 h.table (fk R);simp only[BP,cond_false];cases decide (n.2.2.2.2.2.1-(aa.probe n).2.1>=4) with
   |true =>
    simp only[cond_true];cases (aG (aa.table n) (aa.probe n).1).2.2.1==1 with
    |true =>
     have I:ap (nS (aG (aa.table n) (aa.probe n).1)).1=ap (setP n noP).1:=by
      show ap (aG (aa.table n) (aa.probe n).1).1=ap n.1;exact h.site _ O
     refine⟨y.said (qz X) I (fF.me (n:=setP n noP) h.me),pa (n:=setP n noP) (m:=setP n noP) h.table.2 (OnN.refl (setP n noP)) ?_ z,noP,(OnN.refl (setP n noP)).say _ _⟩;rw[show (nS (aG (aa.table n) (aa.probe n).1)).1=_ from M];exact u.1
    |false=>exact⟨y,z,_,OnN.refl _⟩
   |false =>
    simp only[cond_false];cases decide (n.2.2.2.2.2.1-(aa.probe n).2.1>=2) with
    |false=>exact r
    |true =>
     simp only[cond_true];cases (aa.probe n).2.2.2 with
     |true=>exact r
     |false =>
      refine⟨h.setProbe ?_,z,_,OnN.refl _⟩;show cU (gu n);unfold cU;rw[if_neg (show ¬ (aa.probe (gu n)).1=-1 from H)];exact u
def hH (n:aa):Option Int:=((List.range 8).map (bg n)).find? λx=>x != n.1&&cL (aG (aa.table n) x)
def jm (n:aa):Int:=n.2.2.2.2.2.2.1
def dN (n:aa):aa×List ao:=bif decide (jm n>=999999) then (n,[]) else match hH n with
 |some to=>(qB n to,[sk n to])
 |none=>(n,[])
theorem rl {n:aa}{to:Int}(h:hH n=some to):to≠n.1/\cL (aG (aa.table n) to)=true:=by
 have:=C9 h;simpa using this
theorem xB {l:List aM}{T:List Int}{x:aM}(h:x∈dx l T l.length):∃ y∈l,x.1=y.1:=by
 unfold dx at h;obtain⟨u,_⟩:=BN.1 h;obtain⟨i,r,rfl⟩:=BO u;rw[eJ]at r;rw[fm l T r];refine⟨l[i],BI r,?_⟩;unfold dM;rw[co r];cases decide ((i:Int)∈T) <;> rfl
theorem UpX.way {n:aa}(h:UpX n):UpX (ir n):=⟨h.me,h.now0,h.table,h.site,th h.cast _,λx I=>by
 obtain⟨y,u,e⟩:=xB I;obtain⟨g,r,z,H⟩:=h.vs y u;exact⟨g,r,by rw[e,z],by rw[e];exact H⟩,h.probe,h.doubts,h.coord,h.places,h.others⟩
structure tj (n:aa):Prop where
 seq:InP (jm n) 0 999999
 turn:InP n.2.2.2.2.2.2.2.1 0 8
theorem Bg {n:aa}(h:UpX n)(u:db n)(z:tj n):UpX (dN n).1/\db (dN n).1/\tj (dN n).1/\(dN n).1.1=n.1/\br (dN n).1=br n/\(dN n).1.2.2.2.2.1=n.2.2.2.2.1:=by
 unfold dN;by_cases H:jm n>=999999
 ·rw[decide_eq_true H];exact⟨h,u,z,rfl,rfl,rfl⟩
 ·rw[decide_eq_false H];simp only[cond_false];cases O:hH n with
  |none=>exact⟨h,u,z,rfl,rfl,rfl⟩
  |some to =>
   obtain⟨y,X⟩:=rl O;obtain⟨R,J,M⟩:=c7 h.table (fk X);obtain⟨⟨Z,Y⟩,_⟩:=z;have r:InP to 0 7:=J ▸ R.1;have I:=h.way;refine⟨⟨h.me,h.now0,h.table,h.site,I.cast,I.vs,?_,h.doubts,h.coord,h.places,h.others⟩,u,⟨⟨show 0<=jm n+1 by omega,show jm n+1<=999999 by omega⟩,show 0<=to+1 by have:=r.1;omega,show to+1<=8 by have:=r.2;omega⟩,rfl,rfl,rfl⟩;show cU (qB n to);unfold cU;rw[if_neg (show ¬ (aa.probe (qB n to)).1=-1 by have:=r.1;show ¬ to=-1;omega)];exact⟨y,⟨_,M,J⟩,⟨h.now0,CM _⟩,show 1<=jm n+1 by omega,CM _⟩
def cj (n:aa):aa:=(n.1,n.2.1,n.2.2.1,n.2.2.2.1,n.2.2.2.2.1,n.2.2.2.2.2.1+1,n.2.2.2.2.2.2)
def dE (m:aa):aa×List ao:=bif (aa.probe m).1==-1 then dN m else (m,[])
def eQ (n:aa):aa×List ao:=a7 (cM (cj n))
def fp (n:aa):aa:=(dE (eQ n).1).1
def iY (n:aa)(r:Int):List ao:=(eQ n).2++(dE (eQ n).1).2++dD (fp n) r
theorem UpX.later {n:aa}(h:UpX n):UpX (cj n):=by
 have M:br (cj n)=br n+1:=rfl;have J:=h.now0;refine⟨h.me,by omega,h.table,h.site,h.cast,h.vs,ri h.probe rfl rfl (λg r=>⟨g,r,rfl⟩) (by omega) (CM _),⟨λd z=>?_,h.doubts.2⟩,h.coord,h.places,h.others⟩;obtain⟨I,⟨u,y⟩,H⟩:=h.doubts.1 d z;exact⟨I,⟨u,Cv y (show br n<=br (cj n) by omega)⟩,H⟩
structure UpN (n:aa):Prop where
 x:UpX n
 self:db n
 now1:br n<=999999
 seq:tj n
 inc:InP n.2.2.2.2.1 0 999
 up:n.2.1=true
theorem UpN.of {n:aa}(h:iR n)(y:n.2.1=true):UpN n:=by
 obtain⟨J,u,z,I,H,r⟩:=h;rw[if_pos y]at r;exact⟨UpX.of r J u.1,r.2.2.1,u.2,⟨z,I⟩,H,y⟩
theorem UpN.ok {n:aa}(h:UpN n):iR n:=⟨h.x.me,⟨h.x.now0,h.now1⟩,h.seq.seq,h.seq.turn,h.inc,by rw[if_pos h.up];exact h.x.up h.self⟩
theorem pO {n:aa}(h:UpN n)(Z:br n<999999):UpN (eQ n).1/\(eQ n).1.1=n.1/\(eQ n).1.2.2.1=n.2.2.1:=by
 have J:db (cj n):=h.self;obtain⟨M,y,R⟩:=mZ h.x.later J;obtain⟨r,O,p,I⟩:=xA M y;obtain⟨t,c,X,H⟩:=R;obtain⟨Y,c',u,z⟩:=I;have e:(eQ n).1=_:=z;rw[H]at e;refine⟨⟨r,O,?_,⟨?_,?_⟩,?_,?_⟩,?_,?_⟩
 ·show br (eQ n).1<=999999;rw[e];show br n+1<=999999;omega
 ·show InP (jm (eQ n).1) 0 999999;rw[e];exact h.seq.seq
 ·show InP (eQ n).1.2.2.2.2.2.2.2.1 0 8;rw[e];exact h.seq.turn
 ·show InP (eQ n).1.2.2.2.2.1 0 999;rw[e];exact h.inc
 ·show (eQ n).1.2.1=true;rw[e];exact h.up
 ·rw[e];rfl
 ·rw[e];rfl
theorem tk {m:aa}:(dN m).1.2.1=m.2.1/\(dN m).1.2.2.1=m.2.2.1:=by
 unfold dN;cases decide (jm m>=999999) with
 |true=>exact⟨rfl,rfl⟩
 |false =>
  cases hH m with
  |none=>exact⟨rfl,rfl⟩
  |some to=>exact⟨rfl,rfl⟩
theorem vU {m:aa}(h:UpN m):UpN (dE m).1/\(dE m).1.1=m.1/\(dE m).1.2.2.1=m.2.2.1:=by
 unfold dE;cases (aa.probe m).1==-1 with
 |false=>exact⟨h,rfl,rfl⟩
 |true =>
  obtain⟨z,y,I,H,u,r⟩:=Bg h.x h.self h.seq;refine⟨⟨z,y,?_,I,?_,?_⟩,H,tk.2⟩
  ·show br (dN m).1<=999999;rw[u];exact h.now1
  ·show InP (dN m).1.2.2.2.2.1 0 999;rw[r];exact h.inc
  ·show (dN m).1.2.1=true;rw[tk.1];exact h.up
theorem lN {n:aa}(h:UpN n)(y:br n<999999):UpN (fp n)/\(fp n).1=n.1/\(fp n).2.2.1=n.2.2.1:=by
 obtain⟨J,r,u⟩:=pO h y;obtain⟨H,z,I⟩:=vU J;exact⟨H,z.trans r,I.trans u⟩
theorem zb {f g:af}(h:g.2.1<f.2.1):bR f g:=by
 unfold bR;rw[if_pos (by omega)];exact h
theorem Al {f g:af}(h:bR f g):g.2.1<=f.2.1:=by
 unfold bR at h;split at h <;> omega
theorem UpX.inc {n:aa}(h:UpX n)(i:Int):UpX (ip n i):=⟨h.me,h.now0,h.table,h.site,h.cast,h.vs,h.probe,h.doubts,h.coord,h.places,h.others⟩
theorem rm {n:aa}(h:UpX n)(u:db n){g:af}(r:g∈aa.table n)(e:g.1=n.1):g=ml n:=gU h.table.2 r u (by rw[e];rfl)
theorem xC {n:aa}(h:UpX n)(r:db n):aG (aa.table n) n.1=ml n:=jK h.table.2 (f:=ml n) r
theorem zc {n:aa}(h:UpN n)(z:n.2.2.1=false):UpN (mS n)/\(mS n).1=n.1:=by
 have H:bA (n.1,n.2.2.2.2.1,4,n.2.2.2.1):=⟨h.x.me,h.inc,show (1:Int)<=4 by omega,show (4:Int)<=4 by omega⟩;have r:=h.x.said H rfl (fF.me h.x.me);have y:(n.1,n.2.2.2.2.1,(4:Int),n.2.2.2.1)∈aa.table (sayOf n (n.1,n.2.2.2.2.1,4,n.2.2.2.1) n.1):=rj h.x.table.2 λg u e=>by
  rw[rm h.x h.self u e];unfold bR ml;rw[z];simp
 obtain⟨t,c,I,e⟩:=(OnN.refl n).say (n.1,n.2.2.2.2.1,4,n.2.2.2.1) n.1;unfold mS;rw[e]at r y ⊢;exact⟨⟨⟨r.me,r.now0,r.table,r.site,r.cast,r.vs,r.probe,r.doubts,r.coord,r.places,r.others⟩,y,h.now1,⟨h.seq.seq,h.seq.turn⟩,h.inc,h.up⟩,rfl⟩
theorem xD {n:aa}{f:af}(h:UpN n)(u:n.2.2.1=false)(M:bA f):UpN (fN n f)/\(fN n f).1=n.1/\(fN n f).2.2.1=false:=by
 unfold fN;cases H:decide (bR f (aG (aa.table n) n.1))&&decide (f.2.1<999) with
 |false=>exact⟨h,rfl,u⟩
 |true =>
  rw[CN,decide_eq_true_eq,decide_eq_true_eq,xC h.x h.self]at H;obtain⟨O,J⟩:=H;have X:n.2.2.2.2.1<=f.2.1:=Al O;have r:=uW (n:=n) h.x.me M J;have z:UpX (sayOf (ip n (f.2.1+1)) (n.1,f.2.1+1,1,n.2.2.2.1) n.1):=(h.x.inc (f.2.1+1)).said r rfl (fF.me (n:=ip n (f.2.1+1)) h.x.me);have I:(n.1,f.2.1+1,(1:Int),n.2.2.2.1)∈aa.table (sayOf (ip n (f.2.1+1)) (n.1,f.2.1+1,1,n.2.2.2.1) n.1):=rj (n:=ip n (f.2.1+1)) h.x.table.2 λg y e=>by
   rw[rm h.x h.self y e];exact zb (show n.2.2.2.2.1<f.2.1+1 by omega)
  obtain⟨t,c,R,e⟩:=(OnN.refl (ip n (f.2.1+1))).say (n.1,f.2.1+1,1,n.2.2.2.1) n.1;simp only[cond_true];rw[show sayOf (ip n (f.2.1+1)) (n.1,f.2.1+1,1,n.2.2.2.1) n.1=iT (ip n (f.2.1+1)) t c R from e]at z I ⊢;refine⟨⟨z,?_,h.now1,⟨h.seq.seq,h.seq.turn⟩,r.2.1,h.up⟩,rfl,u⟩;show (n.1,f.2.1+1,(if n.2.2.1=true then (4:Int) else 1),n.2.2.2.1)∈_;rw[u];exact I
theorem m7 (f:af)(b:Int)(d:bN):(eh f b d).1=d.1/\(eh f b d).2.1=d.2.1/\(eh f b d).2.2.1=d.2.2.1:=by
 unfold eh;cases d.1==f.1&&d.2.1==f.2.1&&f.2.2.1==2 <;> exact⟨rfl,rfl,rfl⟩
theorem UpX.conf {n:aa}(h:UpX n)(f:af){b:Int}(M:fF n b):UpX (kU n f b):=by
 refine⟨h.me,h.now0,h.table,h.site,h.cast,h.vs,h.probe,⟨λd hd=>?_,?_,?_⟩,h.coord,h.places,h.others⟩
 ·obtain⟨r,z,rfl⟩:=B3.1 hd;obtain⟨O,Y,X⟩:=m7 f b r;obtain⟨⟨g,I,e1,Z,H⟩,R,J,u⟩:=h.doubts.1 r z;refine⟨⟨g,I,by rw[O];exact e1,Z,by rw[Y];exact H⟩,by rw[X];exact R,?_⟩;unfold eh;cases r.1==f.1&&r.2.1==f.2.1&&f.2.2.1==2 with
  |false=>exact⟨J,u⟩
  |true =>
   refine⟨List.ne_nil_of_mem (aZ.2 (.inl rfl)),λx y=>?_,fj u.2⟩;rcases aZ.1 y with rfl|⟨y,_⟩
   ·exact M
   ·exact u.1 x y
 ·show Asc _ ((aa.doubts n).map (eh f b));unfold Asc;rw[B9];exact h.doubts.2.1.imp λ {a c} h=>by show (eh f b a).1<(eh f b c).1;rw[(m7 f b a).1,(m7 f b c).1];exact h
 ·show _=((aa.doubts n).map (eh f b)).length;rw[BU];exact h.doubts.2.2
theorem tm {n:aa}{f:af}{b:Int}(h:UpN n)(y:n.2.2.1=false)(H:bA f)(J:ap f.1=ap n.1)(I:fF n b):UpN (el b n f)/\(el b n f).1=n.1/\(el b n f).2.2.1=false:=by
 unfold el;by_cases r:f.1=n.1
 ·rw[show (f.1==n.1)=true by simpa using r];exact xD h y H
 ·rw[show (f.1==n.1)=false by simpa using r];have z:=h.x.said H J I;have u:=pa h.x.table.2 (OnN.refl n) (b:=b) r h.self;obtain⟨t,c,M,e⟩:=(OnN.refl n).say f b;simp only[cond_false];rw[show sayOf n f b=iT n t c M from e]at z u ⊢;exact⟨⟨z.conf f I,u,h.now1,⟨h.seq.seq,h.seq.turn⟩,h.inc,h.up⟩,rfl,y⟩
theorem mm {n:aa}{t:List af}{b:Int}(h:UpN n)(z:n.2.2.1=false)(H:ax t)(J:ce t (ap n.1))(y:fF n b):UpN (jk n t b)/\(jk n t b).1=n.1/\(jk n t b).2.2.1=false:=by
 refine kz (st:=el b) (Inv:=λm=>UpN m/\m.1=n.1/\m.2.2.1=false) (ds:=t) (n:=n) ⟨h,rfl,z⟩ λm f u ⟨M,r,I⟩=>?_
 have:=tm (b:=b) M I (H.1 f u) (by rw[r];exact J f u) ⟨y.1,by rw[r];exact y.2⟩;exact⟨this.1,this.2.1.trans r,this.2.2⟩
theorem UpN.learns {n:aa}(h:UpN n):ew n:=⟨h.x.say,h.x.me,⟨_,h.self,rfl⟩,λd u=>by
 obtain⟨_,_,_,r⟩:=h.x.doubts.1 d u;exact⟨r.2,λx y=>(r.1 x y).1⟩⟩
def setO (n:aa)(o:List cS):aa:=(n.1,n.2.1,n.2.2.1,n.2.2.2.1,n.2.2.2.2.1,n.2.2.2.2.2.1,n.2.2.2.2.2.2.1,n.2.2.2.2.2.2.2.1,n.2.2.2.2.2.2.2.2.1,n.2.2.2.2.2.2.2.2.2.1,n.2.2.2.2.2.2.2.2.2.2.1,n.2.2.2.2.2.2.2.2.2.2.2.1,n.2.2.2.2.2.2.2.2.2.2.2.2.1,n.2.2.2.2.2.2.2.2.2.2.2.2.2.1,o)
theorem UpN.setOthers {n:aa}(h:UpN n){o:List cS}(r:c6 n.1 o):UpN (setO n o):=⟨⟨h.x.me,h.x.now0,h.x.table,h.x.site,h.x.cast,h.x.vs,h.x.probe,h.x.doubts,h.x.coord,h.x.places,r⟩,h.self,h.now1,⟨h.seq.seq,h.seq.turn⟩,h.inc,h.up⟩
theorem vV {H s:Int}{r:List af}{o:List cS}(I:c6 H o)(M:InP s 0 1)(z:s≠ap H)(O:r≠[])(J:ax r)(y:ce r s):c6 H (bH (λx:cS=>x.1) (s,r) o) :=
 ⟨λx u=>by
  rcases aZ.1 u with rfl|⟨u,_⟩
  ·exact⟨M,z,O,J,y⟩
  ·exact I.1 x u,fj I.2⟩
def hM (l:List Int)(t:Int):List Int:=(l++[t]).drop ((l++[t]).length-3)
def dF (l:List dJ)(r:Int):List Int:=((l.find? λp=>p.1==r).map (·.2.2)).getD []
def pb (l:List dJ)(r:Int)(c:dw)(t:Int):List dJ:=bH (λp=>p.1) (r,c,hM (dF l r) t) l
def pP (n:aa)(c:dw)(p:List dJ):aa:=(n.1,n.2.1,n.2.2.1,n.2.2.2.1,n.2.2.2.2.1,n.2.2.2.2.2.1,n.2.2.2.2.2.2.1,n.2.2.2.2.2.2.2.1,n.2.2.2.2.2.2.2.2.1,n.2.2.2.2.2.2.2.2.2.1,noP,n.2.2.2.2.2.2.2.2.2.2.2.1,c,p,n.2.2.2.2.2.2.2.2.2.2.2.2.2.2)
theorem uu {l:List dJ}{r:Int}{t:Int}(h:t∈dF l r):∃ p∈l,t∈p.2.2:=by
 unfold dF at h;cases u:l.find? λp=>p.1==r with
 |none=>rw[u]at h;simp at h
 |some p =>
  rw[u]at h;exact⟨p,Ci u,h⟩
theorem xE {l:List Int}{t:Int}(u:∀ x∈l,InP x 1 60000)(r:InP t 1 60000):InP ((hM l t).length:Int) 1 3/\∀ x∈hM l t,InP x 1 60000:=by
 unfold hM;constructor
 ·simp only[CD,BV,BM,BQ];constructor <;> omega
 ·intro x y;have:=List.mem_of_mem_drop y;rcases CQ.1 this with h|h
  ·exact u x h
  ·rw[CG.1 h];exact r
theorem vW {y r:Int}{l:List dJ}{c:dw}{t:Int}(h:eu y l)(M:InP r 0 7)(R:ap r=ap y)(J:r≠y)(O:cC c)(I:InP t 1 60000):eu y (pb l r c t):=by
 have H:=xE (l:=dF l r) (t:=t) (λx z=>by
  obtain⟨p,u,z⟩:=uu z;exact (h.1 p u).2.2.2.2.2 x z) I
 exact⟨λp u=>by
  rcases aZ.1 u with rfl|⟨u,_⟩
  ·exact⟨M,R,J,O,H.1,H.2⟩
  ·exact h.1 p u,fj h.2⟩
theorem UpN.heard {n:aa}(h:UpN n){c:dw}{p:List dJ}(u:cC c)(r:eu n.1 p):UpN (pP n c p):=⟨⟨h.x.me,h.x.now0,h.x.table,h.x.site,h.x.cast,h.x.vs,xz n,h.x.doubts,u,r,h.x.others⟩,h.self,h.now1,⟨h.seq.seq,h.seq.turn⟩,h.inc,h.up⟩
theorem UpN.way {n:aa}(h:UpN n):UpN (ir n):=⟨h.x.way,h.self,h.now1,⟨h.seq.seq,h.seq.turn⟩,h.inc,h.up⟩
def Tot {α:Type}(o:Option α)(P:α->Prop):Prop:=∃ v,o=some v/\P v
section
variable {α β:Type} {P:α->Prop} {Q:β->Prop}
theorem Tot.ret {v:α}(h:P v):Tot (some v) P:=⟨v,rfl,h⟩
theorem Tot.mono {o:Option α}{r:α->Prop}(h:Tot o P)(k:∀ v,P v->r v):Tot o r:=by obtain⟨v,e,u⟩:=h;exact⟨v,e,k v u⟩
theorem Tot.bind {o:Option α}{g:α->Option β}(h:Tot o P)(k:∀ v,P v->Tot (g v) Q):Tot (o.bind g) Q:=by obtain⟨v,e,r⟩:=h;rw[e];exact k v r
theorem Tot.vl {o:Option α}{v:α}{g:α->Option β}(e:o=some v)(k:Tot (g v) Q):Tot (o.bind g) Q:=by rw[e];exact k
theorem Tot.cnd {b:Bool}{x y:Option α}(u:b=true->Tot x P)(r:b=false->Tot y P):Tot (bif b then x else y) P:=by
 cases b
 ·exact r rfl
 ·exact u rfl
theorem Tot.must {b:Bool}{x y:Option α}(r:b=true)(h:Tot x P):Tot (bif b then x else y) P:=by rw[r];exact h
theorem Tot.not {b:Bool}{x y:Option α}(r:b=false)(h:Tot x P):Tot (bif b then y else x) P:=by rw[r];exact h
theorem Tot.ix {xs:List α}{i:Int}{g:α->Option β}(u:0<=i)(z:i<xs.length)(k:∀ y∈xs,idx xs i=some y->Tot (g y) Q):Tot ((idx xs i).bind g) Q:=by
 obtain⟨n,rfl⟩:=BL u;have r:n<xs.length:=by omega
 have:=ag r;rw[this];exact k _ (BI r) this
theorem Tot.iter {A:Type}{step:(A->Option β)->A->Option β}(Inv:A->Prop)(m:A->Nat)(h:∀ (rec:A->Option β) (a:A),Inv a->(∀ r,Inv r->m r<m a->Tot (rec r) Q)->Tot (step rec a) Q):∀ (k:Nat) (a:A),m a<k->Inv a->Tot (ae step k a) Q:=by
 intro k;induction k with
 |zero=>intro a y;omega
 |succ k I =>
  intro a y z;exact h (ae step k) a z λr u H=>I r (by omega) u
end
theorem Ret.tot {o:Option RB}{P:Prop}(h:Ret o P):Tot o λv=>(v.1.1=true<->P):=by
 obtain⟨b,e,r⟩:=h;exact⟨_,e,r⟩
section
variable {α β:Type} {Q:β->Prop}
theorem Tot.cat {x y:ByteArray}{k:ByteArray->Option β}{a b:Nat}(H:x.size<=a)(r:y.size<=b)(h:∀ z:ByteArray,z.size<=a+b->Tot (k z) Q)(u:a+b<=4611686018427387904:=by omega):Tot (aV x y k) Q:=by
 unfold aV;rw[decide_eq_true (by omega)];exact h _ (by rw[ByteArray.size_append];omega)
theorem Tot.fit {a b c:Nat}{x y:Option β}(h:Tot x Q)(u:c<=1000:=by omega)(r:a+b<=2097152:=by omega):Tot (bif decide ((a+b)*c<=ak) then x else y) Q:=by
 have:=Cl r u;rw[decide_eq_true (by unfold ak;omega)];exact h
theorem Tot.ix2 {xs:List α}{i:Int}{g:α->Option β}(r:0<=i)(z:i<xs.length)(k:∀ y∈xs,idx xs i=some y->Tot (g y) Q):Tot ((idx xs i).bind λ_=>(idx xs ((BJ i:Nat):Int)).bind g) Q :=
 Tot.ix r z λy u e=>by rw[Int.toNat_of_nonneg r,e];exact k y u e
end
theorem fO (s:ByteArray):s.data.toList.length=s.size:=Array.length_toList
theorem iZ (xs:List Int):(gH xs).size=xs.length:=by
 unfold gH;show (List.toArray _).size=_;rw[List.size_toArray,BU]
theorem rq (s:ByteArray):(er s).length=s.size:=by
 unfold er;rw[BU];exact fO s
theorem dec_t:∀ (d k:Nat) (n:Int),0<=n->n<10 ^ (d+1)->n<=1000000000->d<=100->d<k->Tot (Q10.f k (n,())) λr=>r.1.1.size<=d+1:=by
 intro d;induction d with
 |zero =>
  intro k n H y M R I;obtain⟨k,rfl⟩:∃ m,k=m+1:=⟨k-1,by omega⟩;show Tot (Q10.step (Q10.f k) (n,())) _;simp only[Q10.step];refine Tot.not (decide_eq_false (show ¬ n< -9223372036854775807 by omega)) (Tot.not (decide_eq_false (show ¬ n<0 by omega)) (Tot.must (decide_eq_true (show n<10 by exact y)) (Tot.ret ?_)));show (gH _).size<=1;rw[iZ];exact BW _
 |succ d Y =>
  intro k n H y M R I;obtain⟨k,rfl⟩:∃ m,k=m+1:=⟨k-1,by omega⟩;show Tot (Q10.step (Q10.f k) (n,())) _;simp only[Q10.step];refine Tot.not (decide_eq_false (show ¬ n< -9223372036854775807 by omega)) (Tot.not (decide_eq_false (show ¬ n<0 by omega)) (Tot.cnd (λ_=>Tot.ret ?_) λh=>?_))
  ·show (gH _).size<=_;rw[iZ];exact Nat.succ_le_succ (BX _)
  ·have h:¬ n<10:=of_decide_eq_false h;have e:Co n 10=n / 10:=by rw[CF H]
   have u:(10:Int) ^ (d+1+1)=10 ^ (d+1)*10:=Int.pow_succ ..;have J:n / 10<10 ^ (d+1):=Int.ediv_lt_of_lt_mul (by omega) (by rw[<- u];exact y);rw[e,aE (by omega) (by omega)];refine Tot.bind (Y k (n / 10) (by omega) J (by omega) (by omega) (by omega)) λv O=>Tot.cat O (b:=1) (by rw[iZ];exact BW _) (λz X=>Tot.ret X) (by omega)
theorem lk (K:Nat)(n:Int)(u:0<=n)(z:n<=999999)(y:1048577<K):Tot (Q10.f K (n,())) λr=>r.1.1.size<=6 :=
 dec_t 5 K n u (by show n<1000000;omega) (by omega) (by omega) (by omega)
theorem tn (K:Nat)(i:Int)(u:0<=i)(y:i<=4):Tot (Q137.f K (i,())) λr=>r.1.1.size<=7:=by
 have:i=0\/i=1\/i=2\/i=3\/i=4:=by omega
 rcases this with rfl|rfl|rfl|rfl|rfl <;> exact⟨_,rfl,by decide⟩
theorem tp (K:Nat)(i:Int)(u:0<=i)(y:i<=6):Tot (Q134.f K (i,())) λr=>r.1.1.size<=4:=by
 have:i=0\/i=1\/i=2\/i=3\/i=4\/i=5\/i=6:=by omega
 rcases this with rfl|rfl|rfl|rfl|rfl|rfl|rfl <;> exact⟨_,rfl,by decide⟩
theorem zd (K:Nat)(t:List af)(Z:ax t)(hK:1048577<K):Tot (Q140.f K (t,())) λr=>r.1.1.size<=240:=by
 have hl:=iU Z.2 (λg hg=>(Z.1 g hg).1);refine Tot.iter (step:=λrec a=>Q140.s0 K (t,()) rec a) (λa=>0<=a.2/\a.2<=t.length/\(a.1.size:Int)<=30*a.2) (λa=>t.length-a.2.toNat) ?_ K _ (by show t.length-BJ 0<K;omega) ⟨by show (0:Int)<=0;omega,by show (0:Int)<=_;omega,by show (0:Int)<=30*0;omega⟩;rintro rec ⟨s,i⟩ ⟨h0,h1,h2⟩ ih;simp only at h0 h1 h2 ih ⊢;simp only[Q140.s0];refine Tot.cnd (λh=>?_) λh=>?_
 ·have h:=of_decide_eq_true h;obtain⟨n,rfl⟩:=BL h0;have hn:n<t.length:=by omega
  obtain⟨⟨f1,f2⟩,⟨f3,f4⟩,f5,f6⟩:=Z.1 t[n] (BI hn);rw[ag hn,ar n (by omega)];simp only[BG];have go:∀ z:ByteArray,z.size<=s.size+29->Tot (rec (z,((n+1:Nat):Int))) λr=>r.1.1.size<=240:=λz hz=>ih _ ⟨by show (0:Int)<=((n+1:Nat):Int);omega,by show ((n+1:Nat):Int)<=_;omega,by show (z.size:Int)<=30*((n+1:Nat):Int);omega⟩ (by show t.length-BJ ((n+1:Nat):Int)<t.length-BJ (n:Int);omega)
  have body:∀ I:ByteArray,I.size<=s.size+1->Tot ((Q10.f K (t[n].1,())).bind λy3=>aV I y3.1.1 λy4=>aV y4 (ByteArray.mk #[58]) λy5=>(Q10.f K (t[n].2.1,())).bind λy7=>aV y5 y7.1.1 λy8=>aV y8 (ByteArray.mk #[58]) λy9=>(Q137.f K (t[n].2.2.1,())).bind λJ=>aV y9 J.1.1 λu=>bif t[n].2.2.2 then (aV u (ByteArray.mk #[42]) λO=>rec (O,((n+1:Nat):Int))) else (rec (u,((n+1:Nat):Int)))) λr=>r.1.1.size<=240:=λI Y =>
   Tot.bind (lk K _ f1 (by omega) hK) λv1 s1=>Tot.cat Y s1 λz1 X=>Tot.cat X (b:=1) (by decide) λz2 H =>
   Tot.bind (lk K _ f3 (by omega) hK) λv2 s2=>Tot.cat H s2 λz3 y=>Tot.cat y (b:=1) (by decide) λz4 M =>
   Tot.bind (tn K _ (by omega) f6) λv3 s3=>Tot.cat M s3 λz5 R =>
   Tot.cnd (λ_=>Tot.cat R (b:=1) (by decide) λz6 a0=>go z6 (by omega)) λ_=>go z5 (by omega)
  exact Tot.cnd (λ_=>Tot.cat (BW _) (b:=1) (by decide) λz hz=>body z hz) λ_=>body s (by omega)
 ·have h:=of_decide_eq_false h;exact Tot.ret (by show s.size<=240;omega)
theorem oo (K:Nat)(t:List af)(y:t.length<=1048576)(u:1048577<K):Tot (Q141.f K (t,())) λr=>r.1.1.size<=240:=by
 simp only[Q141.f];refine Tot.bind (gq K t y u).tot λv z=>Tot.cnd (λ_=>Tot.ret (by show (0:Nat)<=240;omega)) λh=>?_
 have H:=z.1 (by simpa using h);exact Tot.cnd (λ_=>Tot.ret (by show (1:Nat)<=240;omega)) λ_=>Tot.bind (zd K t H u) λv h=>Tot.ret h
theorem pQ (K:Nat)(n:Int)(H:-999999<=n)(I:n<=999999)(y:1048577<K):Tot (Q144.f K (n,())) λr=>r.1.1.size<=7:=by
 simp only[Q144.f];refine Tot.cnd (λh=>?_) λh=>?_
 ·have h:n<0:=of_decide_eq_true h;rw[aE (by omega) (by omega)];exact Tot.bind (lk K _ (by omega) (by omega) y) λv s=>Tot.cat (a:=1) (by decide) s λz u=>Tot.ret u
 ·have h:¬ n<0:=of_decide_eq_false h;exact Tot.bind (lk K _ (by omega) (by omega) y) λv s=>Tot.cat (a:=1) (by decide) s λz u=>Tot.ret u
theorem ze (K:Nat)(w:ao)(z:iS w)(y:1048577<K):Tot (Q145.f K (w,())) λr=>r.1.1.size<=400:=by
 obtain⟨_,⟨a1,M⟩,⟨O,b2⟩,⟨I,c2⟩,⟨Y,d2⟩,⟨R,e2⟩,⟨⟨x1,x2⟩,⟨Z,y2⟩,⟨J,z2⟩,⟨u1,u2⟩⟩,X,_⟩:=z;have H:=cE X;simp only[Q145.f];have u:(ByteArray.mk #[32]).size<=1:=by decide
 refine Tot.cnd (λ_=>?_) λ_=>?_ <;>
 exact Tot.cat (a:=3) (by decide) u λ_ h=>Tot.bind (tp K _ (by omega) M) λ_ s=>Tot.cat h s λ_ h=>Tot.cat h u λ_ h =>
  Tot.bind (lk K _ O (by omega) y) λ_ s=>Tot.cat h s λ_ h=>Tot.cat h u λ_ h =>
  Tot.bind (lk K _ I (by omega) y) λ_ s=>Tot.cat h s λ_ h=>Tot.cat h u λ_ h =>
  Tot.bind (lk K _ Y (by omega) y) λ_ s=>Tot.cat h s λ_ h=>Tot.cat h u λ_ h =>
  Tot.bind (lk K _ R (by omega) y) λ_ s=>Tot.cat h s λ_ h=>Tot.cat h u λ_ h =>
  Tot.bind (pQ K _ (by show -999999<=(ao.coord w).1;omega) (by show (ao.coord w).1<=999999;omega) y) λ_ s=>Tot.cat h s λ_ h=>Tot.cat h u λ_ h =>
  Tot.bind (pQ K _ (by show -999999<=(ao.coord w).2.1;omega) (by show (ao.coord w).2.1<=999999;omega) y) λ_ s=>Tot.cat h s λ_ h=>Tot.cat h u λ_ h =>
  Tot.bind (lk K _ J (by show (ao.coord w).2.2.1<=999999;omega) y) λ_ s=>Tot.cat h s λ_ h=>Tot.cat h u λ_ h =>
  Tot.bind (lk K _ (by show 0<=(ao.coord w).2.2.2;omega) (by show (ao.coord w).2.2.2<=999999;omega) y) λ_ s=>Tot.cat h s λ_ h=>Tot.cat h u λ_ h =>
  Tot.bind (oo K _ H y) λ_ s=>Tot.cat h s λ_ h=>Tot.ret (BZ h (by decide))
theorem zf (K:Nat)(n:Int)(I:1048577<K):Tot (Q147.f K (n,())) λ_=>True:=by
 refine Tot.iter (step:=λrec a=>Q147.s0 K (n,()) rec a) (λa=>0<=a.2/\a.2<=8) (λa=>8-a.2.toNat) ?_ K _ (by show 8-BJ 0<K;omega) ⟨by show (0:Int)<=0;omega,by show (0:Int)<=8;omega⟩;rintro rec ⟨s,i⟩ ⟨u,H⟩ y;simp only at u H y ⊢;simp only[Q147.s0];obtain⟨i,rfl⟩:=BL u;refine Tot.cnd (λh=>?_) λ_=>Tot.ret trivial
 have h:=of_decide_eq_true h;rw[ar i (by omega)];have r:∀ z:Int,Tot (rec (z,((i+1:Nat):Int))) λ_=>True:=λz=>y _ ⟨by show (0:Int)<=((i+1:Nat):Int);omega,by show ((i+1:Nat):Int)<=8;omega⟩ (by show 8-BJ ((i+1:Nat):Int)<8-BJ (i:Int);omega)
 exact Tot.cnd (λ_=>r _) λ_=>r _
theorem Am (K:Nat)(s:ByteArray)(J:s.size<=1000000)(H:1048577<K):Tot (Q148.f K (s,())) λ_=>True:=by
 refine Tot.iter (step:=λrec a=>Q148.s0 K (s,()) rec a) (λa=>0<=a.2/\a.2<=s.size) (λa=>s.size-a.2.toNat) ?_ K _ (by show s.size-BJ 0<K;omega) ⟨by show (0:Int)<=0;omega,by show (0:Int)<=_;omega⟩;rintro rec ⟨z,i⟩ ⟨r,I⟩ u;simp only at r I u ⊢;simp only[Q148.s0];obtain⟨i,rfl⟩:=BL r;refine Tot.cnd (λh=>?_) λ_=>Tot.ret trivial
 have h:=of_decide_eq_true h;rw[ar i (by omega)];exact Tot.ix r (by rw[fO];exact h) λy _ _=>Tot.bind (zf K _ H) λv _=>u _ ⟨by show (0:Int)<=((i+1:Nat):Int);omega,by show ((i+1:Nat):Int)<=_;omega⟩ (by show s.size-BJ ((i+1:Nat):Int)<s.size-BJ (i:Int);omega)
theorem hex_t (K:Nat)(n:Int)(R:1048577<K):Tot (Q146.f K (n,())) λr=>r.1.1.size<=8:=by
 refine Tot.iter (step:=λrec a=>Q146.s0 K (n,()) rec a) (λa=>-1<=a.2/\a.2<=7/\a.1.length=7-a.2) (λa=>(a.2+1).toNat) ?_ K _ (by show BJ 8<K;omega) ⟨by show (-1:Int)<=7;omega,by show (7:Int)<=7;omega,by show (0:Int)=7-7;omega⟩;rintro rec ⟨z,i⟩ ⟨J,O,H⟩ u;simp only at J O H u ⊢;simp only[Q146.s0];refine Tot.cnd (λh=>?_) λh=>?_
 ·have h:=of_decide_eq_true h;rw[aE (n:=4*i) (by omega) (by omega),aE (n:=i-1) (by omega) (by omega)];obtain⟨M,I⟩:=lL (a:=B7 n (2 ^ min (BJ (4*i)) 64)) (m:=15) (by omega);refine Tot.not (decide_eq_false (by omega)) (Tot.ix M (Int.lt_of_le_of_lt I (by decide)) λy _ _=>Tot.fit ?_ (by omega) (by simp only[BM,BQ];omega));exact u _ ⟨by show -1<=i-1;omega,by show i-1<=7;omega,by show ((z++[_]).length:Int)=7-(i-1);rw[BV,Cc];omega⟩ (by show BJ (i-1+1)<BJ (i+1);omega)
 ·have h:=of_decide_eq_false h;refine Tot.ret ?_;show (gH z).size<=8;rw[iZ];omega
theorem ot (K:Nat)(w:ao)(J:(ao.table w).length<=1048576)(u:1048577<K):Tot (Q149.f K (w,())) λr=>r.1.1.size<=409/\(¬ iS w->r.1.1=ByteArray.mk #[]):=by
 simp only[Q149.f];refine Tot.bind (sP K w J u).tot λv M=>Tot.cnd (λ_=>Tot.ret ⟨by show (0:Nat)<=409;omega,λ_=>rfl⟩) λh=>?_
 have H:=M.1 (by simpa using h);exact Tot.bind (ze K w H u) λb O=>Tot.cat O (b:=1) (by decide) λz y=>Tot.bind (Am K _ (by omega) u) λs _=>Tot.bind (hex_t K _ u) λx I=>Tot.cat y I λz y=>Tot.ret ⟨y,λh=>absurd H h⟩
theorem vX (K:Nat)(s:ByteArray)(c:Int)(hs:s.size<=100000)(hK:1048577<K):Tot (Q133.f K (s,c,())) λr=>r.1.1.length<=s.size+1/\∀ p∈r.1.1,p.size<=s.size:=by
 have H:∀ i j:Nat,(s.extract i j).size<=s.size:=λi j=>by rw[Cp];omega
 refine Tot.iter (step:=λrec a=>Q133.s0 K (s,c,()) rec a) (λa=>0<=a.2.1/\a.2.1<=a.2.2/\a.2.2<=s.size/\a.1.length<=a.2.2/\∀ p∈a.1,p.size<=s.size) (λa=>s.size-a.2.2.toNat) ?_ K _ (by show s.size-BJ 0<K;omega) ⟨by show (0:Int)<=0;omega,by show (0:Int)<=0;omega,by show (0:Int)<=_;omega,by show (0:Int)<=0;omega,λp O=>by cases O⟩;rintro rec ⟨u,from_,i⟩ ⟨z,J,X,Y,M⟩ R;simp only at z J X Y M R ⊢;simp only[Q133.s0];obtain⟨i,rfl⟩:=BL (Cv z J);have I:∀ x:ByteArray,x.size<=s.size->∀ p∈u++[x],p.size<=s.size:=λx Z p O=>by
  rcases CQ.1 O with h|h
  ·exact M p h
  ·rw[CG.1 h];exact Z
 refine Tot.cnd (λh=>?_) λh=>?_
 ·have h:=of_decide_eq_true h;rw[ar i (by omega)];refine Tot.ix (Cv z J) (by rw[fO];exact h) λy _ _=>Tot.cnd (λ_=>Tot.must (by rw[decide_eq_true z,decide_eq_true J,decide_eq_true X];rfl) (Tot.fit (R _ ⟨?_,?_,?_,?_,I _ (H _ _)⟩ ?_) (by omega) (by simp only[BM,BQ];omega))) λ_=>R _ ⟨z,?_,?_,?_,M⟩ ?_
  ·show (0:Int)<=((i+1:Nat):Int);omega
  ·show ((i+1:Nat):Int)<=((i+1:Nat):Int);omega
  ·show ((i+1:Nat):Int)<=s.size;omega
  ·show ((u++[_]).length:Int)<=((i+1:Nat):Int);rw[BV,Cc];omega
  ·show s.size-BJ ((i+1:Nat):Int)<s.size-BJ (i:Int);omega
  ·show from_<=((i+1:Nat):Int);omega
  ·show ((i+1:Nat):Int)<=s.size;omega
  ·show (u.length:Int)<=((i+1:Nat):Int);omega
  ·show s.size-BJ ((i+1:Nat):Int)<s.size-BJ (i:Int);omega
 ·refine Tot.must (by rw[decide_eq_true z,decide_eq_true (by omega),decide_eq_true (CM _)];rfl) (Tot.fit (Tot.ret ⟨?_,I _ (H _ _)⟩) (by omega) (by simp only[BM,BQ];omega));show (u++[_]).length<=_;rw[BV,Cc];omega
theorem kf (K:Nat)(s:ByteArray)(R:s.size<=100000)(Y:1048577<K):Tot (Q135.f K (s,())) λ_=>True:=by
 simp only[Q135.f,Q135.pre];have r:((s.size:Int)<=6)->Tot (Q135.l0 K (s,()) (0,0)) λ_=>True:=λX=>by
  refine Tot.iter (step:=λrec a=>Q135.s0 K (s,()) rec a) (λa=>0<=a.2/\a.2<=s.size) (λa=>s.size-a.2.toNat) ?_ K _ (by show s.size-BJ 0<K;omega) ⟨by show (0:Int)<=0;omega,by show (0:Int)<=_;omega⟩;rintro rec ⟨z,i⟩ ⟨u,M⟩ J;simp only at u M J ⊢;simp only[Q135.s0];obtain⟨i,rfl⟩:=BL u;refine Tot.cnd (λh=>?_) λ_=>Tot.ret trivial
  have h:=of_decide_eq_true h;have I:((i:Nat):Int)<s.data.toList.length:=by rw[fO];exact h
  rw[ar i (by omega)];exact Tot.ix u I λy _ _=>Tot.cnd (λ_=>Tot.ret trivial) λ_=>Tot.ix u I λy _ _=>Tot.cnd (λ_=>Tot.ret trivial) λ_=>Tot.ix u I λy _ _=>J _ ⟨by show (0:Int)<=((i+1:Nat):Int);omega,by show ((i+1:Nat):Int)<=_;omega⟩ (by show s.size-BJ ((i+1:Nat):Int)<s.size-BJ (i:Int);omega)
 refine Tot.bind (cB K _ _ _).tot λv O=>Tot.cnd (λ_=>Tot.ret trivial) λh=>?_
 have H:=O.1 (by simpa using h);exact Tot.cnd (λh=>Tot.ix (by omega) (by rw[fO];have:=of_decide_eq_true h;omega) λy _ _=>Tot.cnd (λ_=>Tot.ret trivial) λ_=>r H.2) λ_=>r H.2
theorem u5 (K:Nat)(s:ByteArray)(J:s.size<=100000)(I:1048577<K):Tot (Q136.f K (s,())) λ_=>True:=by
 simp only[Q136.f];refine Tot.cnd (λ_=>Tot.ret trivial) λh=>?_
 have h:=of_decide_eq_false h;have u:(0:Int)<s.data.toList.length:=by rw[fO];omega
 have r:Tot (bif decide ((0:Int)<=1)&&decide ((1:Int)<=(s.size:Int))&&decide ((s.size:Int)<=(s.size:Int)) then ((Q135.f K (s.extract (BJ 1) (BJ (s.size:Int)),())).bind λz=>bif decide (z.1.1<0) then (some (((-1),false,()),())) else (bif s.toList==(ByteArray.mk #[45,48]).toList then (some (((-1),false,()),())) else ((idx s.data.toList 0).bind λH=>bif (H.toNat:Int)==45 then (some ((wr .i64 (0-z.1.1),true,()),())) else (some ((z.1.1,true,()),()))))) else none) λ (_:(Int×Bool×Unit)×Unit)=>True :=
  Tot.must (by rw[decide_eq_true (by omega:(0:Int)<=1),decide_eq_true (by omega:(1:Int)<=s.size),decide_eq_true (CM _)];rfl) (Tot.bind (kf K _ (by rw[Cp];omega) I) λv _=>Tot.cnd (λ_=>Tot.ret trivial) λ_=>Tot.cnd (λ_=>Tot.ret trivial) λ_=>Tot.ix (by omega) u λy _ _=>Tot.cnd (λ_=>Tot.ret trivial) λ_=>Tot.ret trivial)
 exact Tot.ix (by omega) u λy _ _=>Tot.cnd (λ_=>Tot.ix (by omega) u λy _ _=>Tot.cnd (λ_=>Tot.ret trivial) λ_=>r) λ_=>r
theorem An (K:Nat)(s:ByteArray)(hs:s.size<=100000)(X:1048577<K):Tot (Q138.f K (s,())) λ_=>True:=by
 simp only[Q138.f,Q138.pre];have H:∀ (I:List ByteArray) (n1 n2:Int) (b:Bool),I.length=3->Tot (Q138.l0 K (s,()) (I,1,n1,n2,0,b)) λ_=>True:=λI n1 n2 b hx=>by
  refine Tot.iter (step:=λrec a=>Q138.s0 K (s,()) rec a) (λa=>a.1.length=3/\1<=a.2.1/\a.2.1<=5) (λa=>5-a.2.1.toNat) ?_ K _ (by show 5-BJ 1<K;omega) ⟨hx,by show (1:Int)<=1;omega,by show (1:Int)<=5;omega⟩;rintro rec ⟨ys,i,m1,m2,m3,m4⟩ ⟨Z,h1,h2⟩ ih;simp only at Z h1 h2 ih ⊢;simp only[Q138.s0];refine Tot.cnd (λh=>?_) λ_=>Tot.bind (oV K _).tot λ_ _=>Tot.ret trivial
  have h:=of_decide_eq_true h;rw[aE (n:=i+1) (by omega) (by omega)];have go:∀ m:Int,Tot (rec (ys,i+1,m1,m2,m,m4)) λ_=>True:=λm=>ih _ ⟨Z,by show 1<=i+1;omega,by show i+1<=5;omega⟩ (by show 5-BJ (i+1)<5-BJ i;omega)
  exact Tot.bind (tn K i (by omega) h) λv _=>Tot.ix2 (by omega) (by omega) λy _ _=>Tot.cnd (λ_=>go _) λ_=>go _
 have u:∀ (z:ByteArray) (b:Bool),z.size<=s.size->Tot ((Q133.f K (z,58,())).bind λr=>bif (BH r.1.1:Int) != 3 then (some (((0,(0,(0,b))),false,()),())) else ((idx r.1.1 0).bind λ_=>(idx r.1.1 (BJ 0:Nat)).bind λM=>(Q135.f K (M,())).bind λY=>(idx r.1.1 1).bind λ_=>(idx r.1.1 (BJ 1:Nat)).bind λO=>(Q135.f K (O,())).bind λJ=>Q138.l0 K (s,()) (r.1.1,1,Y.1.1,J.1.1,0,b))) λ_=>True:=λz b hz =>
  Tot.bind (vX K z 58 (by omega) X) λv ⟨_,hp⟩=>Tot.cnd (λ_=>Tot.ret trivial) λh=>by
   have h3:(v.1.1.length:Int)=3:=by simpa using h
   exact Tot.ix2 (by omega) (by omega) λy R _=>Tot.bind (kf K y (by have:=hp y R;omega) X) λ_ _=>Tot.ix2 (by omega) (by omega) λy R _=>Tot.bind (kf K y (by have:=hp y R;omega) X) λ_ _=>H _ _ _ _ (by omega)
 refine Tot.cnd (λh=>?_) λ_=>u s false (BW _)
 have h:=of_decide_eq_true h;rw[aE (n:=(s.size:Int)-1) (by omega) (by omega)];exact Tot.ix (by omega) (by rw[fO];omega) λy _ _=>Tot.cnd (λ_=>Tot.must (by simp only[CN,decide_eq_true_eq];omega) (u _ true (by rw[Cp];omega))) λ_=>u s false (BW _)
theorem Ao (K:Nat)(s:ByteArray)(M:s.size<=100000)(I:1048577<K):Tot (Q139.f K (s,())) λr=>r.1.1.length<=100001:=by
 simp only[Q139.f,Q139.pre];refine Tot.cnd (λ_=>Tot.ret (by show (0:Nat)<=_;omega)) λ_=>Tot.bind (vX K s 44 M I) ?_
 rintro⟨⟨xs,⟨⟩⟩,⟨⟩⟩ ⟨hl,hp⟩;dsimp only at hl hp ⊢;refine Tot.iter (step:=λrec a=>Q139.s0 K (s,()) rec a) (λa=>a.2.1=xs/\0<=a.2.2/\a.2.2<=xs.length/\(a.1.length:Int)<=a.2.2) (λa=>xs.length-a.2.2.toNat) ?_ K _ (by show xs.length-BJ 0<K;omega) ⟨rfl,by show (0:Int)<=0;omega,by show (0:Int)<=_;omega,by show (0:Int)<=0;omega⟩;rintro rec ⟨u,H,i⟩ ⟨rfl,z,X,O⟩ J;simp only at z X O hl hp J ⊢;simp only[Q139.s0];obtain⟨i,rfl⟩:=BL z;refine Tot.cnd (λh=>?_) λ_=>Tot.ret (by show u.length<=_;omega)
 have h:=of_decide_eq_true h;rw[ar i (by omega)];exact Tot.ix2 z h λy R _=>Tot.bind (An K y (by have:=hp y R;omega) I) λv _=>Tot.cnd (λ_=>Tot.ret (by show (0:Nat)<=_;omega)) λ_=>Tot.fit (J _ ⟨rfl,by show (0:Int)<=((i+1:Nat):Int);omega,by show ((i+1:Nat):Int)<=_;omega,by show ((u++[_]).length:Int)<=((i+1:Nat):Int);rw[BV,Cc];omega⟩ (by show H.length-BJ ((i+1:Nat):Int)<H.length-BJ (i:Int);omega)) (by omega) (by simp only[BM,BQ];omega)
theorem Ap (K:Nat)(s:ByteArray)(y:s.size<=100000)(u:1048577<K):Tot (Q142.f K (s,())) λr=>r.1.1.length<=100001:=by
 simp only[Q142.f];exact Tot.bind (Ao K s y u) λv z=>Tot.cnd (λ_=>Tot.ret (by show (0:Nat)<=_;omega)) λ_=>Tot.bind (oo K _ (by omega) u) λx _=>Tot.cnd (λ_=>Tot.ret (by show (0:Nat)<=_;omega)) λ_=>Tot.ret z
theorem pR (K:Nat)(s:ByteArray)(R:s.size<=100000)(H:1048577<K):Tot (Q150.f K (s,())) λr=>r.1.2.1=true->iS r.1.1:=by
 simp only[Q150.f,Q150.pre];refine Tot.bind (vX K s 32 R H) ?_;rintro⟨⟨xs,⟨⟩⟩,⟨⟩⟩ ⟨hl,hp⟩;dsimp only at hl hp ⊢;refine Tot.cnd (λ_=>Tot.ret λh=>by cases h) λ_=>Tot.cnd (λ_=>Tot.ret λh=>by cases h) λh=>?_
 have M:(xs.length:Int)=12:=by simpa using h
 have u:∀ y∈xs,y.size<=100000:=λy z=>BZ (hp y z) R
 have I:∀ p:Int,Tot (Q150.l0 K (s,()) (xs,1,p,0)) λr=>r.1.2.1=true->iS r.1.1:=λp=>by
  refine Tot.iter (step:=λrec a=>Q150.s0 K (s,()) rec a) (λa=>a.1=xs/\1<=a.2.1/\a.2.1<=7) (λa=>7-a.2.1.toNat) ?_ K _ (by show 7-BJ 1<K;omega) ⟨rfl,by show (1:Int)<=1;omega,by show (1:Int)<=7;omega⟩;rintro rec ⟨ys,i,p,k⟩ ⟨rfl,Y,h2⟩ Z;simp only at Y h2 hl M u Z ⊢;simp only[Q150.s0];refine Tot.cnd (λh=>?_) λ_=>?_
  ·have h:=of_decide_eq_true h;rw[aE (n:=i+1) (by omega) (by omega)];have O:∀ m:Int,Tot (rec (ys,i+1,p,m)) λr=>r.1.2.1=true->iS r.1.1:=λm=>Z _ ⟨rfl,by show 1<=i+1;omega,by show i+1<=7;omega⟩ (by show 7-BJ (i+1)<7-BJ i;omega)
   exact Tot.bind (tp K i (by omega) h) λv _=>Tot.ix2 (by omega) (by omega) λy _ _=>Tot.cnd (λ_=>O _) λ_=>O _
  ·refine Tot.ix2 (by omega) (by omega) λy z _=>Tot.bind (kf K y (u y z) H) λ_ _=>Tot.ix2 (by omega) (by omega) λy z _=>Tot.bind (kf K y (u y z) H) λ_ _=>Tot.ix2 (by omega) (by omega) λy z _=>Tot.bind (kf K y (u y z) H) λ_ _=>Tot.ix2 (by omega) (by omega) λy z _=>Tot.bind (kf K y (u y z) H) λ_ _ =>
    Tot.ix2 (by omega) (by omega) λy z _=>Tot.bind (u5 K y (u y z) H) λ_ _=>Tot.ix2 (by omega) (by omega) λy z _=>Tot.bind (u5 K y (u y z) H) λ_ _=>Tot.ix2 (by omega) (by omega) λy z _=>Tot.bind (Ap K y (u y z) H) λt ht=>Tot.ix2 (by omega) (by omega) λy z _=>Tot.bind (kf K y (u y z) H) λ_ _=>Tot.ix2 (by omega) (by omega) λy z _=>Tot.bind (kf K y (u y z) H) λ_ _ =>
    Tot.cnd (λ_=>Tot.ret λh=>by cases h) λ_=>Tot.cnd (λ_=>Tot.ret λh=>by cases h) λ_=>Tot.cnd (λ_=>Tot.ret λh=>by cases h) λ_=>Tot.bind (ot K _ (by show t.1.1.length<=1048576;omega) H) λx ⟨_,hx⟩=>Tot.cnd (λ_=>Tot.ret λh=>by cases h) λJ=>Tot.ret λ_=>?_
   refine Classical.byContradiction λhn=>?_
   rw[hx hn]at J;have X:(ByteArray.mk #[]).toList=s.toList:=by
    have:((ByteArray.mk #[]).toList != s.toList)=false:=J;simpa using this
   rw[DG,DG]at X;have h0:=congrArg BH X;rw[fO,fO]at h0;have Y:(ByteArray.mk #[]).size=0:=rfl;omega
 exact Tot.ix2 (by omega) (by omega) λy _ _=>Tot.cnd (λ_=>I 2) λ_=>I 1
def Rt (v r:Nat):Prop:=r*r<=v/\v<(r+1)*(r+1)
theorem Bh (K:Nat)(v:Nat)(hv:v<1500000001*1500000001)(hK:1048577<K):∃ r,Rt v r/\Q173.f K ((v:Int),())=some (((r:Int),()),()):=by
 have I:∀ (e k l h:Nat),h-l<2 ^ e->e<k->l<=h->h<=1500000000->l*l<=v->v<(h+1)*(h+1)->∃ r,Rt v r/\ae (λrec a=>Q173.s0 K ((v:Int),()) rec a) k ((l:Int),(h:Int))=some (((r:Int),()),()):=by
  intro e;induction e with
  |zero =>
   intro k l h R Z H O y u;obtain⟨k,rfl⟩:∃ z,k=z+1:=⟨k-1,by omega⟩;have:l=h:=by omega
   subst this;refine⟨l,⟨y,u⟩,?_⟩;show Q173.s0 K _ _ _=_;simp only[Q173.s0];rw[decide_eq_false (by omega)];rfl
  |succ e Y =>
   intro k l h R Z H O y u;obtain⟨k,rfl⟩:∃ z,k=z+1:=⟨k-1,by omega⟩;show ∃ r,Rt v r/\Q173.s0 K _ _ _=_;simp only[Q173.s0];by_cases hl:l<h
   ·rw[decide_eq_true (show (l:Int)<(h:Int) by omega)];have e1:wr .i64 ((l:Int)+(h:Int))=(l:Int)+h:=aE (by omega) (by omega);have e2:wr .i64 ((l:Int)+(h:Int)+1)=((l+h+1:Nat):Int):=(aE (by omega) (by omega)).trans (by omega);have e3:Co ((l+h+1:Nat):Int) 2=(((l+h+1) / 2:Nat):Int):=by
     rw[CF (by omega)];omega
    rw[e1,e2,e3];have hm:l<(l+h+1) / 2/\(l+h+1) / 2<=h:=by omega
    have J:h-(l+h+1) / 2<2 ^ e/\(l+h+1) / 2-1-l<2 ^ e:=by
     rw[Nat.pow_succ]at R;omega
    generalize (l+h+1) / 2=m at *;have e4:wr .i64 (m:Int)=m:=aE (by omega) (by omega);have e5:Co (v:Int) (m:Int)=((v / m:Nat):Int):=by
     rw[CF (by omega)];rfl
    have a0:v / m<=v:=Nat.div_le_self _ _;have M:m<=v / m<->m*m<=v:=Nat.le_div_iff_mul_le (by omega);generalize v / m=q at *;have e6:wr .i64 (q:Int)=(q:Int):=aE (by omega) (by omega);rw[e4,e5,e6,decide_eq_false (show ¬ (m:Int)=0 by omega)];simp only[cond_true,cond_false];by_cases X:m<=q
    ·rw[decide_eq_true (by omega)];exact Y k m h J.1 (by omega) (by omega) O (M.1 X) u
    ·rw[decide_eq_false (by omega)];have a1:¬ m*m<=v:=λh4=>X (M.2 h4)
     have e7:wr .i64 ((m:Int)-1)=((m-1:Nat):Int):=eX m (by omega) (by omega);rw[e7];exact Y k l (m-1) J.2 (by omega) (by omega) (by omega) y (by rw[show m-1+1=m by omega];omega)
   ·have:l=h:=by omega
    subst this;refine⟨l,⟨y,u⟩,?_⟩;rw[decide_eq_false (by omega)];rfl
 exact I 31 K 0 1500000000 (by decide) (by omega) (by omega) (by omega) (by omega) hv
def i8 (x:Int):Int:=if x< -1000000000 then -1000000000 else if x>1000000000 then 1000000000 else x
theorem qD (K:Nat)(x:Int):Q172.f K (x,())=some ((i8 x,()),()):=by
 simp only[Q172.f,Q169.f,i8];by_cases h:x< -1000000000
 ·rw[decide_eq_true h,if_pos h];rfl
 ·rw[decide_eq_false h,if_neg h];by_cases r:x>1000000000
  ·rw[decide_eq_true r,if_pos r];rfl
  ·rw[decide_eq_false r,if_neg r];rfl
theorem tq (x:Int):-1000000000<=i8 x/\i8 x<=1000000000:=by
 unfold i8;split
 ·omega
 ·split <;> omega
theorem zM {a:Int}(h:-1000000000<=a/\a<=1000000000):0<=a*a/\a*a<=1000000000000000000:=by
 have e:∃ b:Nat,b<=1000000000/\a*a=((b*b:Nat):Int):=by
  refine⟨a.natAbs,by omega,?_⟩;exact (Int.natAbs_mul_self).symm
 obtain⟨b,r,u⟩:=e;have:=Cl r r;omega
theorem xF (K:Nat)(x y:Int)(J:1048577<K):Tot (Q174.f K (x,y,())) λ_=>True:=by
 simp only[Q174.f];rw[qD K x,qD K y];simp only[BG];have O:=zM (tq x);have M:=zM (tq y);generalize i8 x*i8 x=a at *;generalize i8 y*i8 y=b at *;have z:wr .i64 a=a:=aE (by omega) (by omega);have I:wr .i64 b=b:=aE (by omega) (by omega);have H:wr .i64 (a+b)=(((a+b).toNat:Nat):Int):=(aE (by omega) (by omega)).trans (by omega);rw[z,I,H];obtain⟨r,_,u⟩:=Bh K (a+b).toNat (by omega) J;rw[u];simp only[BG];rw[qD K r];exact⟨_,rfl,trivial⟩
theorem Bi (K:Nat)(c d:dw)(r:1048577<K):Tot (Q175.f K (c,d,())) λ_=>True:=by
 simp only[Q175.f];exact Tot.bind (iE K c).tot λ_ _=>Tot.cnd (λ_=>Tot.ret trivial) λ_=>Tot.bind (iE K d).tot λ_ _=>Tot.cnd (λ_=>Tot.ret trivial) λ_=>Tot.bind (xF K _ _ r) λ_ _=>Tot.ret trivial
theorem kV (K:Nat)(n u y:Int)(h:u<=y):Tot (Q169.f K (n,u,y,())) λr=>InP r.1.1 u y:=by
 simp only[Q169.f];exact Tot.cnd (λ_=>Tot.ret ⟨CM _,h⟩) λH=>Tot.cnd (λ_=>Tot.ret ⟨h,CM _⟩) λz=>Tot.ret ⟨Int.not_lt.1 (of_decide_eq_false H),Int.not_lt.1 (of_decide_eq_false z)⟩
theorem Bj (K:Nat)(c b:dw)(t s:Int)(H:cC c)(X:1048577<K):Tot (Q180.f K (c,b,t,s,())) λr=>cC r.1.1:=by
 simp only[Q180.f];refine Tot.bind (iE K c).tot λv O=>Tot.cnd (λh=>?_) λ_=>Tot.bind (iE K b).tot λv O=>Tot.cnd (λ_=>Tot.ret H) λy=>Tot.bind (cB K _ _ _).tot λv' M=>Tot.cnd (λ_=>Tot.ret H) λu=>?_
 ·rw[O.2 H]at h;cases h
 have hb:=O.1 (by simpa using y);have Z:=M.1 (by simpa using u);obtain⟨_,_,_,⟨c1,c2⟩⟩:=H;obtain⟨_,_,_,⟨b1,b2⟩⟩:=hb;obtain⟨t1,t2⟩:=Z;have R:¬ wr .i64 (c.2.2.2+b.2.2.2)=0:=by rw[aE (by omega) (by omega)];omega
 have z:∀ w:Int,Tot (Q179.f K (c,b,w,t,())) λr=>InP r.1.1 1 1500:=λw=>by
  simp only[Q179.f,Q178.f];refine Tot.bind (P:=λ_=>True) (Tot.cnd (λ_=>Tot.ret trivial) λ_=>Tot.ret trivial) λ_ _=>Tot.not (decide_eq_false (show ¬ t=0 by omega)) (Tot.bind (kV K _ _ _ (by omega)) λ_ _=>Tot.not (decide_eq_false R) (Tot.bind (kV K _ _ _ (by omega)) λ_ h=>Tot.ret h))
 refine Tot.bind (Bi K c b X) λ_ _=>?_
 simp only[Q176.f];refine Tot.bind (P:=λ_=>True) (Tot.not (decide_eq_false R) (Tot.ret trivial)) λ_ _=>Tot.bind (xF K _ _ X) λn _=>Tot.cnd (λ_=>?_) λh=>?_
 ·simp only[Q177.f];refine Tot.bind (P:=λ_=>True) (Tot.cnd (λ_=>Tot.ret trivial) λ_=>Tot.cnd (λ_=>Tot.ret trivial) λ_=>Tot.cnd (λ_=>Tot.ret trivial) λ_=>Tot.ret trivial) λ_ _=>Tot.cnd (λ_=>?_) λ_=>?_ <;>
  exact Tot.bind (kV K _ _ _ (by omega)) λ_ J=>Tot.bind (kV K _ _ _ (by omega)) λ_ y=>Tot.bind (kV K _ _ _ (by omega)) λ_ u=>Tot.bind (z _) λ_ I=>Tot.ret ⟨J,y,u,I⟩
 ·have Y:¬ n.1.1=0:=by simpa using h
  refine Tot.cnd (λ_=>?_) λ_=>?_ <;>
  exact Tot.not (decide_eq_false Y) (Tot.bind (kV K _ _ _ (by omega)) λ_ J=>Tot.not (decide_eq_false Y) (Tot.bind (kV K _ _ _ (by omega)) λ_ y=>Tot.bind (kV K _ _ _ (by omega)) λ_ u=>Tot.bind (z _) λ_ I=>Tot.ret ⟨J,y,u,I⟩))
noncomputable def pS (K:Nat)(c b:dw)(t s:Int):dw:=((Q180.f K (c,b,t,s,())).getD (((0,0,0,0),()),())).1.1
noncomputable def sl (K:Nat)(l:List Int):Int:=((Q181.f K (l,())).getD ((0,()),())).1.1
theorem xG (K:Nat)(c b:dw)(t s:Int)(r:cC c)(u:1048577<K):Q180.f K (c,b,t,s,())=some ((pS K c b t s,()),())/\cC (pS K c b t s):=by
 obtain⟨⟨⟨v,⟨⟩⟩,⟨⟩⟩,e,h⟩:=Bj K c b t s r u;unfold pS;rw[e];exact⟨rfl,h⟩
theorem med_t (K:Nat)(l:List Int)(hl:l.length<=100)(hK:1048577<K):Tot (Q181.f K (l,())) λ_=>True:=by
 simp only[Q181.f,Q181.pre];have H:∀ I:List Int,I.length<=100->Tot (Q181.l0 K (l,()) (I,[],0)) λ_=>True:=λI hx=>by
  refine Tot.iter (step:=λrec a=>Q181.s0 K (l,()) (Q181.l1 K (l,()) rec) rec a) (λa=>a.1=I/\0<=a.2.2/\a.2.2<=I.length/\(a.2.1.length:Int)=a.2.2) (λa=>I.length-a.2.2.toNat) ?_ K _ (by show I.length-BJ 0<K;omega) ⟨rfl,by show (0:Int)<=0;omega,by show (0:Int)<=_;omega,rfl⟩;rintro rec ⟨ys,u,i⟩ ⟨rfl,X,h1,h2⟩ ih;simp only at X h1 h2 hx ih ⊢;simp only[Q181.s0];obtain⟨i,rfl⟩:=BL X;refine Tot.cnd (λh=>?_) λ_=>Tot.cnd (λ_=>Tot.ret trivial) λh=>?_
  ·have J:=of_decide_eq_true h;clear h;refine Tot.iter (step:=λz a=>Q181.s1 K (l,()) rec z a) (λa=>a.1=ys/\a.2.1=u/\a.2.2.1=i/\0<=a.2.2.2/\a.2.2.2<=u.length) (λa=>u.length-a.2.2.2.toNat) ?_ K _ (by show u.length-BJ 0<K;omega) ⟨rfl,rfl,rfl,by show (0:Int)<=0;omega,by show (0:Int)<=_;omega⟩;rintro z ⟨M,r,j,k⟩ ⟨rfl,rfl,e,k0,k1⟩ R;simp only at e k0 k1 J h1 h2 hx R ih ⊢;subst e;simp only[Q181.s1];obtain⟨k,rfl⟩:=BL k0;have Y:∀ y:Int,Tot (rec (M,(([]++((r.take (BJ (k:Int))).drop (BJ 0)))++([y]))++((r.take (BJ (BH r:Int))).drop (BJ (k:Int))),wr .i64 ((i:Int)+1))) λ_=>True:=λy=>by
    rw[ar i (by omega)];refine ih _ ⟨rfl,by show (0:Int)<=((i+1:Nat):Int);omega,by show ((i+1:Nat):Int)<=_;omega,?_⟩ (by show M.length-BJ ((i+1:Nat):Int)<M.length-BJ (i:Int);omega);simp only[BK,Cd,B4,BT,BV,BY,CD,BM,BQ];omega
   have O:Tot (bif decide (0<=0)&&decide ((0:Int)<=(k:Int))&&decide ((k:Int)<=(BH r:Int))&&true then (bif decide ((BH ([]:List (Ty.den (.int .i64)))+BH ((r.take (BJ (k:Int))).drop (BJ 0)))*8<=ak) then ((idx M (i:Int)).bind λZ=>bif decide ((BH ([]++((r.take (BJ (k:Int))).drop (BJ 0)))+BH ([Z]))*8<=ak) then (bif decide ((0:Int)<=(k:Int))&&decide ((k:Int)<=(BH r:Int))&&decide ((BH r:Int)<=(BH r:Int))&&true then (bif decide ((BH (([]++((r.take (BJ (k:Int))).drop (BJ 0)))++([Z]))+BH ((r.take (BJ (BH r:Int))).drop (BJ (k:Int))))*8<=ak) then (rec (M,(([]++((r.take (BJ (k:Int))).drop (BJ 0)))++([Z]))++((r.take (BJ (BH r:Int))).drop (BJ (k:Int))),wr .i64 ((i:Int)+1))) else none) else none) else none) else none) else none) λ_=>True:=by
    refine Tot.must (by simp only[CN,decide_eq_true_eq,C3];omega) (Tot.fit (Tot.ix X J λy _ _=>Tot.fit (Tot.must (by simp only[CN,decide_eq_true_eq,C3];omega) (Tot.fit (Y y) (by omega) ?_)) (by omega) ?_) (by omega) ?_) <;>
    simp only[BK,Cd,B4,BT,BV,BY,CD,BM,BQ] <;> omega
   refine Tot.cnd (λh4=>?_) λ_=>O
   have h4:=of_decide_eq_true h4;refine Tot.ix k0 h4 λy1 _ _=>Tot.ix X J λy2 _ _=>Tot.cnd (λ_=>?_) λ_=>O
   rw[ar k (by omega)];exact R _ ⟨rfl,rfl,rfl,by show (0:Int)<=((k+1:Nat):Int);omega,by show ((k+1:Nat):Int)<=_;omega⟩ (by show r.length-BJ ((k+1:Nat):Int)<r.length-BJ (k:Int);omega)
  ·have h:¬ (u.length:Int)=0:=by simpa using h
   rw[aE (n:=(u.length:Int)-1) (by omega) (by omega)];have e:Co ((u.length:Int)-1) 2=((u.length:Int)-1) / 2:=by rw[CF (by omega)]
   rw[e,aE (by omega) (by omega)];exact Tot.ix (by omega) (by omega) λy _ _=>Tot.ret trivial
 refine Tot.cnd (λh=>?_) λ_=>H l hl
 have h:=of_decide_eq_true h;rw[aE (n:=(l.length:Int)-3) (by omega) (by omega)];exact Tot.must (by simp only[CN,decide_eq_true_eq,C3];omega) (H _ (by simp only[CD,BY];omega))
theorem med_s (K:Nat)(l:List Int)(r:l.length<=100)(u:1048577<K):Q181.f K (l,())=some ((sl K l,()),()):=by
 obtain⟨⟨⟨v,⟨⟩⟩,⟨⟩⟩,e,_⟩:=med_t K l r u;unfold sl;rw[e];rfl
end Go.Proofs.YtaegajachoklkaaGreatEv
