/- The marks that a law writes into what was answered, and the look whether they still stand. -/
import Derived.Test.YtaegajachoklkaaGreatP1
import Derived.Test.YtaegajachoklkaaGreatE0
import Derived.Laws.Strings
set_option linter.unusedVariables false
set_option linter.unusedSimpArgs false
open Bool renaming not_true->BM,not_false->B8,and_eq_true->CK,eq_iff_iff->CO,true_and->CS,and_self->CX,false_and->Cb,false_or->Cq,and_true->Cy,true_or->C4,and_false->DB,or_true->DR
open ByteArray renaming size_extract->Cm
open Classical renaming not_not->Cj
open Eq renaming trans->Ct
open Go.ByteArray renaming toList_eq->DD
open Go.IntKind renaming wrap_i64->DM
open Int renaming toNat->BG,toNat_natCast->BH,eq_ofNat_of_zero_le->BI,fdiv->B4,tdiv_eq_ediv_of_nonneg->CC,tmod->CG,le_refl->CJ,toNat_zero->Ca,tdiv->Cl,le_trans->Cs,tmod_lt_of_pos->Cu,tmod_eq_emod_of_nonneg->Cv,le_of_lt->C3,tmod_nonneg->C8,tdiv_le_self->DN,tdiv_nonneg->DP
open List renaming length->BE,getElem_mem->BF,length_cons->BJ,mem_filter->BK,getElem_of_mem->BL,length_nil->BN,append_nil->BO,getElem?_eq_getElem->BP,nil_append->BQ,length_map->BR,length_append->BS,length_take->BV,mem_map->BX,drop_zero->BY,pairwise_cons->BZ,reverse_reverse->B3,drop_eq_getElem_cons->B5,pairwise_map->B6,length_filter_le->B7,filter_cons->B9,length_drop->CA,take_of_length_le->CB,mem_singleton->CD,append_assoc->CE,filter_eq_self->CF,mem_cons->CH,pairwise_iff_getElem->CM,mem_append->CN,pairwise_append->CP,take_succ_eq_append_getElem->CQ,reverse_cons->CR,length_take_le->CT,length_pos_iff->CU,filter_append->CV,filter_eq_nil_iff->CW,getElem?_eq_none->CY,length_singleton->CZ,replicate->Cd,take_length->Ce,mem_of_find?_eq_some->Cf,length_reverse->Cg,getElem_take->Ch,length_replicate->Cn,not_mem_nil->Co,ext_getElem->Cp,map_append->Cr,filter_congr->Cw,map_cons->Cx,drop_length->Cz,pairwise_singleton->C0,find?_cons->C5,find?_some->C6,length_set->C7,take_append_drop->C9,set_append_right->DA,mem_of_mem_take->DC,find?_eq_none->DE,mem_cons_self->DF,getElem_drop->DG,getElem_map->DH,perm_middle->DI,cons_append->DJ,getElem_set->DK,mem_range->DQ,map_nil->DS
open List.Pairwise renaming filter->Cc
open Nat renaming le_refl->BT,zero_le->BU,le_trans->BW,lt_or_eq_of_le->CL,mul_le_mul->Ci,lt_trichotomy->Ck
open Option renaming bind_some->BD,bind->CI,getD_some->DL,map_some->DO
namespace Go.Proofs.YtaegajachoklkaaGreatEv
open Go
theorem lf {α β R:Type}(t:List α)(p:α->Bool)(g:α->β)(n:Nat)(u:List β->Option R){step:(List β×Int->Option R)->List β×Int->Option R}
  (h:∀ (rec:List β×Int->Option R) (r:List β) (i:Nat) (M:i<t.length),r.length<=i->r.length<n->step rec (r,(i:Int))=rec (bif p t[i] then r++[g t[i]] else r,((i+1:Nat):Int)))
  (hn:∀ (rec:List β×Int->Option R) (r:List β) (i:Nat),i<t.length->r.length<=i->n<=r.length->step rec (r,(i:Int))=u r)
  (z:∀ (rec:List β×Int->Option R) (r:List β),r.length<=t.length->step rec (r,(t.length:Int))=u r) :
  ∀ (d i k:Nat) (r:List β),i+d=t.length->d<k->r.length<=i->r.length<=n->ae step k (r,(i:Int))=u (r++(((t.drop i).filter p).map g).take (n-r.length)):=by
 intro d;induction d with
 |zero =>
  intro i k r M X H _;obtain⟨k,rfl⟩:∃ I,k=I+1:=⟨k-1,by omega⟩;have:i=t.length:=by omega
  subst this;show step (ae step k) _=_;rw[z _ _ H];simp
 |succ d J =>
  intro i k r M X H O;obtain⟨k,rfl⟩:∃ I,k=I+1:=⟨k-1,by omega⟩;have y:i<t.length:=by omega
  show step (ae step k) _=_;by_cases Y:r.length<n
  ·rw[h _ _ _ y H Y,B5 y,B9];cases hp:p t[i] with
   |true =>
    simp only[cond_true,if_true,Cx];rw[J (i+1) k _ (by omega) (by omega) (by simp;omega) (by simp;omega)];congr 1;obtain⟨m,Z⟩:∃ m,n-r.length=m+1:=⟨n-r.length-1,by omega⟩;rw[Z,List.take_succ_cons,CE];simp only[BS,BJ,BN];rw[show n-(r.length+(0+1))=m by omega];rfl
   |false =>
    simp only[cond_false];rw[J (i+1) k _ (by omega) (by omega) (by omega) (by omega)];rfl
  ·rw[hn _ _ _ y H (by omega)];rw[show n-r.length=0 by omega];simp
theorem pC {α β R:Type}(t:List α)(p:α->Bool)(g:α->β)(u:List β->Option R){step:(List β×Int->Option R)->List β×Int->Option R}
  (h:∀ (rec:List β×Int->Option R) (r:List β) (i:Nat) (z:i<t.length),r.length<=i->step rec (r,(i:Int))=rec (bif p t[i] then r++[g t[i]] else r,((i+1:Nat):Int)))
  (y:∀ (rec:List β×Int->Option R) (r:List β),r.length<=t.length->step rec (r,(t.length:Int))=u r) {k:Nat} (I:t.length<k) :
  ae step k ([],0)=u ((t.filter p).map g):=by
 have:=lf t p g (t.length+1) u (λrec r i z H _=>h rec r i z H) (λrec r i z H J=>by omega) y t.length 0 k [] (by omega) I (BT _) (by simp);refine this.trans ?_;congr 1;simp only[BQ,BN,BY];exact CB (by have:=B7 p t;simp;omega)
theorem d5 {e:Ty}{b:Nat}{xs:List e.den}(h:xs.length*b<=140737488355328):fb e b xs=some ((xs,()),()):=by
 unfold fb;rw[decide_eq_true (by simpa[ak]using h)];rfl
theorem xd {α β:Type}{xs r:List α}{b:Nat}{x y:β}(h:(xs.length+r.length)*b<=140737488355328):(bif decide ((BE xs+BE r)*b<=ak) then x else y)=x:=by
 rw[decide_eq_true (by simpa[ak]using h)];rfl
theorem qv (K:Nat)(xs:List Int)(n:Int)(H:xs.length<=1048576):Q76.f K (xs,n,())=some ((xs.take n.toNat,()),()):=by
 simp only[Q76.f,Q75.f,BD,Q8.f];obtain⟨c,y,u,z,r⟩:∃ c:Int,(bif decide (0<(bif decide ((xs.length:Int)<n) then (xs.length:Int) else n)) then bif decide ((xs.length:Int)<n) then (xs.length:Int) else n else 0)=c/\0<=c/\c<=xs.length/\xs.take c.toNat=xs.take n.toNat:=by
  by_cases h:(xs.length:Int)<n
  ·rw[decide_eq_true h];simp only[cond_true];by_cases r:0<(xs.length:Int)
   ·rw[decide_eq_true r];refine⟨_,rfl,by simp,by simp,?_⟩;simp only[cond_true];rw[CB (by omega),CB (by omega)]
   ·rw[decide_eq_false r];refine⟨_,rfl,by simp,by simp,?_⟩;have:xs=[]:=List.eq_nil_of_length_eq_zero (by omega);subst this;simp
  ·rw[decide_eq_false h];simp only[cond_false];by_cases r:0<n
   ·rw[decide_eq_true r];exact⟨_,rfl,by simp;omega,by simp;omega,rfl⟩
   ·rw[decide_eq_false r];refine⟨_,rfl,by simp,by simp,?_⟩;simp only[cond_false];rw[show n.toNat=0 by omega];rfl
 rw[y,decide_eq_true u,decide_eq_true z];simp only[Ca,BY,decide_true,CX,cond_true];rw[d5 (by
  have:=CT c.toNat xs;have I:(List.take c.toNat xs).length<=1048576:=by omega
  omega)]
 simp only[BD];rw[r];rfl
theorem qw (K:Nat)(t:List af)(r:af×Unit->Option Bool)(p:af->Bool)(J:t.length<=1048576)(I:1048577<K)(hφ:∀ f∈t,r (f,())=some (p f)) :
  Q77.f K (t,r,())=some (((t.filter p).map (·.1),()),()):=by
 refine pC (step:=λrec a=>Q77.s0 K (t,r,()) rec a) t p (λf=>f.1) (λz=>some ((z,()),())) ?_ ?_ (by omega)
 ·intro rec u i y H;simp only[Q77.s0];rw[bq (by omega:(i:Int)<(BE t:Int)),ag y,ar i (by omega)];simp only[cond_true,BD];rw[hφ _ (BF y)];simp only[BD];cases p t[i] with
  |true=>simp only[cond_true];rw[xd (by simp;omega)]
  |false=>rfl
 ·intro rec u _;simp only[Q77.s0,aT];rfl
def iD (f:af):Bool:=f.2.2.2&&f.2.2.1==1
def dN (t:List af):List Int:=((t.filter iD).map (·.1)).take 2
theorem uR (K:Nat)(t:List af)(I:t.length<=1048576)(J:1048577<K):Q203.f K (t,2,())=some ((dN t,()),()):=by
 have:=lf (step:=λrec a=>Q203.s0 K (t,2,()) rec a) t iD (λf=>f.1) 2 (λz=>some ((z,()),())) ?_ ?_ ?_ t.length 0 K [] (by omega) (by omega) (BT _) (by simp)
 ·exact this
 ·intro rec r i u y H;simp only[Q203.s0];rw[bq (by omega:(i:Int)<(BE t:Int)),ag u,ar i (by omega),decide_eq_true (by omega:(BE r:Int)<2)];simp only[cond_true,BD,iD];cases t[i].2.2.2 with
  |true =>
   simp only[cond_true,CS];cases t[i].2.2.1==1 with
   |true=>simp only[cond_true];rw[xd (by simp;omega)]
   |false=>rfl
  |false=>rfl
 ·intro rec r i u y H;simp only[Q203.s0];rw[bq (by omega:(i:Int)<(BE t:Int)),decide_eq_false (by omega:¬ (BE r:Int)<2)];rfl
 ·intro rec r _;simp only[Q203.s0,aT];rfl
theorem uS (K:Nat)(t:List af)(r:t.length<=1048576)(u:1048577<K)(y:az t):Q103.f K (t,2,())=some ((dN t,()),()):=by
 obtain⟨b,H,z⟩:=jC K t r u;simp only[Q103.f];rw[H];simp only[BD,z.2 y,BM,cond_false];rw[qw K t _ iD r u (λf _=>by
  simp only[Q102.f,iD];cases f.2.2.2 <;> rfl)]
 simp only[BD];rw[qv K _ 2 (by have:=B7 iD t;simp;omega)];rfl
theorem qY (t:List af):(dN t).length<=2:=by
 unfold dN;exact CT _ _
def dm (l:List cV)(s:Int):List af:=((l.find? λx=>x.1==s).map (·.2)).getD []
theorem pD {R:Type}(l:List cV)(s:Int)(r:List af->Option R){step:(Int->Option R)->Int->Option R}
  (h:∀ (rec:Int->Option R) (i:Nat) (H:i<l.length),step rec (i:Int)=bif l[i].1==s then r l[i].2 else rec ((i+1:Nat):Int))
  (u:∀ rec:Int->Option R,step rec (l.length:Int)=r []) :
  ∀ (d i k:Nat),i+d=l.length->d<k->ae step k (i:Int)=r (dm (l.drop i) s):=by
 intro d;induction d with
 |zero =>
  intro i k H J;obtain⟨k,rfl⟩:∃ z,k=z+1:=⟨k-1,by omega⟩;have:i=l.length:=by omega
  subst this;show step (ae step k) _=_;rw[u];simp[dm]
 |succ d I =>
  intro i k H J;obtain⟨k,rfl⟩:∃ z,k=z+1:=⟨k-1,by omega⟩;have y:i<l.length:=by omega
  show step (ae step k) _=_;rw[h _ _ y,B5 y];simp only[dm,C5];cases l[i].1==s with
  |true=>rfl
  |false=>exact I (i+1) k (by omega) (by omega)
theorem z7 (K:Nat)(n:aa)(s:Int)(u:NB n)(z:1048577<K):Q104.f K (n,s,())=some ((dm (aa.others n) s,()),()):=by
 have y:=u.others;refine pD (step:=λrec a=>Q104.s0 K (n,s,()) rec a) (aa.others n) s (λt=>some ((t,()),())) ?_ ?_ (aa.others n).length 0 K (by omega) (by omega)
 ·intro rec i r;simp only[Q104.s0];rw[bq (by omega:(i:Int)<(BE (aa.others n):Int)),ag r,ar i (by omega)];rfl
 ·intro rec;simp only[Q104.s0,aT];rfl
theorem mP {l:List cV}{s:Int}:dm l s=[]\/∃ x∈l,x.1=s/\dm l s=x.2:=by
 unfold dm;cases h:l.find? λx=>x.1==s with
 |none=>exact .inl rfl
 |some x=>exact .inr ⟨x,Cf h,by simpa using C6 h,rfl⟩
def bI {α:Type}(k:α->Int)(x:α)(xs:List α):List α:=xs.filter (λy=>decide (k y<k x))++x::xs.filter (λy=>decide (k x<k y))
theorem qZ {α:Type}{k:α->Int}{xs:List α}{v:Int}{m:Nat}(J:m<=xs.length)(H:∀ i,(z:i<xs.length)->i<m->k xs[i]<v)(z:∀ i,(h:i<xs.length)->m<=i->v<=k xs[i]):xs.filter (λy=>decide (k y<v))=xs.take m:=by
 conv=>lhs;rw[<- C9 m xs]
 rw[CV];have r:(xs.take m).filter (λy=>decide (k y<v))=xs.take m:=by
  rw[CF];intro y u;obtain⟨i,r,rfl⟩:=BL u;rw[BV]at r;rw[Ch];exact decide_eq_true (H i (by omega) (by omega))
 have I:(xs.drop m).filter (λy=>decide (k y<v))=[]:=by
  rw[CW];intro y u;obtain⟨i,r,rfl⟩:=BL u;rw[CA]at r;rw[DG];have:=z (m+i) (by omega) (by omega);simp only[decide_eq_true_eq];omega
 rw[r,I,BO]
theorem q8 {α:Type}{k:α->Int}{xs:List α}{v:Int}{m:Nat}(J:m<=xs.length)(H:∀ i,(z:i<xs.length)->i<m->k xs[i]<=v)(z:∀ i,(h:i<xs.length)->m<=i->v<k xs[i]):xs.filter (λy=>decide (v<k y))=xs.drop m:=by
 conv=>lhs;rw[<- C9 m xs]
 rw[CV];have r:(xs.take m).filter (λy=>decide (v<k y))=[]:=by
  rw[CW];intro y u;obtain⟨i,r,rfl⟩:=BL u;rw[BV]at r;rw[Ch];have:=H i (by omega) (by omega);simp only[decide_eq_true_eq];omega
 have I:(xs.drop m).filter (λy=>decide (v<k y))=xs.drop m:=by
  rw[CF];intro y u;obtain⟨i,r,rfl⟩:=BL u;rw[CA]at r;rw[DG];exact decide_eq_true (z (m+i) (by omega) (by omega))
 rw[r,I,BQ]
theorem kv {α:Type}{k:α->Int}{xs:List α}{x:α}{m:Nat}(h:Asc k xs)(H:m<xs.length)(e:k xs[m]=k x):xs.set m x=bI k x xs:=by
 have J:=dt.1 h;have I:∀ i,(u:i<xs.length)->i<m->k xs[i]<k x:=λi u y=>by rw[<- e];exact J i m u H y
 have M:∀ i,(u:i<xs.length)->m<i->k x<k xs[i]:=λi u y=>by rw[<- e];exact J m i H u y
 rw[bI,qZ (m:=m) (by omega) I (λi u r=>by
   rcases CL r with z|z
   ·exact C3 (M i u z)
   ·subst z;omega),
  q8 (m:=m+1) (by omega) (λi u r=>by
   rcases CL (Nat.le_of_lt_succ r) with z|z
   ·exact C3 (I i u z)
   ·subst z;omega) (λi u r=>M i u r),
  List.set_eq_take_append_cons_drop,if_pos H]
theorem jg {α:Type}{k:α->Int}{xs:List α}{x:α}{m:Nat}(z:m<=xs.length)(H:∀ i,(r:i<xs.length)->i<m->k xs[i]<k x)(r:∀ i,(h:i<xs.length)->m<=i->k x<k xs[i]):xs.take m++[x]++xs.drop m=bI k x xs:=by
 rw[bI,qZ z H (λi y u=>C3 (r i y u)),q8 z (λi y u=>C3 (H i y u)) r,CE];rfl
theorem a8 {α:Type}{k:α->Int}{xs:List α}{x y:α}:y∈bI k x xs<->y=x\/(y∈xs/\k y≠k x):=by
 simp only[bI,CN,CH,BK,decide_eq_true_eq];constructor
 ·rintro (⟨r,z⟩|rfl|⟨r,z⟩)
  ·exact .inr ⟨r,by omega⟩
  ·exact .inl rfl
  ·exact .inr ⟨r,by omega⟩
 ·rintro (rfl|⟨r,z⟩)
  ·exact .inr (.inl rfl)
  ·rcases Int.lt_or_gt_of_ne z with u|u
   ·exact .inl ⟨r,u⟩
   ·exact .inr (.inr ⟨r,u⟩)
theorem fk {α:Type}{k:α->Int}{xs:List α}{x:α}(h:Asc k xs):Asc k (bI k x xs):=by
 unfold Asc bI;rw[CP,BZ];refine⟨h.filter _,⟨λy r=>?_,h.filter _⟩,λy r z u=>?_⟩
 ·simpa using (BK.1 r).2
 ·have H:k y<k x:=by simpa using (BK.1 r).2
  rcases CH.1 u with rfl|u
  ·exact H
  ·have I:k x<k z:=by simpa using (BK.1 u).2
   omega
theorem yH {α:Type}{k:α->Int}{xs:List α}{x:α}:(bI k x xs).length<=xs.length+1:=by
 have:∀ l:List α,(l.filter (λy=>decide (k y<k x))).length+(l.filter (λy=>decide (k x<k y))).length<=l.length:=by
  intro l;induction l with
  |nil=>simp
  |cons y l u =>
   simp only[B9,BJ];by_cases r:k y<k x
   ·rw[if_pos (decide_eq_true r),if_neg (by simp;omega)];simp only[BJ];omega
   ·rw[if_neg (by simpa using r)];split <;> (try simp only[BJ]) <;> omega
 have:=this xs;simp only[bI,BS,BJ];omega
theorem oX {α:Type}{k:α->Int}{xs:List α}(h:Asc k xs){i:Nat}(u:i<xs.length){v:Int}(e:k xs[i]=v):xs.find? (λy=>k y==v)=some xs[i]:=by
 cases r:xs.find? (λy=>k y==v) with
 |none =>
  have:=DE.1 r xs[i] (BF u);simp[e]at this
 |some y =>
  have H:k y=v:=by simpa using C6 r
  obtain⟨j,z,rfl⟩:=BL (Cf r);have:=oQ h z u (by rw[H,e]);subst this;rfl
theorem nN {α:Type}{k:α->Int}{xs:List α}{v:Int}(h:∀ y∈xs,k y≠v):xs.find? (λy=>k y==v)=none:=by
 rw[DE];intro y r;simpa using h y r
def kc {α:Type}(k:α->Int)(x:α):Bool->List α->List α
 |d,[]=>bif d then [] else [x]
 |d,y::r=>(bif !d&&decide (k x<=k y) then [x] else [])++((bif k y != k x then [y] else [])++kc k x (d||decide (k x<=k y)) r)
theorem pE {α:Type}{k:α->Int}{x:α}:∀ {r:List α},(∀ y∈r,k x<k y)->kc k x true r=r
 |[],_=>rfl
 |y::r,h=>by
  have H:=h y (by simp);simp only[kc,BM,Cb,cond_false,C4,BQ];rw[pE (λz u=>h z (by simp[u])),show (k y != k x)=true by simp;omega];rfl
theorem lg {α:Type}{k:α->Int}{x:α}:∀ {xs:List α},Asc k xs->kc k x false xs=bI k x xs
 |[],_=>rfl
 |y::u,h=>by
  have R:Asc k u:=(BZ.1 h).2;have H:∀ z∈u,k y<k z:=(BZ.1 h).1;simp only[kc,B8,CS,Cq];by_cases J:k x<=k y
  ·rw[decide_eq_true J,pE (λz r=>by have:=H z r;omega)];simp only[cond_true,bI,B9];have M:u.filter (λz=>decide (k z<k x))=[]:=by
    rw[CW];intro z r;have:=H z r;simp;omega
   have O:u.filter (λz=>decide (k x<k z))=u:=by
    rw[CF];intro z r;have:=H z r;simp;omega
   rw[M,O,if_neg (by simp;omega)];by_cases I:k y=k x
   ·rw[if_neg (by simp;omega),show (k y != k x)=false by simpa using I];rfl
   ·rw[if_pos (by simp;omega),show (k y != k x)=true by simpa using I];rfl
  ·rw[decide_eq_false J,lg R,show (k y != k x)=true by simp;omega];simp only[cond_false,cond_true,bI,B9,BQ];rw[if_pos (by simp;omega),if_neg (by simp;omega)];rfl
theorem sO {α A R:Type}(k:α->Int)(x:α)(t:List α)(q:α->Bool)(O:Option R)(u:List α->Option R)(S:List α->Bool->Nat->A){step:(A->Option R)->A->Option R}
  (h:∀ (rec:A->Option R) (r:List α) (d:Bool) (i:Nat) (Y:i<t.length),r.length<=i+1->(d=false->r.length<=i)->step rec (S r d i)=bif q t[i] then O else rec (S ((r++(bif !d&&decide (k x<=k t[i]) then [x] else []))++(bif k t[i] != k x then [t[i]] else [])) (d||decide (k x<=k t[i])) (i+1)))
  (H:∀ (rec:A->Option R) (r:List α) (d:Bool),r.length<=t.length+1->(d=false->r.length<=t.length)->step rec (S r d t.length)=u (r++(bif d then [] else [x]))) :
  ∀ (n i K:Nat) (r:List α) (d:Bool),i+n=t.length->n<K->r.length<=i+1->(d=false->r.length<=i)->ae step K (S r d i)=bif (t.drop i).any q then O else u (r++kc k x d (t.drop i)):=by
 intro n;induction n with
 |zero =>
  intro i K r d Y Z J I;obtain⟨K,rfl⟩:∃ M,K=M+1:=⟨K-1,by omega⟩;have:i=t.length:=by omega
  subst this;show step (ae step K) _=_;rw[H _ _ _ J I,Cz];rfl
 |succ n ih =>
  intro i K r d Y Z J I;obtain⟨K,rfl⟩:∃ M,K=M+1:=⟨K-1,by omega⟩;have z:i<t.length:=by omega
  show step (ae step K) _=_;rw[h _ _ _ _ z J I,B5 z,List.any_cons];cases hq:q t[i] with
  |true=>rfl
  |false =>
   simp only[cond_false,Cq,kc];rw[ih (i+1) K _ _ (by omega) (by omega) ?_ ?_]
   ·simp only[CE]
   ·cases d with
    |true =>
     simp only[BM,Cb,cond_false,BO];cases k t[i] != k x <;> simp <;> omega
    |false =>
     have:=I rfl;cases X:decide (k x<=k t[i]) <;> cases k t[i] != k x <;> simp <;> omega
   ·intro y;rw[Bool.or_eq_false_iff]at y;obtain⟨rfl,X⟩:=y;have:=I rfl;rw[X];cases k t[i] != k x <;> simp <;> omega
theorem jt (K:Nat)(n:aa)(y:NB n)(r:1048577<K):∃ b,Q26.f K (n,())=rb b/\Q64.f K (n,())=rb b/\(b=true<->iP n):=by
 obtain⟨b,J,u⟩:=yF K n y r;obtain⟨H,z,I⟩:=yG K n y r;have:b=H:=by rw[CO,u,I]
 subst this;exact⟨b,J,z,u⟩
theorem iP.up {n:aa}(h:iP n)(r:n.2.1=true):UpP n:=by
 have:=h.2.2.2.2.2
 rwa [if_pos r]at this
abbrev aq:=Int×Int×Int×Int×Int×Int×dB×List af
abbrev aq.table (w:aq):List af:=w.2.2.2.2.2.2.2
abbrev aq.coord (w:aq):dB:=w.2.2.2.2.2.2.1
def pF:List af->Prop
 |[]=>False
 |f::l=>cf (f::l) (ao f.1)
def iQ (w:aq):Prop:=InP w.1 1 2/\InP w.2.1 1 6/\InP w.2.2.1 0 7/\InP w.2.2.2.1 0 7/\InP w.2.2.2.2.1 0 999999/\InP w.2.2.2.2.2.1 0 7/\cD (aq.coord w)/\az (aq.table w) /\
 (if w.2.1=6 then pF (aq.table w) else cf (aq.table w) (ao w.2.2.1))
theorem sP (K:Nat)(w:aq)(u:(aq.table w).length<=1048576)(r:1048577<K):Ret (Q143.f K (w,())) (iQ w):=by
 refine Ret.nx (cB K _ _ _) λ_=>Ret.nx (cB K _ _ _) λ_=>Ret.nx (cB K _ _ _) λ_=>Ret.nx (cB K _ _ _) λ_=>Ret.nx (cB K _ _ _) λ_=>Ret.nx (cB K _ _ _) λ_=>Ret.nx (iB K _) λ_=>Ret.nx (gq K _ u r) λ_=>?_
 dsimp only;by_cases h:w.2.1=6
 ·rw[show (w.2.1==6)=true by simpa using h,if_pos h];obtain⟨w1,w2,w3,w4,w5,y,z,t⟩:=w;cases t with
  |nil=>exact Ret.no (λh=>h)
  |cons f l =>
   rw[show decide ((BE (f::l):Int)>0)=true from decide_eq_true (by simp only[BJ];omega)];simp only[cond_true];exact Ret.vl (ag (xs:=f::l) (i:=0) (by simp)) (gr K _ _ u r).id
 ·rw[show (w.2.1==6)=false by simpa using h,if_neg h];exact (gr K _ _ u r).id
theorem iE {α A R:Type}(xs:List α)(S:List α->Nat->A)(r:Option R){step:(A->Option R)->A->Option R}
  (h:∀ (rec:A->Option R) (u:List α) (i:Nat) (z:i<xs.length),u.length=i->step rec (S u i)=rec (S (u++[xs[i]]) (i+1))) (y:∀ rec:A->Option R,step rec (S xs xs.length)=r) {k:Nat} (H:xs.length<k):ae step k (S [] 0)=r:=by
 refine eZ (step:=step) xs.length (λi=>S (xs.take i) i) r ?_ ?_ H
 ·intro rec i z;show step rec (S (xs.take i) i)=rec (S (xs.take (i+1)) (i+1));rw[h rec (xs.take i) i z (by simp;omega),CQ z]
 ·intro rec;show step rec (S (xs.take xs.length) xs.length)=r;rw[Ce];exact y rec
theorem szb (a b c:Nat)(r:c<=64)(h:a+b<=2097152):decide ((a+b)*c<=ak)=true:=by
 have:=Ci h r;exact decide_eq_true (by unfold ak;omega)
theorem jG (K:Nat)(n:aa)(y:NB n)(M:1048577<K):Q118.f K (n,())=some ((n,()),()):=by
 have I:=y.table;have J:=y.cast;have O:=y.doubts;have H:=y.places;have R:=y.others;simp only[Q118.f,Q118.pre];rw[szb _ _ _ (by omega) (by show (BE ([]:List af))+(aa.table n).length<=_;simp;omega),szb _ _ _ (by omega) (by show (BE ([]:List aM))+(aa.cast n).length<=_;simp;omega)];simp only[cond_true];refine iE (aa.doubts n) (step:=λrec a=>Q118.s0 K (n,()) (Q118.l1 K (n,())) rec a) (λr i=>((i:Int),r)) _ ?_ ?_ (by omega)
 ·intro rec r i u z;have:=y.by_ _ (BF u);simp only[Q118.s0];rw[bq (by omega:(i:Int)<(BE (aa.doubts n):Int)),ag u,ar i (by omega)];simp only[cond_true,BD];rw[szb _ _ _ (by omega) (by simp;omega),szb _ _ _ (by omega) (by simp;omega)];rfl
 ·intro rec;simp only[Q118.s0,aT,cond_false];refine iE (aa.places n) (step:=λrec a=>Q118.s1 K (n,()) (Q118.l2 K (n,())) rec a) (λr i=>((i:Int),aa.doubts n,r)) _ ?_ ?_ (by omega)
  ·intro rec r i u z;have:=y.trips _ (BF u);simp only[Q118.s1];rw[bq (by omega:(i:Int)<(BE (aa.places n):Int)),ag u,ar i (by omega)];simp only[cond_true,BD];rw[szb _ _ _ (by omega) (by simp;omega),szb _ _ _ (by omega) (by simp;omega)];rfl
  ·intro rec;simp only[Q118.s1,aT,cond_false];refine iE (aa.others n) (step:=λrec a=>Q118.s2 K (n,()) rec a) (λr i=>((i:Int),aa.doubts n,aa.places n,r)) _ ?_ ?_ (by omega)
   ·intro rec r i u z;have:=y.facts _ (BF u);simp only[Q118.s2,zcp8];rw[bq (by omega:(i:Int)<(BE (aa.others n):Int)),ag u,ar i (by omega)];simp only[cond_true,BD];rw[szb _ _ _ (by omega) (by simp;omega),szb _ _ _ (by omega) (by simp;omega)];rfl
   ·intro rec;simp only[Q118.s2,zcp8,aT,cond_false];rfl
theorem yI (K:Nat)(n:aa)(y:NB n)(M:1048577<K):Q112.f K (n,())=some ((n,()),()):=by
 have I:=y.table;have J:=y.cast;have O:=y.doubts;have H:=y.places;have R:=y.others;simp only[Q112.f,Q112.pre];refine iE (aa.doubts n) (step:=λrec a=>Q112.s0 K (n,()) (Q112.l1 K (n,())) rec a) (λr i=>(r,(i:Int))) _ ?_ ?_ (by omega)
 ·intro rec r i u z;have:=y.by_ _ (BF u);simp only[Q112.s0,Q8.f];rw[bq (by omega:(i:Int)<(BE (aa.doubts n):Int)),ag u,ar i (by omega)];simp only[cond_true,BD];rw[d5 (by omega)];simp only[BD];rw[szb _ _ _ (by omega) (by simp;omega)];rfl
 ·intro rec;simp only[Q112.s0,aT,cond_false];refine iE (aa.places n) (step:=λrec a=>Q112.s1 K (n,()) (Q112.l2 K (n,())) rec a) (λr i=>(aa.doubts n,r,(i:Int))) _ ?_ ?_ (by omega)
  ·intro rec r i u z;have:=y.trips _ (BF u);simp only[Q112.s1,Q8.f];rw[bq (by omega:(i:Int)<(BE (aa.places n):Int)),ag u,ar i (by omega)];simp only[cond_true,BD];rw[d5 (by omega)];simp only[BD];rw[szb _ _ _ (by omega) (by simp;omega)];rfl
  ·intro rec;simp only[Q112.s1,aT,cond_false];refine iE (aa.others n) (step:=λrec a=>Q112.s2 K (n,()) rec a) (λr i=>(aa.doubts n,aa.places n,r,(i:Int))) _ ?_ ?_ (by omega)
   ·intro rec r i u z;have:=y.facts _ (BF u);simp only[Q112.s2,zcp8,Q0.f];rw[bq (by omega:(i:Int)<(BE (aa.others n):Int)),ag u,ar i (by omega)];simp only[cond_true,BD];rw[d5 (by omega)];simp only[BD];rw[szb _ _ _ (by omega) (by simp;omega)];rfl
   ·intro rec;simp only[Q112.s2,zcp8,aT,cond_false,Q0.f,Q2.f];rw[d5 (by show (aa.table n).length*_<=_;omega),d5 (by show (aa.cast n).length*_<=_;omega)];rfl
instance (f g:af):Decidable (bS f g):=by unfold bS;infer_instance
theorem pG (K:Nat)(f g:af):Q19.f K (f,g,())=rb (decide (bS f g)):=by
 obtain⟨b,u,r⟩:=sN K f g;rw[u,show b=decide (bS f g) by rw[CO,r];simp]
def bT (t:List af)(f:af):List af×Bool :=
 match t.find? (λg=>g.1==f.1) with
 |some g=>if bS f g then (bI (λg=>g.1) f t,true) else (t,false)
 |none=>(bI (λg=>g.1) f t,true)
theorem kw {t:List af}{f:af}(u:Asc (λg:af=>g.1) t){i:Nat}(r:i<t.length)(e:t[i].1=f.1):bT t f=if bS f t[i] then (bI (λg=>g.1) f t,true) else (t,false):=by
 unfold bT;rw[show t.find? (λg=>g.1==f.1)=some t[i] from oX u r e]
theorem ij {t:List af}{f:af}(h:∀ g∈t,g.1≠f.1):bT t f=(bI (λg=>g.1) f t,true):=by
 unfold bT;rw[show t.find? (λg=>g.1==f.1)=none from nN h]
theorem mQ {e:Ty}{b:Nat}{xs:List e.den}{m:Nat}{v:e.den}(u:m<=xs.length)(r:b<=64)(y:xs.length<=1048576):iw e b xs (m:Int) [v]=some ((xs.take m++[v]++xs.drop m,()),()):=by
 unfold iw;have:(xs.length+[v].length)*b<=140737488355328:=BW (Ci (show xs.length+[v].length<=1048577 by simp;omega) r) (by decide);rw[if_pos ⟨by omega,by omega,by simp,by simpa only[ak]using this⟩,BH]
theorem q9 {e:Ty}{xs:List e.den}{u:e.den×Unit->Option Bool}(p:e.den->Bool)(z:xs.length<=1048576)(h:∀ x∈xs,u (x,())=some (p x)):gG e xs u=some ((xs.filter (λx=>!p x),()),()):=by
 have:∀ r:List e.den,(∀ x∈r,u (x,())=some (p x))->lY u r=some (r.filter (λx=>!p x)):=by
  intro r;induction r with
  |nil=>intro _;rfl
  |cons y r H =>
   intro h;simp only[lY,h y (by simp),BD,H (λx z=>h x (by simp[z])),DO,B9];cases p y <;> rfl
 unfold gG;rw[if_pos z,this xs h];rfl
theorem put_s (K:Nat)(t:List af)(f:af)(ht:t.length<=1048576)(O:Asc (λg:af=>g.1) t)(hK:1048577<K):Q154.f K (t,f,())=some (((bT t f).1,(bT t f).2,()),()):=by
 simp only[Q154.f,Q154.pre];obtain⟨o,H,M⟩:=fC K t f.1 ht hK;rw[M];simp only[BD];cases H with
 |at_ i r e =>
  simp only;rw[kw O r e,decide_eq_true (by omega:((i:Nat):Int)>=0),ag r];simp only[cond_true,BD];rw[show Q19.f K (f,t[i],())=_ from pG K f t[i]];simp only[BD];by_cases H:bS f t[i]
  ·rw[decide_eq_true H,if_pos H];simp only[BM,cond_false];rw[szb _ _ _ (by omega) (by show (BE ([]:List af))+t.length<=_;simp;omega)];simp only[cond_true,BQ,ag r,BD,BH];rw[kv (k:=λg:af=>g.1) O r e]
  ·rw[decide_eq_false H,if_neg H];rfl
 |no h =>
  simp only;rw[ij h,decide_eq_false (by omega:¬ (-1:Int)>=0)];simp only[cond_false];have J:∀ m:Nat,m<=t.length->(bif decide ((0:Int)<=0)&&decide ((0:Int)<=(m:Int))&&decide ((m:Int)<=(BE t:Int))&&true then (bif decide ((BE ([]:List af)+BE ((t.take (BG (m:Int))).drop (BG 0)))*32<=ak) then (bif decide ((BE ([]++((t.take (BG (m:Int))).drop (BG 0)))+BE ([f]))*32<=ak) then (bif decide ((0:Int)<=(m:Int))&&decide ((m:Int)<=(BE t:Int))&&decide ((BE t:Int)<=(BE t:Int))&&true then (bif decide ((BE (([]++((t.take (BG (m:Int))).drop (BG 0)))++([f]))+BE ((t.take (BG (BE t:Int))).drop (BG (m:Int))))*32<=ak) then (some (((([]++((t.take (BG (m:Int))).drop (BG 0)))++([f]))++((t.take (BG (BE t:Int))).drop (BG (m:Int))),true,()),())) else none) else none) else none) else none) else (none:Option ((List af×Bool×Unit)×Unit)))=some ((t.take m++[f]++t.drop m,true,()),()):=by
   intro m X;rw[decide_eq_true (by omega:(0:Int)<=0),decide_eq_true (by omega:(0:Int)<=(m:Int)),decide_eq_true (by omega:(m:Int)<=(BE t:Int)),decide_eq_true (by omega:(BE t:Int)<=(BE t:Int))];simp only[BH,Ca,BY,BQ,Ce,CX,cond_true];have M:(t.take m).length=m:=by rw[BV];omega
   have z:(t.drop m).length=t.length-m:=CA;rw[szb _ _ _ (by omega) (by simp only[BN];omega),szb _ _ _ (by omega) (by simp only[BJ,BN];omega),szb _ _ _ (by omega) (by simp only[BS,BJ,BN];omega)];rfl
  have:=ci (step:=λrec a=>Q154.s0 K (t,f,()) rec a) t.length (λi=>(i:Int)) (λj=>∃ h:j<t.length,¬ t[j].1<f.1) (some ((t.take t.length++[f]++t.drop t.length,true,()),())) (λj=>some ((t.take j++[f]++t.drop j,true,()),())) ?_ ?_ t.length K 0 (by omega) (by omega)
  ·have I:∀ m,m<=t.length->(∀ i,(r:i<t.length)->i<m->t[i].1<f.1)->(∀ i,(r:i<t.length)->m<=i->f.1<t[i].1)->t.take m++[f]++t.drop m=bI (λg=>g.1) f t:=λm X lo r=>jg (k:=λg:af=>g.1) X lo r
   rcases this with ⟨M,z⟩|⟨j,_,M,⟨Y,h4⟩,h5,z⟩
   ·rw[I t.length (BT _) (λi r _=>by
     have:=M i (BU _) r;exact Cj.1 λh=>this ⟨r,h⟩) (λi r h=>by omega)]at z
    exact z
   ·rw[I j (by omega) (λi r y=>by
     have:=h5 i (BU _) y;exact Cj.1 λh=>this ⟨r,h⟩) (λi r y=>by
     have Z:=h t[i] (BF r);rcases CL y with R|R
     ·have:=dt.1 O j i Y r R;omega
     ·subst R;omega)]at z
    exact z
  ·intro rec i r;simp only[Q154.s0];rw[bq (by omega:(i:Int)<(BE t:Int)),ag r,ar i (by omega)];simp only[cond_true,BD];by_cases u:t[i].1<f.1
   ·exact .inl ⟨λ⟨_,h⟩=>h u,by rw[decide_eq_true u];rfl⟩
   ·exact .inr ⟨⟨r,u⟩,by rw[decide_eq_false u];exact J i (by omega)⟩
  ·intro rec;simp only[Q154.s0,aT,cond_false];exact J t.length (BT _)
theorem zI (K:Nat)(t:List af)(f:af)(X:t.length<=1048576)(H:Asc (λg:af=>g.1) t)(R:1048577<K):Q67.f K (t,f,())=some (((bT t f).1,(bT t f).2,()),()):=by
 simp only[Q67.f,Q0.f,Q1.f];rw[d5 (by omega)];simp only[BD];obtain⟨m,r,h1⟩:=sM K t f.1 X H R;rw[h1];simp only[BD];by_cases I:∃ h:m<t.length,t[m].1=f.1
 ·obtain⟨J,z⟩:=I;rw[decide_eq_true ⟨J,z⟩,kw H J z];simp only[BM,cond_false,ag J,BD,BH];rw[mO K f t[m] R];simp only[BD];by_cases O:bS f t[m]
  ·rw[decide_eq_true ((jE z.symm).2 O),if_pos O,kv (k:=λg:af=>g.1) H J z];rfl
  ·rw[decide_eq_false (λh=>O ((jE z.symm).1 h)),if_neg O];rfl
 ·rw[decide_eq_false I,ij (λg Z e=>by
   obtain⟨i,u,rfl⟩:=BL Z;rcases Ck i m with h|h|h
   ·have:=r.lo i u h;omega
   ·subst h;exact I ⟨u,e⟩
   ·have Y:=r.hi m (by omega) (BT _);have M:=dt.1 H m i (by omega) u h;omega)]
  simp only[B8,cond_true];rw[mQ r.le (by omega) X];simp only[BD];rw[jg (k:=λg:af=>g.1) r.le r.lo (λi u y=>by
   have:=r.hi i u y;rcases CL y with M|M
   ·have Y:=r.hi m (by omega) (BT _);have h7:=dt.1 H m i (by omega) u M;omega
   ·subst M;have:t[m].1≠f.1:=λe=>I ⟨u,e⟩
    omega)]
def du (l:List aM)(f:af):List aM:=if ∃ x∈l,x.1.1=f.1/\¬ bS f x.1 then l else bI (λx=>x.1.1) (f,4) l
theorem ui {l:List aM}{f:af}:du l f=bif l.any (λx=>x.1.1==f.1&&!decide (bS f x.1)) then l else bI (λx=>x.1.1) (f,4) l:=by
 unfold du;have:(∃ x∈l,x.1.1=f.1/\¬ bS f x.1)<->l.any (λx=>x.1.1==f.1&&!decide (bS f x.1))=true:=by
  rw[List.any_eq_true];simp
 by_cases h:∃ x∈l,x.1.1=f.1/\¬ bS f x.1
 ·rw[if_pos h,this.1 h];rfl
 ·rw[if_neg h,show l.any (λx=>x.1.1==f.1&&!decide (bS f x.1))=false by rw[Bool.eq_false_iff];exact λr=>h (this.2 r)];rfl
theorem z8 (K:Nat)(l:List aM)(f:af)(Y:l.length<=1048576)(I:Asc (λx:aM=>x.1.1) l)(X:1048577<K):Q155.f K (l,f,())=some ((du l f,()),()):=by
 have:=sO (step:=λrec a=>Q155.s0 K (l,f,()) rec a) (λx:aM=>x.1.1) (f,4) l (λx=>x.1.1==f.1&&!decide (bS f x.1)) (some ((l,()),())) (λM=>some ((M,()),())) (λr d i=>(r,d,(i:Int))) ?_ ?_ l.length 0 K [] false (by omega) (by omega) (by simp) (by simp)
 ·refine Ct (this:Q155.f K (l,f,())=_) ?_;rw[BY,ui,lg I];cases l.any (λx=>x.1.1==f.1&&!decide (bS f x.1)) <;> rfl
 ·intro rec r d i O J z;simp only[Q155.s0];rw[bq (by omega:(i:Int)<(BE l:Int)),ag O,ar i (by omega)];simp only[cond_true,BD];have y:decide ((r.length+[((f,4):af×Nat)].length)*40<=ak)=true:=szb _ _ _ (by omega) (by simp;omega);have R:decide (((r++[((f,4):aM)]).length+[l[i]].length)*40<=ak)=true:=szb _ _ _ (by omega) (by simp;omega);have H:decide ((r.length+[l[i]].length)*40<=ak)=true:=szb _ _ _ (by omega) (by simp;omega);by_cases u:l[i].1.1=f.1
  ·rw[show (l[i].1.1==f.1)=true by simpa using u,show (l[i].1.1 != f.1)=false by simpa using u,show decide (f.1<=l[i].1.1)=true from decide_eq_true (by omega)];simp only[cond_true,cond_false,CS,Cy,DR,BO];rw[show Q19.f K (f,l[i].1,())=_ from pG K f l[i].1];simp only[BD];cases decide (bS f l[i].1) with
   |false=>rfl
   |true =>
    simp only[BM,cond_false];cases d with
    |true=>simp only[BM,cond_false,BO]
    |false =>
     simp only[B8,cond_true];rw[y];rfl
  ·rw[show (l[i].1.1==f.1)=false by simpa using u,show (l[i].1.1 != f.1)=true by simpa using u];simp only[cond_true,cond_false,Cb];cases d with
   |true =>
    simp only[BM,cond_false,Cb,BO,C4];rw[H];rfl
   |false =>
    simp only[B8,cond_true,CS,Cq];cases decide (f.1<=l[i].1.1) with
    |true =>
     simp only[cond_true];rw[y];simp only[cond_true];rw[R];rfl
    |false =>
     simp only[cond_false,BO];rw[H];rfl
 ·intro rec r d J z;simp only[Q155.s0,aT];cases d with
  |true=>simp only[BM,cond_false,cond_true,BO]
  |false =>
   have:=z rfl;have y:decide ((r.length+[((f,4):af×Nat)].length)*40<=ak)=true:=szb _ _ _ (by omega) (by simp;omega);simp only[B8,cond_true,cond_false];rw[y];rfl
theorem xe (K:Nat)(l:List aM)(f:af)(Z:l.length<=1048576)(X:cQ l)(hf:bA f)(Y:1048577<K):Q68.f K (l,f,())=some ((du l f,()),()):=by
 simp only[Q68.f,Q2.f,Q3.f];obtain⟨b1,e1,e2⟩:=oV K l Z Y;have a3:=e2.2 X;subst a3;obtain⟨b2,e3,e4⟩:=ma K f;have a2:=e4.2 hf;subst a2;rw[e1];simp only[BD,BM,cond_false];rw[e3];simp only[BD,BM,cond_false];rw[d5 (by omega)];simp only[BD];rw[uQ K l Z Y];simp only[BD];have hA:Asc (λg:af=>g.1) (l.map (·.1)):=by
  have:=X.2;unfold Asc at this ⊢;rw[B6];exact this
 have r:(l.map (·.1)).length=l.length:=BR _;obtain⟨m,hm,h1⟩:=sM K (l.map (·.1)) f.1 (by rw[r];exact Z) hA Y;rw[h1];simp only[BD];have y:∀ i (h:i<l.length),(l.map (·.1))[i]'(by rw[r];exact h)=l[i].1:=λi h=>DH _
 have I:=hm.le;rw[r]at I;have lo:∀ i,(u:i<l.length)->i<m->l[i].1.1<f.1:=λi u J=>by have:=hm.lo i (by rw[r];exact u) J;rwa [y i u]at this
 have R:∀ i,(u:i<l.length)->m<=i->f.1<=l[i].1.1:=λi u J=>by have:=hm.hi i (by rw[r];exact u) J;rwa [y i u]at this
 by_cases he:∃ h:m<l.length,l[m].1.1=f.1
 ·obtain⟨z,H⟩:=he;rw[decide_eq_true ⟨by rw[r];exact z,by rw[y m z];exact H⟩];simp only[BM,cond_false,ag z,BD,BH];rw[show Q50.f K (f,l[m].1,())=_ from mO K f l[m].1 Y];simp only[BD];have a1:∀ x∈l,x.1.1=f.1->x=l[m]:=λx M e=>by
   obtain⟨i,u,rfl⟩:=BL M;have:=oQ X.2 u z (by show l[i].1.1=l[m].1.1;rw[e,H]);subst this;rfl
  by_cases ho:bS f l[m].1
  ·rw[decide_eq_true ((jE H.symm).2 ho),du,if_neg (λ⟨x,M,e,hn⟩=>hn (by rw[a1 x M e];exact ho)),kv (k:=λx:aM=>x.1.1) (x:=(f,4)) X.2 z H];rfl
  ·rw[decide_eq_false (λh=>ho ((jE H.symm).1 h)),du,if_pos ⟨l[m],BF z,H,ho⟩];rfl
 ·have O:∀ x∈l,x.1.1≠f.1:=λx M e=>by
   obtain⟨i,u,rfl⟩:=BL M;rcases Ck i m with h|h|h
   ·have:=lo i u h;omega
   ·subst h;exact he ⟨u,e⟩
   ·have h5:=R m (by omega) (BT _);have h6:l[m].1.1<l[i].1.1:=dt.1 X.2 m i (by omega) u h;omega
  rw[decide_eq_false (λ⟨z,H⟩=>he ⟨by rw[r]at z;exact z,by rw[y m (by rw[r]at z;exact z)]at H;exact H⟩),du,if_neg (λ⟨x,M,e,_⟩=>O x M e)];simp only[B8,cond_true];rw[mQ I (by omega) Z];simp only[BD];rw[jg (k:=λx:aM=>x.1.1) (x:=(f,4)) I lo (λi u a0=>by
   have h1:=R i u a0;have z:=O l[i] (BF u);show f.1<l[i].1.1;omega)]
theorem oc {α:Type}{k:α->Int}{x:α}:∀ {r:List α},kc k x true r=r.filter (λy=>k y != k x)
 |[]=>rfl
 |y::r=>by
  simp only[kc,BM,Cb,cond_false,C4,BQ,B9];rw[oc];cases k y != k x <;> rfl
theorem uj {α:Type}{k:α->Int}{x:α}{xs:List α}:bI k x (xs.filter λy=>!(k y==k x))=bI k x xs:=by
 simp only[bI,List.filter_filter];congr 1
 ·refine Cw λy _=>?_
  by_cases h:k y<k x
  ·rw[decide_eq_true h];simp;omega
  ·rw[decide_eq_false h];rfl
 ·congr 1;refine Cw λy _=>?_
  by_cases h:k x<k y
  ·rw[decide_eq_true h];simp;omega
  ·rw[decide_eq_false h];rfl
def mkD (r:Int)(f:af)(b:Int):bO:=(f.1,f.2.1,r,[b])
def cO (r:Int)(ds:List bO)(f:af)(b:Int):List bO:=if f.2.2.1=2 then bI (λd=>d.1) (mkD r f b) ds else ds.filter (λd=>!(d.1==f.1))
theorem z9 (K:Nat)(n:aa)(f:af)(b:Int)(Y:(aa.doubts n).length<=1048576)(H:Asc (λd:bO=>d.1) (aa.doubts n))(X:1048577<K) :
  Q156.f K (n,f,b,())=some ((cO n.2.2.2.2.2.1 (aa.doubts n) f b,()),()):=by
 have:=sO (step:=λrec a=>Q156.s0 K (n,f,b,()) rec a) (λd:bO=>d.1) (mkD n.2.2.2.2.2.1 f b) (aa.doubts n) (λ_=>false) none (λJ=>some ((J,()),())) (λr d i=>(r,d,(i:Int))) ?_ ?_ (aa.doubts n).length 0 K [] (f.2.2.1 != 2) (by omega) (by omega) (by simp) (by simp)
 ·refine Ct (this:Q156.f K (n,f,b,())=_) ?_;rw[BY,show (aa.doubts n).any (λ_=>false)=false by simp,cO];by_cases u:f.2.2.1=2
  ·rw[if_pos u,show (f.2.2.1 != 2)=false by simpa using u,lg H];rfl
  ·rw[if_neg u,show (f.2.2.1 != 2)=true by simpa using u,oc];rfl
 ·intro rec r d i O I z;simp only[Q156.s0];rw[bq (by omega:(i:Int)<(BE (aa.doubts n):Int)),ag O,ar i (by omega)];simp only[cond_true,cond_false,BD];have y:decide ((r.length+[mkD n.2.2.2.2.2.1 f b].length)*48<=ak)=true:=szb _ _ _ (by omega) (by simp;omega);have R:decide (((r++[mkD n.2.2.2.2.2.1 f b]).length+[(aa.doubts n)[i]].length)*48<=ak)=true:=szb _ _ _ (by omega) (by simp;omega);have M:decide ((r.length+[(aa.doubts n)[i]].length)*48<=ak)=true:=szb _ _ _ (by omega) (by simp;omega);show (bif !d then (bif decide (f.1<=(aa.doubts n)[i].1) then (bif decide ((r.length+[mkD n.2.2.2.2.2.1 f b].length)*48<=ak) then (bif (aa.doubts n)[i].1 != f.1 then (bif decide (((r++[mkD n.2.2.2.2.2.1 f b]).length+[(aa.doubts n)[i]].length)*48<=ak) then (rec ((r++[mkD n.2.2.2.2.2.1 f b])++[(aa.doubts n)[i]],true,((i+1:Nat):Int))) else none) else (rec (r++[mkD n.2.2.2.2.2.1 f b],true,((i+1:Nat):Int)))) else none) else (bif (aa.doubts n)[i].1 != f.1 then (bif decide ((r.length+[(aa.doubts n)[i]].length)*48<=ak) then (rec (r++[(aa.doubts n)[i]],d,((i+1:Nat):Int))) else none) else (rec (r,d,((i+1:Nat):Int))))) else (bif (aa.doubts n)[i].1 != f.1 then (bif decide ((r.length+[(aa.doubts n)[i]].length)*48<=ak) then (rec (r++[(aa.doubts n)[i]],d,((i+1:Nat):Int))) else none) else (rec (r,d,((i+1:Nat):Int)))))=rec ((r++(bif !d&&decide (f.1<=(aa.doubts n)[i].1) then [mkD n.2.2.2.2.2.1 f b] else []))++(bif (aa.doubts n)[i].1 != f.1 then [(aa.doubts n)[i]] else []),d||decide (f.1<=(aa.doubts n)[i].1),((i+1:Nat):Int));rw[y,R,M];cases d <;> cases decide (f.1<=(aa.doubts n)[i].1) <;> cases (aa.doubts n)[i].1 != f.1 <;> simp only[BM,B8,CS,Cb,C4,Cq,cond_true,cond_false,BO]
 ·intro rec r d I z;simp only[Q156.s0,aT];cases d with
  |true=>simp only[BM,cond_false,cond_true,BO]
  |false =>
   have:=z rfl;have y:decide ((r.length+[mkD n.2.2.2.2.2.1 f b].length)*48<=ak)=true:=szb _ _ _ (by omega) (by simp;omega);show (bif decide ((r.length+[mkD n.2.2.2.2.2.1 f b].length)*48<=ak) then some ((r++[mkD n.2.2.2.2.2.1 f b],()),()) else none)=some ((r++[mkD n.2.2.2.2.2.1 f b],()),());rw[y];rfl
theorem Aa (K:Nat)(t:List bO)(r:Int)(ht:t.length<=1048576)(I:Asc (λd:bO=>d.1) t)(h7:∀ d∈t,InP d.1 0 7)(Y:InP r 0 7)(hK:1048577<K) :
  ∃ m,m<=t.length/\(∀ i,(h:i<t.length)->i<m->t[i].1<r)/\(∀ i,(h:i<t.length)->m<=i->r<=t[i].1)/\∃ b,Q71.f K (t,r,(λH=>(Q72.f K (H.1,H.2.1,())).map λy=>y.1.1),())=some ((((m:Nat):Int),b,()),()):=by
 let ks:Nat->Int:=λi=>if h:i<t.length then t[i].1 else 0
 have u:∀ i (h:i<t.length),ks i=t[i].1:=λi h=>by simp[ks,h]
 let z:Nat->Option ((Int×Bool×Unit)×Unit):=λm=>some ((((m:Nat):Int),decide (∃ h:m<t.length,t[m].1=r),()),())
 have R:∀ d∈t,((Q72.f K (d,r,())).map λy=>y.1.1)=some (d.1-r):=λd hd=>by
  obtain⟨a1,a2⟩:=h7 d hd;obtain⟨a3,a4⟩:=Y;simp only[Q72.f];rw[aG (by omega) (by omega)];rfl
 have:=wY (step:=λrec a=>Q71.s0 K (t,r,(λH=>(Q72.f K (H.1,H.2.1,())).map λy=>y.1.1),()) rec a) (ks:=ks) (n:=t.length) (t:=r) z ht
  (λi j M X=>by
   rw[u i (by omega),u j X];exact dt.1 I i j (by omega) X M) ?_ ?_ t.length K 0 t.length (by omega) (BU _) (BT _) (by omega) (λi J=>by omega) (λi J Y=>by omega)
 ·obtain⟨m,h1,h2,Z,h4⟩:=this;exact⟨m,h1,λi h J=>by rw[<- u i h];exact h2 i J,λi h J=>by rw[<- u i h];exact Z i J h,_,h4⟩
 ·intro rec a b a0 hb;have O:(a+b) / 2<t.length:=by omega
  simp only[Q71.s0];rw[decide_eq_true (by omega:(a:Int)<(b:Int)),uN (by omega)];simp only[cond_true];rw[ag O];simp only[BD,R _ (BF O)];rw[u _ O,ar _ (by omega)];by_cases h:t[(a+b) / 2].1<r
  ·rw[if_pos h,decide_eq_true (by omega:t[(a+b) / 2].1-r<0)];rfl
  ·rw[if_neg h,decide_eq_false (by omega:¬ t[(a+b) / 2].1-r<0)];rfl
 ·intro rec a ha;simp only[Q71.s0];rw[decide_eq_false (by omega)];simp only[cond_false];by_cases h:a<t.length
  ·rw[decide_eq_true (by omega:(a:Int)<(BE t:Int)),ag h];simp only[cond_true,BD,R _ (BF h)];have:(t[a].1-r==0)=decide (∃ h:a<t.length,t[a].1=r):=by
    rw[CO];simp only[beq_iff_eq,decide_eq_true_eq];exact⟨λe=>⟨h,by omega⟩,λ⟨_,e⟩=>by omega⟩
   rw[this]
  ·rw[decide_eq_false (by omega:¬ (a:Int)<(BE t:Int))];simp only[cond_false,z];rw[decide_eq_false (λ⟨h',_⟩=>h h')]
def iR (n:aa)(t:List af)(c:List aM)(ds:List bO):aa :=
 (n.1,n.2.1,n.2.2.1,n.2.2.2.1,n.2.2.2.2.1,n.2.2.2.2.2.1,n.2.2.2.2.2.2.1,n.2.2.2.2.2.2.2.1,t,c,n.2.2.2.2.2.2.2.2.2.2.1,ds,n.2.2.2.2.2.2.2.2.2.2.2.2)
def kd (n:aa)(f:af):Bool:=decide (∃ g∈aa.table n,g.1=f.1/\g.2.1=f.2.1/\g.2.2.1=f.2.2.1)
def sayOf (n:aa)(f:af)(b:Int):aa :=
 bif (bT (aa.table n) f).2 then iR n (bT (aa.table n) f).1 (du (aa.cast n) f) (bif kd n f then aa.doubts n else cO n.2.2.2.2.2.1 (aa.doubts n) f b) else n
structure b8 (n:aa):Prop where
 table:az (aa.table n)
 cast:cQ (aa.cast n)
 asc:Asc (λd:bO=>d.1) (aa.doubts n)
 inp:∀ d∈aa.doubts n,InP d.1 0 7
 lt:(aa.table n).length<=1048576
 lc:(aa.cast n).length<=1048576
 ld:(aa.doubts n).length<=1048576
theorem sQ {n:aa}{f g:af}(u:Asc (λg:af=>g.1) (aa.table n))(r:g∈aa.table n)(e:g.1=f.1):kd n f=(g.2.1==f.2.1&&g.2.2.1==f.2.2.1):=by
 rw[CO,kd,decide_eq_true_eq,CK,beq_iff_eq,beq_iff_eq];constructor
 ·rintro⟨x,hx,h1,h2,h3⟩;have:=ii u hx r (by rw[h1,e]);subst this;exact⟨h2,h3⟩
 ·rintro⟨h1,h2⟩;exact⟨g,r,e,h1,h2⟩
theorem sR {n:aa}{f:af}(h:∀ g∈aa.table n,g.1≠f.1):kd n f=false :=
 decide_eq_false λ⟨g,r,e,_⟩=>h g r e
theorem pH (K:Nat)(n:aa)(f:af)(b:Int)(h:b8 n)(r:1048577<K):Q194.f K (n,f,b,())=some ((sayOf n f b,()),()):=by
 simp only[Q194.f,zcp8];rw[show Q154.f K (n.2.2.2.2.2.2.2.2.1,f,())=_ from put_s K (aa.table n) f h.lt h.table.2 r];simp only[BD];cases z:(bT (aa.table n) f).2 with
 |false =>
  simp only[sayOf,z];rfl
 |true =>
  simp only[sayOf,z,BM,cond_false,cond_true];obtain⟨o,J,M⟩:=fC K (aa.table n) f.1 h.lt r;rw[show Q16.f K (n.2.2.2.2.2.2.2.2.1,f.1,())=_ from M];simp only[BD];have y:=z9 K (n.1,n.2.1,n.2.2.1,n.2.2.2.1,n.2.2.2.2.1,n.2.2.2.2.2.1,n.2.2.2.2.2.2.1,n.2.2.2.2.2.2.2.1,(bT (aa.table n) f).1,du (aa.cast n) f,n.2.2.2.2.2.2.2.2.2.2) f b h.ld h.asc r;have I:=z8 K (aa.cast n) f h.lc h.cast.2 r;cases J with
  |at_ i H e =>
   simp only;rw[sQ h.table.2 (BF H) e,decide_eq_true (by omega:((i:Nat):Int)>=0)];simp only[cond_true];rw[show idx n.2.2.2.2.2.2.2.2.1 (i:Int)=some (aa.table n)[i] from ag H];simp only[BD];rw[show Q155.f K (n.2.2.2.2.2.2.2.2.2.1,f,())=_ from I];simp only[BD];rw[y];cases (aa.table n)[i].2.1==f.2.1 with
   |true =>
    cases (aa.table n)[i].2.2.1==f.2.2.1 <;> rfl
   |false=>rfl
  |no u =>
   simp only;rw[sR u,decide_eq_false (by omega:¬ (-1:Int)>=0)];simp only[cond_false];rw[show Q155.f K (n.2.2.2.2.2.2.2.2.2.1,f,())=_ from I];simp only[BD];rw[y];rfl
theorem mb {α:Type}{k:α->Int}{xs:List α}(h:Asc k xs)(p:α->Bool):Asc k (xs.filter p):=Cc p h
theorem Ab {R:Type}(K:Nat)(r:Int)(ds:List bO)(f:af)(b:Int)(G:List bO->Option R)(O:ds.length<=1048576)(Z:Asc (λd:bO=>d.1) ds)(h7:∀ d∈ds,InP d.1 0 7)(hf:bA f)(hK:1048577<K) :
  ((Q4.f K (ds,(λJ=>(Q70.f K (J.1,f,())).map λy=>y.1.1),())).bind λI=>bif f.2.2.1==2 then ((Q71.f K (I.1.1,f.1,(λM=>(Q72.f K (M.1,M.2.1,())).map λy=>y.1.1),())).bind λy7=>(Q5.f K (I.1.1,y7.1.1,[mkD r f b],())).bind λy8=>G y8.1.1) else G I.1.1)=G (cO r ds f b):=by
 rw[show Q4.f K (ds,(λJ=>(Q70.f K (J.1,f,())).map λy=>y.1.1),())=some ((ds.filter (λd=>!(d.1==f.1)),()),()) by
  simp only[Q4.f];exact q9 _ O (λd _=>rfl)]
 simp only[BD,cO];by_cases z:f.2.2.1=2
 ·rw[if_pos z,show (f.2.2.1==2)=true by simpa using z];simp only[cond_true];have u:(ds.filter (λd=>!(d.1==f.1))).length<=1048576:=BW (B7 _ _) O;obtain⟨m,X,lo,hi,b',e⟩:=Aa K (ds.filter (λd=>!(d.1==f.1))) f.1 u (mb Z _) (λd hd=>h7 d (BK.1 hd).1) hf.1 hK;rw[e];simp only[BD];rw[show Q5.f K (ds.filter (λd=>!(d.1==f.1)),(m:Int),[mkD r f b],())=some (((ds.filter (λd=>!(d.1==f.1))).take m++[mkD r f b]++(ds.filter (λd=>!(d.1==f.1))).drop m,()),()) by
   simp only[Q5.f];exact mQ X (by omega) u]
  simp only[BD];have:=jg (k:=λd:bO=>d.1) (x:=mkD r f b) X lo (λi h H=>by
   have h1:=hi i h H;have Y:(!((ds.filter (λd=>!(d.1==f.1)))[i].1==f.1))=true:=(BK.1 (BF h)).2;have h4:(ds.filter (λd=>!(d.1==f.1)))[i].1≠f.1:=by simpa using Y
   show f.1<_;omega)
  rw[this];exact congrArg G (uj (k:=λd:bO=>d.1) (x:=mkD r f b))
 ·rw[if_neg z,show (f.2.2.1==2)=false by simpa using z];rfl
theorem zJ (K:Nat)(n:aa)(f:af)(b:Int)(h:b8 n)(y:bA f)(u:1048577<K):Q73.f K (n,f,b,())=some ((),(sayOf n f b,())):=by
 simp only[Q73.f,zcp8];have M:∃ g:af,∃ H,Q37.f K (aa.table n,f.1,())=some ((g,H,()),())/\kd n f=(g.2.2.1==f.2.2.1&&g.2.1==f.2.1):=by
  rcases jD K (aa.table n) f.1 h.lt u with ⟨r,_⟩|⟨_,⟨g,X,e,r⟩|⟨O,r⟩⟩
  ·exact absurd h.table r
  ·exact⟨g,_,r,by rw[sQ h.table.2 X e,Bool.and_comm]⟩
  ·refine⟨_,_,r,?_⟩;rw[sR O,show ((0:Int)==f.2.2.1)=false by have:=y.2.2.1;simp;omega];rfl
 obtain⟨g,H,r,J⟩:=M;rw[show Q37.f K (n.2.2.2.2.2.2.2.2.1,f.1,())=_ from r];simp only[BD];rw[show Q67.f K (n.2.2.2.2.2.2.2.2.1,f,())=_ from zI K (aa.table n) f h.lt h.table.2 u];simp only[BD];cases z:(bT (aa.table n) f).2 with
 |false =>
  simp only[sayOf,z];rfl
 |true =>
  simp only[sayOf,z,BM,cond_false,cond_true];rw[show Q68.f K (n.2.2.2.2.2.2.2.2.2.1,f,())=_ from xe K (aa.cast n) f h.lc h.cast y u];simp only[BD];have I:=Ab K n.2.2.2.2.2.1 (aa.doubts n) f b (λR=>some ((),(iR n (bT (aa.table n) f).1 (du (aa.cast n) f) R,()))) h.ld h.asc h.inp y u;rw[J];cases g.2.2.1==f.2.2.1 with
  |true =>
   cases g.2.1==f.2.1 with
   |true=>rfl
   |false=>exact I
  |false=>exact I
theorem iS {α:Type}{k:α->Int}{xs:List α}(h:Asc k xs)(z:∀ x∈xs,InP (k x) 0 7):xs.length<=8:=by
 have:=(jf (xs.map k) [0,1,2,3,4,5,6,7] (by unfold Asc at h;rw[B6];exact h) (by decide) (λy u=>by
  obtain⟨x,r,rfl⟩:=BX.1 u;obtain⟨I,H⟩:=z x r;simp only[CH,Co,or_false];omega)).1
 rw[BR]at this;exact this
theorem gV (t:List af)(f:af):(bT t f).1=t\/(bT t f).1=bI (λg=>g.1) f t:=by
 unfold bT;split
 ·split
  ·exact .inr rfl
  ·exact .inl rfl
 ·exact .inr rfl
theorem kx {t:List af}{f:af}(h:az t)(u:bA f):az (bT t f).1:=by
 rcases gV t f with e|e
 ·rw[e];exact h
 ·rw[e];refine⟨λg r=>?_,fk h.2⟩;rcases a8.1 r with rfl|⟨y,_⟩
  ·exact u
  ·exact h.1 g y
theorem pI {l:List aM}{f:af}(h:cQ l)(u:bA f):cQ (du l f):=by
 unfold du;split
 ·exact h
 ·refine⟨λx r=>?_,fk h.2⟩;rcases a8.1 r with rfl|⟨y,_⟩
  ·exact⟨u,show (1:Int)<=4 by omega,show (4:Int)<=4 by omega⟩
  ·exact h.1 x y
theorem ky {r:Int}{ds:List bO}{f:af}{b:Int}{d:bO}(h:d∈cO r ds f b):d=mkD r f b\/d∈ds:=by
 unfold cO at h;split at h
 ·rcases a8.1 h with h|h
  ·exact .inl h
  ·exact .inr h.1
 ·exact .inr (BK.1 h).1
theorem sS {r:Int}{ds:List bO}{f:af}{b:Int}(h:Asc (λd:bO=>d.1) ds):Asc (λd:bO=>d.1) (cO r ds f b):=by
 unfold cO;split
 ·exact fk h
 ·exact mb h _
theorem iF (n:aa)(f:af)(b:Int):∃ t c r,sayOf n f b=iR n t c r/\(t=aa.table n\/t=(bT (aa.table n) f).1)/\(c=aa.cast n\/c=du (aa.cast n) f)/\(r=aa.doubts n\/r=cO n.2.2.2.2.2.1 (aa.doubts n) f b):=by
 unfold sayOf;cases (bT (aa.table n) f).2 with
 |false=>exact⟨aa.table n,aa.cast n,aa.doubts n,rfl,.inl rfl,.inl rfl,.inl rfl⟩
 |true =>
  cases kd n f with
  |true=>exact⟨_,_,_,rfl,.inr rfl,.inr rfl,.inl rfl⟩
  |false=>exact⟨_,_,_,rfl,.inr rfl,.inr rfl,.inr rfl⟩
theorem b8.mk' {n:aa}(r:az (aa.table n))(u:cQ (aa.cast n))(y:Asc (λd:bO=>d.1) (aa.doubts n))(z:∀ d∈aa.doubts n,InP d.1 0 7):b8 n where
 table:=r
 cast:=u
 asc:=y
 inp:=z
 lt:=BW (iS r.2 (λg I=>(r.1 g I).1)) (by decide)
 lc:=BW (iS u.2 (λx H=>(u.1 x H).1.1)) (by decide)
 ld:=BW (iS y z) (by decide)
theorem jh {n:aa}{f:af}{b:Int}(h:b8 n)(u:bA f):b8 (sayOf n f b):=by
 obtain⟨t,c,y,e,I,H,z⟩:=iF n f b;rw[e];refine b8.mk' ?_ ?_ ?_ ?_
 ·show az t;rcases I with rfl|rfl
  ·exact h.table
  ·exact kx h.table u
 ·show cQ c;rcases H with rfl|rfl
  ·exact h.cast
  ·exact pI h.cast u
 ·show Asc _ y;rcases z with rfl|rfl
  ·exact h.asc
  ·exact sS h.asc
 ·show ∀ d∈y,InP d.1 0 7;rcases z with rfl|rfl
  ·exact h.inp
  ·intro d r;rcases ky r with rfl|r
   ·exact u.1
   ·exact h.inp d r
theorem yJ {n:aa}{f:af}{b:Int}(h:∀ d∈aa.doubts n,d.2.2.2.length<=1048576):∀ d∈aa.doubts (sayOf n f b),d.2.2.2.length<=1048576:=by
 obtain⟨t,c,u,e,_,_,y⟩:=iF n f b;rw[e];show ∀ d∈u,_;rcases y with rfl|rfl
 ·exact h
 ·intro d r;rcases ky r with rfl|r
  ·exact Nat.succ_le_of_lt (by decide)
  ·exact h d r
theorem UpP.say {n:aa}(h:UpP n):b8 n:=by
 obtain⟨u,_,_,⟨H,_⟩,_,r,_⟩:=h;refine b8.mk' u H r.2.1 λd y=>?_
 obtain⟨f,z,e,_⟩:=(r.1 d y).1;rw[<- e];exact (u.1 f z).1
theorem lH {α β A R:Type}(t:List α)(p:α->Bool)(g:α->β)(S:List β->Nat->A)(u:List β->Option R){step:(A->Option R)->A->Option R}
  (h:∀ (rec:A->Option R) (r:List β) (i:Nat) (O:i<t.length),r.length<=i->step rec (S r i)=rec (S (bif p t[i] then r++[g t[i]] else r) (i+1)))
  (z:∀ (rec:A->Option R) (r:List β),r.length<=t.length->step rec (S r t.length)=u r) {k:Nat} (I:t.length<k) :
  ae step k (S [] 0)=u ((t.filter p).map g):=by
 have:∀ (d i k:Nat) (r:List β),i+d=t.length->d<k->r.length<=i->ae step k (S r i)=u (r++((t.drop i).filter p).map g):=by
  intro d;induction d with
  |zero =>
   intro i k r O I H;obtain⟨k,rfl⟩:∃ J,k=J+1:=⟨k-1,by omega⟩;have:i=t.length:=by omega
   subst this;show step (ae step k) _=_;rw[z _ _ H];simp
  |succ d M =>
   intro i k r O I H;obtain⟨k,rfl⟩:∃ J,k=J+1:=⟨k-1,by omega⟩;have y:i<t.length:=by omega
   show step (ae step k) _=_;rw[h _ _ _ y H,B5 y,B9];cases p t[i] with
   |true =>
    simp only[cond_true,if_true,Cx];rw[M (i+1) k _ (by omega) (by omega) (by simp;omega),CE];rfl
   |false =>
    simp only[cond_false];rw[M (i+1) k _ (by omega) (by omega) (by omega)];rfl
 have:=this t.length 0 k [] (by omega) I (BT _)
 rwa [BY,BQ]at this
def sU:aa:=(0,false,false,false,0,0,0,0,[],[],(0,0,0,false),[],(0,0,0,0),[],[])
theorem uk:NB sU where
 table:=BU _
 cast:=BU _
 doubts:=BU _
 by_:=λd r=>absurd r Co
 places:=BU _
 trips:=λd r=>absurd r Co
 others:=BU _
 facts:=λd r=>absurd r Co
theorem szw (a b c:Nat)(r:c<=128)(h:a+b<=2097152):decide ((a+b)*c<=ak)=true:=by
 have:=Ci h r;exact decide_eq_true (by unfold ak;omega)
def kR (n:aa):aa:=(n.1,n.2.1,true,n.2.2.2)
def nO (r:Int)(n:aa)(to:Int):aq:=(1,r,n.1,to,0,n.1,aa.coord n,aa.table n)
theorem uT (K:Nat)(n:aa)(r to:Int)(u:(aa.table n).length<=1048576):Q101.f K (n,r,to,())=some ((nO r n to,()),()):=by
 simp only[Q101.f,zcp4,Q81.f,BD,Q0.f];rw[d5 (by show (aa.table n).length*_<=_;omega)];rfl
theorem nP (K:Nat)(n:aa)(r to:Int)(u:(aa.table n).length<=1048576):Q153.f K (n,r,to,0,n.1,aa.table n,())=some ((nO r n to,()),()):=by
 simp only[Q153.f];rw[szb _ _ _ (by omega) (by show (BE ([]:List af))+(aa.table n).length<=_;simp;omega)];rfl
def cN (f:af):Bool:=f.2.2.1==1||f.2.2.1==2
theorem uU (K:Nat)(t:List af)(f:af)(z:az t)(y:t.length<=1048576)(u:f∈t)(H:1048577<K):Q196.f K (t,f.1,())=rb (cN f):=by
 simp only[Q196.f];obtain⟨o,I,J⟩:=fC K t f.1 y H;rw[J];simp only[BD];cases I with
 |at_ i r e =>
  simp only;rw[decide_eq_true (by omega:((i:Nat):Int)>=0),ag r];simp only[cond_true,BD];rw[ii z.2 (BF r) u e,cN];cases f.2.2.1==1 <;> rfl
 |no h=>exact absurd rfl (h f u)
def sW (n:aa)(f:af):Bool:=f.1 != n.1&&cN f
def lI (n:aa):List aq:=((aa.table n).filter (sW n)).map λf=>nO 5 n f.1
def mR (n:aa):aa:=kR (sayOf n (n.1,n.2.2.2.2.1,4,n.2.2.2.1) n.1)
theorem sX (K:Nat)(x:ab Q212.ps)(m:aa)(I:az (aa.table m))(u:(aa.table m).length<=1048576)(J:1048577<K) :
  Q212.l0 K x ([],0,m.1,m.2.1,m.2.2.2.1,m.2.2.2.2.1,m.2.2.2.2.2.1,m.2.2.2.2.2.2.1,m.2.2.2.2.2.2.2.1,m.2.2.2.2.2.2.2.2.1,m.2.2.2.2.2.2.2.2.2.1,m.2.2.2.2.2.2.2.2.2.2.1.1,m.2.2.2.2.2.2.2.2.2.2.1.2.1,m.2.2.2.2.2.2.2.2.2.2.1.2.2.1,m.2.2.2.2.2.2.2.2.2.2.1.2.2.2,m.2.2.2.2.2.2.2.2.2.2.2.1,m.2.2.2.2.2.2.2.2.2.2.2.2.1.1,m.2.2.2.2.2.2.2.2.2.2.2.2.1.2.1,m.2.2.2.2.2.2.2.2.2.2.2.2.1.2.2.1,m.2.2.2.2.2.2.2.2.2.2.2.2.1.2.2.2,m.2.2.2.2.2.2.2.2.2.2.2.2.2.1,m.2.2.2.2.2.2.2.2.2.2.2.2.2.2)=some ((kR m,lI (kR m),()),()):=by
 refine lH (step:=λrec a=>Q212.s0 K x rec a) (aa.table m) (sW (kR m)) (λf=>nO 5 (kR m) f.1) (λr i=>(r,(i:Int),m.1,m.2.1,m.2.2.2.1,m.2.2.2.2.1,m.2.2.2.2.2.1,m.2.2.2.2.2.2.1,m.2.2.2.2.2.2.2.1,m.2.2.2.2.2.2.2.2.1,m.2.2.2.2.2.2.2.2.2.1,m.2.2.2.2.2.2.2.2.2.2.1.1,m.2.2.2.2.2.2.2.2.2.2.1.2.1,m.2.2.2.2.2.2.2.2.2.2.1.2.2.1,m.2.2.2.2.2.2.2.2.2.2.1.2.2.2,m.2.2.2.2.2.2.2.2.2.2.2.1,m.2.2.2.2.2.2.2.2.2.2.2.2.1.1,m.2.2.2.2.2.2.2.2.2.2.2.2.1.2.1,m.2.2.2.2.2.2.2.2.2.2.2.2.1.2.2.1,m.2.2.2.2.2.2.2.2.2.2.2.2.1.2.2.2,m.2.2.2.2.2.2.2.2.2.2.2.2.2.1,m.2.2.2.2.2.2.2.2.2.2.2.2.2.2)) (λz=>some ((kR m,z,()),())) ?_ ?_ (by omega)
 ·intro rec r i y H;simp only[Q212.s0,zceae5f];rw[show decide ((i:Int)<(BE m.2.2.2.2.2.2.2.2.1:Int))=true from bq (by omega:(i:Int)<(BE (aa.table m):Int)),show idx m.2.2.2.2.2.2.2.2.1 (i:Int)=some (aa.table m)[i] from ag y,ar i (by omega)];simp only[cond_true,BD,sW];rw[show (kR m).1=m.1 from rfl];cases M:(aa.table m)[i].1 != m.1 with
  |false=>rfl
  |true =>
   simp only[cond_true,CS];rw[show Q196.f K (m.2.2.2.2.2.2.2.2.1,(aa.table m)[i].1,())=_ from uU K (aa.table m) _ I u (BF y) J];simp only[BD];cases cN (aa.table m)[i] with
   |false=>rfl
   |true =>
    simp only[cond_true];refine (congrArg (λo=>CI o _) (nP K (kR m) 5 (aa.table m)[i].1 u)).trans ?_;simp only[BD];rw[szw _ _ _ (by omega) (by simp;omega)];rfl
 ·intro rec r H;simp only[Q212.s0,zceae5f];rw[show decide ((BE (aa.table m):Int)<(BE m.2.2.2.2.2.2.2.2.1:Int))=false from aT _];rfl
theorem vJ {n:aa}(r:iP n):bA (n.1,n.2.2.2.2.1,4,n.2.2.2.1):=⟨r.1,r.2.2.2.2.1,show (1:Int)<=4 by omega,show (4:Int)<=4 by omega⟩
theorem Ac (K:Nat)(n:aa)(J:NB n)(z:iP n)(y:n.2.1=true)(I:n.2.2.1=false)(u:1048577<K):Q212.f K (n,())=some ((mR n,lI (mR n),()),()):=by
 have r:=(z.up y).say;have H:=jh (b:=n.1) r (vJ z);simp only[Q212.f,Q212.pre];rw[y,I];simp only[BM,cond_false];rw[pH K n _ n.1 r u];exact sX K _ _ H.table H.lt u
theorem kS {α r A R:Type}(ds:List α)(st:r->α->r)(Inv:r->Prop)(S:r->Nat->A)(u:r->Option R){step:(A->Option R)->A->Option R}(n:r)(X:Inv n)
  (h:∀ (rec:A->Option R) (m:r) (i:Nat) (M:i<ds.length),Inv m->step rec (S m i)=rec (S (st m ds[i]) (i+1))/\Inv (st m ds[i]))
  (z:∀ (rec:A->Option R) (m:r),Inv m->step rec (S m ds.length)=u m) {k:Nat} (H:ds.length<k):ae step k (S n 0)=u (ds.foldl st n):=by
 have:∀ (d i k:Nat) (m:r),i+d=ds.length->d<k->Inv m->ae step k (S m i)=u ((ds.drop i).foldl st m):=by
  intro d;induction d with
  |zero =>
   intro i k m M H I;obtain⟨k,rfl⟩:∃ J,k=J+1:=⟨k-1,by omega⟩;have:i=ds.length:=by omega
   subst this;show step (ae step k) _=_;rw[z _ _ I,Cz];rfl
  |succ d Y =>
   intro i k m M H I;obtain⟨k,rfl⟩:∃ J,k=J+1:=⟨k-1,by omega⟩;have y:i<ds.length:=by omega
   show step (ae step k) _=_;obtain⟨Z,O⟩:=h (ae step k) m i y I;rw[Z,B5 y];exact Y (i+1) k _ (by omega) (by omega) O
 have:=this ds.length 0 k n (by omega) H X
 rwa [BY]at this
theorem kz {α r:Type}{st:r->α->r}{Inv:r->Prop}:∀ {ds:List α} {n:r},Inv n->(∀ m,∀ d∈ds,Inv m->Inv (st m d))->Inv (ds.foldl st n)
 |[],_,h,_=>h
 |d::ds,n,h,y=>kz (ds:=ds) (y n d (by simp) h) (λm z u=>y m z (by simp[u]))
def aD (t:List af)(r:Int):af:=(t.find? λg=>g.1==r).getD (0,0,0,false)
theorem jH {t:List af}(u:Asc (λg:af=>g.1) t){f:af}(y:f∈t):aD t f.1=f:=by
 obtain⟨i,r,e⟩:=BL y;unfold aD;rw[show t.find? (λg=>g.1==f.1)=some t[i] from oX u r (by rw[e]),e];rfl
theorem jI {t:List af}{r:Int}(h:∀ g∈t,g.1≠r):aD t r=(0,0,0,false):=by
 unfold aD;rw[show t.find? (λg=>g.1==r)=none from nN h];rfl
theorem iT (K:Nat)(t:List af)(r:Int)(y:az t)(z:t.length<=1048576)(J:1048577<K):∃ b,Q37.f K (t,r,())=some ((aD t r,b,()),()):=by
 rcases jD K t r z J with ⟨u,_⟩|⟨_,⟨g,H,e,u⟩|⟨I,u⟩⟩
 ·exact absurd y u
 ·refine⟨true,?_⟩;rw[u,<- e,jH y.2 H]
 ·refine⟨false,?_⟩;rw[u,jI I]
theorem sY (K:Nat)(t:List af)(r:Int)(y:az t)(I:t.length<=1048576)(H:1048577<K):Q196.f K (t,r,())=rb (cN (aD t r)):=by
 by_cases h:∃ f∈t,f.1=r
 ·obtain⟨f,u,rfl⟩:=h;rw[uU K t f y I u H,jH y.2 u]
 ·have z:∀ g∈t,g.1≠r:=λg J e=>h ⟨g,J,e⟩
  simp only[Q196.f];obtain⟨o,O,R⟩:=fC K t r I H;rw[R,jI z];cases O with
  |at_ i M e=>exact absurd e (z _ (BF M))
  |no _=>rfl
theorem sZ (K:Nat)(n:aa)(r:Int)(y:az (aa.table n))(u:(aa.table n).length<=1048576)(z:1048577<K):Q79.f K (n,r,())=rb (cN (aD (aa.table n) r)):=by
 simp only[Q79.f,Q78.f];obtain⟨b,J⟩:=iT K (aa.table n) r y u z;rw[show Q37.f K (n.2.2.2.2.2.2.2.2.1,r,())=_ from J];simp only[BD];obtain⟨b,I,H⟩:=fA K (aD (aa.table n) r).2.2.1 1 2;rw[I];have:b=cN (aD (aa.table n) r):=by
  rw[CO,H,cN,Bool.or_eq_true,beq_iff_eq,beq_iff_eq];show (1<=(aD (aa.table n) r).2.2.1/\(aD (aa.table n) r).2.2.1<=2)<->_;omega
 rw[this];rfl
theorem dn (n:aa)(f:af)(b:Int):(sayOf n f b).1=n.1/\(sayOf n f b).2.1=n.2.1/\(sayOf n f b).2.2.1=n.2.2.1/\(sayOf n f b).2.2.2.1=n.2.2.2.1/\(sayOf n f b).2.2.2.2.1=n.2.2.2.2.1/\(sayOf n f b).2.2.2.2.2.1=n.2.2.2.2.2.1/\(sayOf n f b).2.2.2.2.2.2.1=n.2.2.2.2.2.2.1/\(sayOf n f b).2.2.2.2.2.2.2.1=n.2.2.2.2.2.2.2.1/\aa.probe (sayOf n f b)=aa.probe n/\(sayOf n f b).2.2.2.2.2.2.2.2.2.2.2.2=n.2.2.2.2.2.2.2.2.2.2.2.2:=by
 obtain⟨t,c,r,e,_⟩:=iF n f b;rw[e];exact⟨rfl,rfl,rfl,rfl,rfl,rfl,rfl,rfl,rfl,rfl⟩
theorem mS {t:List af}{f g:af}(r:g∈t):∃ u∈(bT t f).1,u.1=g.1:=by
 rcases gV t f with e|e
 ·rw[e];exact⟨g,r,rfl⟩
 ·rw[e];by_cases h:g.1=f.1
  ·exact⟨f,a8.2 (.inl rfl),h.symm⟩
  ·exact⟨g,a8.2 (.inr ⟨r,h⟩),rfl⟩
theorem jJ {n:aa}{f:af}{b:Int}{g:af}(r:g∈aa.table n):∃ u∈aa.table (sayOf n f b),u.1=g.1:=by
 obtain⟨t,c,z,e,y,_⟩:=iF n f b;rw[e];rcases y with rfl|rfl
 ·exact⟨g,r,rfl⟩
 ·exact mS r
def jS (u r:Int)(len:Nat):Bool:=decide (u-r>=if 6-(len:Int)+1<3 then 3 else 6-(len:Int)+1)
def iU (f:af):af:=(f.1,f.2.1,3,f.2.2.2)
def c6 (n:aa)(d:bO):aa:=bif jS n.2.2.2.2.2.1 d.2.2.1 d.2.2.2.length then sayOf n (iU (aD (aa.table n) d.1)) n.1 else n
def cW (n:aa):aa:=(aa.doubts n).foldl c6 n
theorem due_s (K:Nat)(r:Int)(d:bO)(y:0<=d.2.2.1)(H:d.2.2.1<=r)(z:r<=1000000)(u:d.2.2.2.length<=1048576):Q193.f K (r,d,())=rb (jS r d.2.2.1 d.2.2.2.length):=by
 simp only[Q193.f];rw[aG (n:=6-(BE d.2.2.2:Int)) (by omega) (by omega),aG (n:=6-(BE d.2.2.2:Int)+1) (by omega) (by omega),aG (n:=r-d.2.2.1) (by omega) (by omega)];unfold jS;by_cases h:6-(BE d.2.2.2:Int)+1<3
 ·rw[decide_eq_true h,if_pos h];rfl
 ·rw[decide_eq_false h,if_neg h];rfl
theorem Ad (K:Nat)(a b c:Int)(len:Nat)(r:len<=1048576):Q66.f K ((a,b,c,len),())=some ((if 6-(len:Int)+1<3 then 3 else 6-(len:Int)+1,()),()):=by
 simp only[Q66.f];rw[aG (n:=6-(len:Int)) (by omega) (by omega),aG (n:=6-(len:Int)+1) (by omega) (by omega)];by_cases h:6-(len:Int)+1<3
 ·rw[decide_eq_true h,if_pos h];rfl
 ·rw[decide_eq_false h,if_neg h];rfl
structure jK (ds:List bO) (now:Int) (n:aa):Prop where
 ok:b8 n
 key:∀ d∈ds,∃ f∈aa.table n,f.1=d.1
 now_:n.2.2.2.2.2.1=now
theorem nQ {f:af}(h:bA f):bA (iU f):=⟨h.1,h.2.1,show (1:Int)<=3 by omega,show (3:Int)<=4 by omega⟩
theorem da {t:List af}{r:Int}(y:az t)(h:∃ f∈t,f.1=r):bA (aD t r)/\(aD t r).1=r/\aD t r∈t:=by
 obtain⟨f,u,rfl⟩:=h;rw[jH y.2 u];exact⟨y.1 f u,rfl,u⟩
theorem lh {ds:List bO}{r:Int}{n:aa}{d:bO}(h:jK ds r n)(H:d∈ds):jK ds r (c6 n d):=by
 unfold c6;cases jS n.2.2.2.2.2.1 d.2.2.1 d.2.2.2.length with
 |false=>exact h
 |true =>
  have M:=nQ (da h.ok.table (h.key d H)).1;refine⟨jh h.ok M,λO u=>?_,(dn n _ _).2.2.2.2.2.1.trans h.now_⟩;obtain⟨g,I,e⟩:=h.key O u;obtain⟨z,y,J⟩:=jJ (f:=iU (aD (aa.table n) d.1)) (b:=n.1) I;exact⟨z,y,J.trans e⟩
theorem xf (K:Nat)(n:aa)(h:jK (aa.doubts n) n.2.2.2.2.2.1 n)(Y:∀ d∈aa.doubts n,0<=d.2.2.1/\d.2.2.1<=n.2.2.2.2.2.1/\d.2.2.2.length<=1048576)(y:n.2.2.2.2.2.1<=1000000)(M:1048577<K):Q195.f K (n,())=some ((cW n,()),()):=by
 have hl:=h.ok.ld;refine kS (step:=λrec a=>Q195.s0 K (n,()) rec a) (aa.doubts n) c6 (jK (aa.doubts n) n.2.2.2.2.2.1) (λm i=>((i:Int),m.1,m.2.1,m.2.2.1,m.2.2.2.1,m.2.2.2.2.1,m.2.2.2.2.2.1,m.2.2.2.2.2.2.1,m.2.2.2.2.2.2.2.1,m.2.2.2.2.2.2.2.2.1,m.2.2.2.2.2.2.2.2.2.1,m.2.2.2.2.2.2.2.2.2.2.1.1,m.2.2.2.2.2.2.2.2.2.2.1.2.1,m.2.2.2.2.2.2.2.2.2.2.1.2.2.1,m.2.2.2.2.2.2.2.2.2.2.1.2.2.2,m.2.2.2.2.2.2.2.2.2.2.2.1,m.2.2.2.2.2.2.2.2.2.2.2.2.1.1,m.2.2.2.2.2.2.2.2.2.2.2.2.1.2.1,m.2.2.2.2.2.2.2.2.2.2.2.2.1.2.2.1,m.2.2.2.2.2.2.2.2.2.2.2.2.1.2.2.2,m.2.2.2.2.2.2.2.2.2.2.2.2.2.1,m.2.2.2.2.2.2.2.2.2.2.2.2.2.2)) (λm=>some ((m,()),())) n h ?_ ?_ (by omega)
 ·intro rec m i H u;refine⟨?_,lh u (BF H)⟩;simp only[Q195.s0,zc286a0,zc3ec45];obtain⟨R,I,J⟩:=Y _ (BF H);rw[show decide ((i:Int)<(BE n.2.2.2.2.2.2.2.2.2.2.2.1:Int))=true from bq (by omega:(i:Int)<(BE (aa.doubts n):Int)),show idx n.2.2.2.2.2.2.2.2.2.2.2.1 (i:Int)=some (aa.doubts n)[i] from ag H,ar i (by omega)];simp only[cond_true,BD];rw[due_s K m.2.2.2.2.2.1 (aa.doubts n)[i] R (by rw[u.now_];exact I) (by rw[u.now_];exact y) J];simp only[BD];have r:=u.key _ (BF H);generalize (aa.doubts n)[i]=d at r R I J ⊢;unfold c6;cases jS m.2.2.2.2.2.1 d.2.2.1 d.2.2.2.length with
  |false=>rfl
  |true =>
   simp only[cond_true];have z:=da u.ok.table r;obtain⟨o,Z,h1⟩:=fC K (aa.table m) d.1 u.ok.lt M;rw[show Q16.f K (m.2.2.2.2.2.2.2.2.1,d.1,())=_ from h1];simp only[BD];cases Z with
   |no h=>exact absurd r (λ⟨f,X,e⟩=>h f X e)
   |at_ j O e =>
    simp only;rw[show idx m.2.2.2.2.2.2.2.2.1 ((j:Nat):Int)=some (aa.table m)[j] from ag O,ii u.ok.table.2 (BF O) z.2.2 (by rw[e,z.2.1])];simp only[BD];refine (congrArg (λo=>CI o _) (pH K m (iU (aD (aa.table m) d.1)) m.1 u.ok M)).trans ?_;rfl
 ·intro rec m u;simp only[Q195.s0,zc286a0,zc3ec45];rw[show decide ((BE (aa.doubts n):Int)<(BE n.2.2.2.2.2.2.2.2.2.2.2.1:Int))=false from aT _];rfl
theorem AW (K:Nat)(n:aa)(h:jK (aa.doubts n) n.2.2.2.2.2.1 n)(hd:∀ d∈aa.doubts n,0<=d.2.2.1/\d.2.2.1<=n.2.2.2.2.2.1/\d.2.2.2.length<=1048576)(X:n.2.2.2.2.2.1<=1000000)(Z:1048577<K):Q74.f K (n,())=some ((),(cW n,())):=by
 have hl:=h.ok.ld;simp only[Q74.f,Q74.pre,zc3ec45];have hc:∃ r:List (Int×Int×Int×Nat),r=(aa.doubts n).map (λd=>(d.1,d.2.1,d.2.2.1,d.2.2.2.length))/\Q7.f K (aa.doubts n,())=some ((r,()),()):=by
  refine⟨_,rfl,?_⟩;simp only[Q7.f,qp];rw[d5 (by omega)];rfl
 obtain⟨r,H,e⟩:=hc;rw[show Q7.f K (n.2.2.2.2.2.2.2.2.2.2.2.1,())=_ from e];simp only[BD];have I:r.length=(aa.doubts n).length:=by rw[H,BR]
 have O:∀ i (z:i<(aa.doubts n).length),r[i]'(by rw[I];exact z)=((aa.doubts n)[i].1,(aa.doubts n)[i].2.1,(aa.doubts n)[i].2.2.1,(aa.doubts n)[i].2.2.2.length):=λi z=>by
  simp only[H,DH]
 clear H;refine kS (step:=λrec a=>Q74.s0 K (n,()) rec a) (aa.doubts n) c6 (jK (aa.doubts n) n.2.2.2.2.2.1) (λm i=>(r,(BE r:Int),(i:Int),m.1,m.2.1,m.2.2.1,m.2.2.2.1,m.2.2.2.2.1,m.2.2.2.2.2.1,m.2.2.2.2.2.2.1,m.2.2.2.2.2.2.2.1,m.2.2.2.2.2.2.2.2.1,m.2.2.2.2.2.2.2.2.2.1,m.2.2.2.2.2.2.2.2.2.2.1.1,m.2.2.2.2.2.2.2.2.2.2.1.2.1,m.2.2.2.2.2.2.2.2.2.2.1.2.2.1,m.2.2.2.2.2.2.2.2.2.2.1.2.2.2,m.2.2.2.2.2.2.2.2.2.2.2.1,m.2.2.2.2.2.2.2.2.2.2.2.2.1.1,m.2.2.2.2.2.2.2.2.2.2.2.2.1.2.1,m.2.2.2.2.2.2.2.2.2.2.2.2.1.2.2.1,m.2.2.2.2.2.2.2.2.2.2.2.2.1.2.2.2,m.2.2.2.2.2.2.2.2.2.2.2.2.2.1,m.2.2.2.2.2.2.2.2.2.2.2.2.2.2)) (λm=>some ((),(m,()))) n h ?_ ?_ (by omega)
 ·intro rec m i z u;refine⟨?_,lh u (BF z)⟩;simp only[Q74.s0,zc286a0,zc3ec45];have J:i<r.length:=by rw[I];exact z
  obtain⟨d0,d1,Y⟩:=hd _ (BF z);rw[bq (by omega:(i:Int)<(BE r:Int)),ag J,ar i (by omega),BH,ag J,O i z];simp only[cond_true,BD];have y:=u.key _ (BF z);generalize (aa.doubts n)[i]=d at y d0 d1 Y ⊢;rw[Ad K d.1 d.2.1 d.2.2.1 d.2.2.2.length Y];simp only[BD];have a0:=u.now_;rw[aG (n:=m.2.2.2.2.2.1-d.2.2.1) (by omega) (by omega)];have M:decide (m.2.2.2.2.2.1-d.2.2.1<if 6-(BE d.2.2.2:Int)+1<3 then 3 else 6-(BE d.2.2.2:Int)+1)=!jS m.2.2.2.2.2.1 d.2.2.1 d.2.2.2.length:=by
   unfold jS;rw[CO];simp
  rw[show decide (m.2.2.2.2.2.1-d.2.2.1<(if 6-(BE d.2.2.2:Int)+1<3 then 3 else 6-(BE d.2.2.2:Int)+1:Int))=_ from M];unfold c6;cases jS m.2.2.2.2.2.1 d.2.2.1 d.2.2.2.length with
  |false=>rfl
  |true =>
   simp only[BM,cond_false,cond_true];have R:=da u.ok.table y;obtain⟨b,hw⟩:=iT K (aa.table m) d.1 u.ok.table u.ok.lt Z;rw[show Q37.f K (m.2.2.2.2.2.2.2.2.1,d.1,())=_ from hw];simp only[BD];refine (congrArg (λo=>CI o _) (zJ K m (iU (aD (aa.table m) d.1)) m.1 u.ok (nQ R.1) Z)).trans ?_;rfl
 ·intro rec m u;simp only[Q74.s0,zc286a0,zc3ec45];rw[<- I,aT];rfl
def setP (n:aa)(p:af):aa:=(n.1,n.2.1,n.2.2.1,n.2.2.2.1,n.2.2.2.2.1,n.2.2.2.2.2.1,n.2.2.2.2.2.2.1,n.2.2.2.2.2.2.2.1,n.2.2.2.2.2.2.2.2.1,n.2.2.2.2.2.2.2.2.2.1,p,n.2.2.2.2.2.2.2.2.2.2.2)
def noP:af:=(-1,0,0,false)
def mc (f:af):af:=(f.1,f.2.1,2,f.2.2.2)
def pJ (n:aa)(f:af):Bool:=f.2.2.1==1&&f.1 != n.1&&f.1 != (aa.probe n).1
def cE (n:aa):List Int:=(((aa.table n).filter (pJ n)).map (·.1)).take 2
def askW (n:aa)(to:Int):aq:=(1,3,n.1,to,(aa.probe n).2.2.1,(aa.probe n).1,aa.coord n,[])
def jL (n:aa):aa:=setP n ((aa.probe n).1,(aa.probe n).2.1,(aa.probe n).2.2.1,true)
def aW (n:aa):aa×List aq :=
 bif (aa.probe n).1==-1 then (n,[]) else
 bif !cN (aD (aa.table n) (aa.probe n).1) then (setP n noP,[]) else
 bif decide (n.2.2.2.2.2.1-(aa.probe n).2.1>=4) then (bif (aD (aa.table n) (aa.probe n).1).2.2.1==1 then sayOf (setP n noP) (mc (aD (aa.table n) (aa.probe n).1)) n.1 else setP n noP,[]) else
 bif decide (n.2.2.2.2.2.1-(aa.probe n).2.1>=2) then (bif !(aa.probe n).2.2.2 then (jL n,(cE n).map (askW n)) else (n,[])) else (n,[])
theorem b8.setP {n:aa}(h:b8 n)(p:af):b8 (setP n p):=⟨h.table,h.cast,h.asc,h.inp,h.lt,h.lc,h.ld⟩
theorem qx {f:af}(h:bA f):bA (mc f):=⟨h.1,h.2.1,show (1:Int)<=2 by omega,show (2:Int)<=4 by omega⟩
theorem fm {t:List af}{r:Int}(h:cN (aD t r)=true):∃ f∈t,f.1=r:=by
 by_cases u:∃ f∈t,f.1=r
 ·exact u
 ·rw[jI (λg y e=>u ⟨g,y,e⟩)]at h;simp[cN]at h
theorem xg (K:Nat)(n:aa)(I:(aa.table n).length<=1048576)(J:1048577<K):Q197.f K (n,())=some ((cE n,()),()):=by
 have:=lf (step:=λrec a=>Q197.s0 K (n,()) rec a) (aa.table n) (pJ n) (λf=>f.1) 2 (λz=>some ((z,()),())) ?_ ?_ ?_ (aa.table n).length 0 K [] (by omega) (by omega) (BT _) (by simp)
 ·exact this
 ·intro rec r i u y H;simp only[Q197.s0];rw[show decide ((i:Int)<(BE n.2.2.2.2.2.2.2.2.1:Int))=true from bq (by omega:(i:Int)<(BE (aa.table n):Int)),show idx n.2.2.2.2.2.2.2.2.1 (i:Int)=some (aa.table n)[i] from ag u,ar i (by omega),decide_eq_true (by omega:(BE r:Int)<2)];simp only[cond_true,BD,pJ];show (bif (aa.table n)[i].1 != n.1 then (bif (aa.table n)[i].1 != (aa.probe n).1 then (bif (aa.table n)[i].2.2.1==1 then (bif decide ((BE r+BE ([(aa.table n)[i].1]))*8<=ak) then (rec (r++([(aa.table n)[i].1]),((i+1:Nat):Int))) else none) else (rec (r,((i+1:Nat):Int)))) else (rec (r,((i+1:Nat):Int)))) else (rec (r,((i+1:Nat):Int))))=_;rw[szb _ _ _ (by omega) (by simp;omega)];cases (aa.table n)[i].1 != n.1 <;> cases (aa.table n)[i].1 != (aa.probe n).1 <;> cases (aa.table n)[i].2.2.1==1 <;> rfl
 ·intro rec r i u y H;simp only[Q197.s0];rw[show decide ((i:Int)<(BE n.2.2.2.2.2.2.2.2.1:Int))=true from bq (by omega:(i:Int)<(BE (aa.table n):Int)),decide_eq_false (by omega:¬ (BE r:Int)<2)];rfl
 ·intro rec r _;simp only[Q197.s0];rw[show decide ((BE (aa.table n):Int)<(BE n.2.2.2.2.2.2.2.2.1:Int))=false from aT _];rfl
theorem xh (K:Nat)(n m:aa)(p:af)(u:aa.table m=aa.table n/\m.1=n.1)(z:p=aa.probe n)(r:(aa.table n).length<=1048576)(I:1048577<K) :
  ((Q77.f K (aa.table n,(λJ=>(Q80.f K (J.1,m,p,())).map λy=>y.1.1),())).bind λH=>Q76.f K (H.1.1,2,()))=some ((cE n,()),()):=by
 rw[qw K (aa.table n) _ (pJ n) r I (λf _=>by
  simp only[Q80.f,pJ];rw[u.2,z];cases f.2.2.1==1 <;> cases f.1 != n.1 <;> cases f.1 != (aa.probe n).1 <;> rfl)]
 simp only[BD];rw[qv K _ 2 (by rw[BR];exact BW (B7 _ _) r)];rfl
theorem yK (K:Nat)(n:aa)(h:b8 n)(h0:0<=(aa.probe n).2.1)(h1:(aa.probe n).2.1<=1000000)(Y:0<=n.2.2.2.2.2.1)(a0:n.2.2.2.2.2.1<=1000000)(u:1048577<K) :
  Q82.f K (n,())=some (((aW n).2,()),((aW n).1,())):=by
 simp only[Q82.f,Q82.pre,zcp8];obtain⟨b,X⟩:=iT K (aa.table n) (aa.probe n).1 h.table h.lt u;rw[show Q37.f K (n.2.2.2.2.2.2.2.2.1,n.2.2.2.2.2.2.2.2.2.2.1.1,())=_ from X];simp only[BD,aW];show (bif (aa.probe n).1==-1 then _ else _)=_;cases (aa.probe n).1==-1 with
 |true=>rfl
 |false =>
  simp only[cond_false];rw[show Q79.f K (n,n.2.2.2.2.2.2.2.2.2.2.1.1,())=_ from sZ K n (aa.probe n).1 h.table h.lt u];simp only[BD];cases hl:cN (aD (aa.table n) (aa.probe n).1) with
  |false=>rfl
  |true =>
   have R:=da h.table (fm hl);simp only[BM,cond_false];rw[aG (n:=n.2.2.2.2.2.1-n.2.2.2.2.2.2.2.2.2.2.1.2.1) (by show -9223372036854775808<=n.2.2.2.2.2.1-(aa.probe n).2.1;omega) (by show n.2.2.2.2.2.1-(aa.probe n).2.1<=9223372036854775807;omega)];show (bif decide (n.2.2.2.2.2.1-(aa.probe n).2.1>=4) then _ else _)=_;cases decide (n.2.2.2.2.2.1-(aa.probe n).2.1>=4) with
   |true =>
    simp only[cond_true];cases (aD (aa.table n) (aa.probe n).1).2.2.1==1 with
    |true =>
     simp only[cond_true];refine (congrArg (λo=>CI o _) (zJ K (setP n noP) (mc (aD (aa.table n) (aa.probe n).1)) n.1 (h.setP noP) (qx R.1) u)).trans ?_;rfl
    |false=>rfl
   |false =>
    simp only[cond_false];show (bif decide (n.2.2.2.2.2.1-(aa.probe n).2.1>=2) then _ else _)=_;cases decide (n.2.2.2.2.2.1-(aa.probe n).2.1>=2) with
    |false=>rfl
    |true =>
     simp only[cond_true];show (bif !(aa.probe n).2.2.2 then _ else _)=_;cases J:(aa.probe n).2.2.2 with
     |true=>rfl
     |false =>
      simp only[B8,cond_true];have O:=xh K n (jL n) (aa.probe n) ⟨rfl,rfl⟩ rfl h.lt u;obtain⟨y,hy,z⟩:=Option.bind_eq_some_iff.1 O;refine (congrArg (λo=>CI o _) hy).trans ?_;simp only[BD];rw[z];simp only[BD];have H:(cE n).length<=2:=CT _ _;refine Ct (lH (step:=λrec a=>Q82.s0 K (n,()) rec a) (cE n) (λ_=>true) (askW n) (λr i=>(r,cE n,(BE (cE n):Int),(i:Int))) (λM=>some ((M,()),(jL n,()))) ?_ ?_ (by omega)) (by rw[CF.2 (λ_ _=>rfl)])
      ·intro rec r i I Z;simp only[Q82.s0,zcp4,zcp8];rw[bq (by omega:(i:Int)<(BE (cE n):Int)),ag I,ar i (by omega),BH,ag I];simp only[cond_true,BD,Q81.f];rw[szw _ _ _ (by omega) (by simp;omega)];rfl
      ·intro rec r Z;simp only[Q82.s0,zcp4,zcp8,aT];rfl
theorem xi (K:Nat)(n:aa)(h:b8 n)(X:(aa.probe n).1≠-1)(h0:0<=(aa.probe n).2.1)(h1:(aa.probe n).2.1<=1000000)(Y:0<=n.2.2.2.2.2.1)(a0:n.2.2.2.2.2.1<=1000000)(y:1048577<K) :
  Q198.f K (n,())=some (((aW n).1,(aW n).2,()),()):=by
 simp only[Q198.f,Q198.pre,zcp8,aW];rw[show ((aa.probe n).1==-1)=false by simpa using X];simp only[cond_false];rw[show Q196.f K (n.2.2.2.2.2.2.2.2.1,n.2.2.2.2.2.2.2.2.2.2.1.1,())=_ from sY K (aa.table n) (aa.probe n).1 h.table h.lt y];simp only[BD];cases I:cN (aD (aa.table n) (aa.probe n).1) with
 |false=>rfl
 |true =>
  have u:=da h.table (fm I);simp only[BM,cond_false];rw[aG (n:=n.2.2.2.2.2.1-n.2.2.2.2.2.2.2.2.2.2.1.2.1) (by show -9223372036854775808<=n.2.2.2.2.2.1-(aa.probe n).2.1;omega) (by show n.2.2.2.2.2.1-(aa.probe n).2.1<=9223372036854775807;omega)];show (bif decide (n.2.2.2.2.2.1-(aa.probe n).2.1>=4) then _ else _)=_;cases decide (n.2.2.2.2.2.1-(aa.probe n).2.1>=4) with
  |true =>
   simp only[cond_true];obtain⟨o,ho,e1⟩:=fC K (aa.table n) (aa.probe n).1 h.lt y;rw[show Q16.f K (n.2.2.2.2.2.2.2.2.1,n.2.2.2.2.2.2.2.2.2.2.1.1,())=_ from e1];simp only[BD];cases ho with
   |no z=>exact absurd (fm I) (λ⟨f,u,e⟩=>z f u e)
   |at_ j J e =>
    simp only;rw[show idx n.2.2.2.2.2.2.2.2.1 ((j:Nat):Int)=some (aa.table n)[j] from ag J,ii h.table.2 (BF J) u.2.2 (by rw[e,u.2.1])];simp only[BD];cases (aD (aa.table n) (aa.probe n).1).2.2.1==1 with
    |true =>
     simp only[cond_true];refine (congrArg (λo=>CI o _) (pH K (setP n noP) (mc (aD (aa.table n) (aa.probe n).1)) n.1 (h.setP noP) y)).trans ?_;rfl
    |false=>rfl
  |false =>
   simp only[cond_false];show (bif decide (n.2.2.2.2.2.1-(aa.probe n).2.1>=2) then _ else _)=_;cases decide (n.2.2.2.2.2.1-(aa.probe n).2.1>=2) with
   |false=>rfl
   |true =>
    simp only[cond_true];show (bif !(aa.probe n).2.2.2 then _ else _)=_;cases O:(aa.probe n).2.2.2 with
    |true=>rfl
    |false =>
     simp only[B8,cond_true];refine (congrArg (λo=>CI o _) (xg K (jL n) h.lt y)).trans ?_;simp only[BD];rw[show cE (jL n)=cE n from rfl];have H:(cE n).length<=2:=CT _ _;refine Ct (lH (step:=λrec a=>Q198.s0 K (n,()) rec a) (cE n) (λ_=>true) (askW n) (λr i=>(r,cE n,(i:Int))) (λR=>some ((jL n,R,()),())) ?_ ?_ (by omega)) (by rw[CF.2 (λ_ _=>rfl)])
     ·intro rec r i M Z;simp only[Q198.s0,zcp8];rw[bq (by omega:(i:Int)<(BE (cE n):Int)),ag M,ar i (by omega),BH,ag M];simp only[cond_true,BD,Q153.f];rw[szb _ _ _ (by omega) (by simp)];simp only[cond_true,BD];rw[szw _ _ _ (by omega) (by simp;omega)];rfl
     ·intro rec r Z;simp only[Q198.s0,zcp8,aT];rfl
def ik (n:aa)(i:Int):aa:=(n.1,n.2.1,n.2.2.1,n.2.2.2.1,i,n.2.2.2.2.2)
def fN (n:aa)(f:af):aa:=bif decide (bS f (aD (aa.table n) n.1))&&decide (f.2.1<999) then sayOf (ik n (f.2.1+1)) (n.1,f.2.1+1,1,n.2.2.2.1) n.1 else n
def el (f:af)(b:Int)(d:bO):bO:=bif d.1==f.1&&d.2.1==f.2.1&&f.2.2.1==2 then (d.1,d.2.1,d.2.2.1,bI (λx:Int=>x) b d.2.2.2) else d
def kT (n:aa)(f:af)(b:Int):aa:=iR n (aa.table n) (aa.cast n) ((aa.doubts n).map (el f b))
def er (b:Int)(n:aa)(f:af):aa:=bif f.1==n.1 then fN n f else kT (sayOf n f b) f b
def ji (n:aa)(t:List af)(b:Int):aa:=t.foldl (er b) n
def md (l:List Int):Prop:=Asc (λx:Int=>x) l/\∀ x∈l,InP x 0 7
theorem md.len {l:List Int}(h:md l):l.length<=8:=iS h.1 h.2
theorem md.put {l:List Int}{b:Int}(h:md l)(u:InP b 0 7):md (bI (λx:Int=>x) b l) :=
 ⟨fk h.1,λx r=>by
  rcases a8.1 r with rfl|⟨r,_⟩
  ·exact u
  ·exact h.2 x r⟩
structure eC (n:aa):Prop where
 say:b8 n
 me:InP n.1 0 7
 has:∃ g∈aa.table n,g.1=n.1
 by_:∀ d∈aa.doubts n,md d.2.2.2
theorem b8.inc {n:aa}(h:b8 n)(i:Int):b8 (ik n i):=⟨h.table,h.cast,h.asc,h.inp,h.lt,h.lc,h.ld⟩
theorem mf {n:aa}{f:af}{b:Int}(H:InP b 0 7)(h:∀ d∈aa.doubts n,md d.2.2.2):∀ d∈aa.doubts (sayOf n f b),md d.2.2.2:=by
 obtain⟨t,c,u,e,_,_,z⟩:=iF n f b;rw[e];intro d r;have r:d∈u:=r;rcases z with rfl|rfl
 ·exact h d r
 ·rcases ky r with rfl|r
  ·exact⟨C0 _ _,λx y=>by rw[CD.1 y];exact H⟩
  ·exact h d r
theorem uV {n:aa}{f:af}(r:InP n.1 0 7)(u:bA f)(h:f.2.1<999):bA (n.1,f.2.1+1,1,n.2.2.2.1):=by
 obtain⟨_,⟨z,y⟩,_⟩:=u;exact⟨r,⟨show (0:Int)<=f.2.1+1 by omega,show f.2.1+1<=999 by omega⟩,show (1:Int)<=1 by omega,show (1:Int)<=4 by omega⟩
theorem eC.refute {n:aa}{f:af}(h:eC n)(M:bA f):eC (fN n f):=by
 unfold fN;cases y:decide (bS f (aD (aa.table n) n.1))&&decide (f.2.1<999) with
 |false=>exact h
 |true =>
  have J:f.2.1<999:=by
   rw[CK]at y;exact of_decide_eq_true y.2
  obtain⟨z,_⟩:=dn (ik n (f.2.1+1)) (n.1,f.2.1+1,1,n.2.2.2.1) n.1;refine⟨jh (h.say.inc _) (uV h.me M J),?_,?_,mf h.me h.by_⟩
  ·show InP (sayOf (ik n (f.2.1+1)) (n.1,f.2.1+1,1,n.2.2.2.1) n.1).1 0 7;rw[z];exact h.me
  ·obtain⟨g,H,e⟩:=h.has;obtain⟨u,r,I⟩:=jJ (n:=ik n (f.2.1+1)) (f:=(n.1,f.2.1+1,1,n.2.2.2.1)) (b:=n.1) (g:=g) H;refine⟨u,r,?_⟩;show u.1=(sayOf (ik n (f.2.1+1)) (n.1,f.2.1+1,1,n.2.2.2.1) n.1).1;rw[z,I,e];rfl
theorem eC.confirm {n:aa}{f:af}{b:Int}(h:eC n)(X:bA f)(O:InP b 0 7):eC (kT (sayOf n f b) f b):=by
 have u:=jh (b:=b) h.say X;obtain⟨R,_⟩:=dn n f b;have z:=mf (f:=f) O h.by_;obtain⟨g,Z,e⟩:=h.has;obtain⟨M,H,Y⟩:=jJ (n:=n) (f:=f) (b:=b) Z;have J:∀ d,(el f b d).1=d.1:=λd=>by unfold el;cases d.1==f.1&&d.2.1==f.2.1&&f.2.2.1==2 <;> rfl
 refine⟨⟨u.table,u.cast,?_,λd I=>?_,u.lt,u.lc,?_⟩,?_,⟨M,H,?_⟩,λd I=>?_⟩
 ·show Asc (λd:bO=>d.1) ((aa.doubts (sayOf n f b)).map (el f b));unfold Asc;rw[B6];exact u.asc.imp λ {a c} h=>by show (el f b a).1<(el f b c).1;rw[J,J];exact h
 ·obtain⟨y,r,rfl⟩:=BX.1 I;rw[J];exact u.inp y r
 ·show ((aa.doubts (sayOf n f b)).map (el f b)).length<=_;rw[BR];exact u.ld
 ·show InP (sayOf n f b).1 0 7;rw[R];exact h.me
 ·show M.1=(sayOf n f b).1;rw[R,Y,e]
 ·obtain⟨y,r,rfl⟩:=BX.1 I;unfold el;cases y.1==f.1&&y.2.1==f.2.1&&f.2.2.1==2 with
  |false=>exact z y r
  |true=>exact (z y r).put O
theorem eC.step {n:aa}{f:af}{b:Int}(h:eC n)(r:bA f)(u:InP b 0 7):eC (er b n f):=by
 unfold er;cases f.1==n.1 with
 |true=>exact h.refute r
 |false=>exact h.confirm r u
theorem yL {α A R:Type}(ds:List α)(g:α->α)(S:List α->Nat->A)(u:List α->Option R){step:(A->Option R)->A->Option R}
  (h:∀ (rec:A->Option R) (cur:List α) (i:Nat) (O:i<ds.length),cur.length=ds.length->cur[i]?=some ds[i]->step rec (S cur i)=rec (S (cur.set i (g ds[i])) (i+1)))
  (z:∀ (rec:A->Option R) (cur:List α),cur.length=ds.length->step rec (S cur ds.length)=u cur) {k:Nat} (J:ds.length<k):ae step k (S ds 0)=u (ds.map g):=by
 have:∀ (d i k:Nat) (cur:List α),i+d=ds.length->d<k->cur.length=ds.length->(∀ j,(r:j<ds.length)->cur[j]?=some (if j<i then g ds[j] else ds[j]))->ae step k (S cur i)=u (ds.map g):=by
  intro d;induction d with
  |zero =>
   intro i k cur O J I H;obtain⟨k,rfl⟩:∃ M,k=M+1:=⟨k-1,by omega⟩;have:i=ds.length:=by omega
   subst this;show step (ae step k) _=_;rw[z _ _ I];congr 1;refine List.ext_getElem? λj=>?_
   rw[List.getElem?_map];by_cases r:j<ds.length
   ·rw[H j r,if_pos r,BP r];rfl
   ·rw[CY (by omega),CY (by omega)];rfl
  |succ d Y =>
   intro i k cur O J I H;obtain⟨k,rfl⟩:∃ M,k=M+1:=⟨k-1,by omega⟩;have y:i<ds.length:=by omega
   show step (ae step k) _=_;rw[h (ae step k) cur i y I (by rw[H i y,if_neg (by omega)])];refine Y (i+1) k _ (by omega) (by omega) (by rw[C7,I]) λj r=>?_
   rw[List.getElem?_set];by_cases e:i=j
   ·subst e;rw[if_pos rfl,if_pos (by omega),if_pos (by omega)]
   ·rw[if_neg e,H j r];by_cases X:j<i
    ·rw[if_pos X,if_pos (by omega)]
    ·rw[if_neg X,if_neg (by omega)]
 exact this ds.length 0 k ds (by omega) J rfl (λj r=>by rw[if_neg (by omega),BP r])
theorem ta {α:Type}{cur:List α}{i:Nat}{x:α}(h:cur[i]?=some x):cur.set i x=cur:=by
 obtain⟨r,e⟩:=List.getElem?_eq_some_iff.1 h;rw[<- e,List.set_getElem_self]
theorem tc {by_:List Int}{b:Int}{m:Nat}(r:m<=by_.length)(u:by_.length<=8){R:Type}(G:List Int->Option R) :
  (bif decide ((0:Int)<=0)&&decide ((0:Int)<=(m:Int))&&decide ((m:Int)<=(BE by_:Int))&&true then (bif decide ((BE ([]:List Int)+BE ((by_.take (BG (m:Int))).drop (BG 0)))*8<=ak) then (bif decide ((BE ([]++((by_.take (BG (m:Int))).drop (BG 0)))+BE ([b]))*8<=ak) then (bif decide ((0:Int)<=(m:Int))&&decide ((m:Int)<=(BE by_:Int))&&decide ((BE by_:Int)<=(BE by_:Int))&&true then (bif decide ((BE (([]++((by_.take (BG (m:Int))).drop (BG 0)))++([b]))+BE ((by_.take (BG (BE by_:Int))).drop (BG (m:Int))))*8<=ak) then G ((([]++((by_.take (BG (m:Int))).drop (BG 0)))++([b]))++((by_.take (BG (BE by_:Int))).drop (BG (m:Int)))) else none) else none) else none) else none) else none)=G (by_.take m++[b]++by_.drop m):=by
 rw[decide_eq_true (by omega:(0:Int)<=0),decide_eq_true (by omega:(0:Int)<=(m:Int)),decide_eq_true (by omega:(m:Int)<=(BE by_:Int)),decide_eq_true (by omega:(BE by_:Int)<=(BE by_:Int))];simp only[BH,Ca,BY,BQ,Ce,CX,cond_true];have z:(by_.take m).length=m:=by rw[BV];omega
 have y:(by_.drop m).length=by_.length-m:=CA;rw[szb _ _ _ (by omega) (by simp only[BN];omega),szb _ _ _ (by omega) (by simp only[BJ,BN];omega),szb _ _ _ (by omega) (by simp only[BS,BJ,BN];omega)];rfl
theorem xj (K:Nat)(n:aa)(f:af)(b:Int)(hd:∀ d∈aa.doubts n,md d.2.2.2)(hl:(aa.doubts n).length<=1048576)(hK:1048577<K):Q159.f K (n,f,b,())=some ((kT n f b,()),()):=by
 simp only[Q159.f,Q159.pre];refine yL (step:=λrec a=>Q159.s0 K (n,f,b,()) (Q159.l1 K (n,f,b,()) rec) rec a) (aa.doubts n) (el f b) (λu i=>((i:Int),u)) (λu=>some ((iR n (aa.table n) (aa.cast n) u,()),())) ?_ ?_ (by omega)
 ·intro rec u i hi X I;have J:i<u.length:=by omega
  have a0:u[i]=(aa.doubts n)[i]:=by
   rw[BP J]at I;exact Option.some.inj I
  have R:=hd _ (BF hi);simp only[Q159.s0,zcp8];rw[bq (by omega:(i:Int)<(BE u:Int)),ag J,ar i (by omega),BH,ag J,a0];simp only[cond_true,BD];generalize a9:(aa.doubts n)[i]=d at R I ⊢;have y:rec (((i+1:Nat):Int),u)=rec (((i+1:Nat):Int),u.set i d):=by rw[ta I]
  unfold el;by_cases h1:d.1=f.1
  case neg =>
   rw[show (d.1 != f.1)=true by simpa using h1,show (d.1==f.1)=false by simpa using h1];exact y
  by_cases h2:d.2.1=f.2.1
  case neg =>
   rw[show (d.1 != f.1)=false by simpa using h1,show (d.2.1 != f.2.1)=true by simpa using h2,show (d.2.1==f.2.1)=false by simpa using h2,DB];exact y
  by_cases h3:f.2.2.1=2
  case neg =>
   rw[show (d.1 != f.1)=false by simpa using h1,show (d.2.1 != f.2.1)=false by simpa using h2,show (f.2.2.1 != 2)=true by simpa using h3,show (f.2.2.1==2)=false by simpa using h3,DB];exact y
  rw[show (d.1 != f.1)=false by simpa using h1,show (d.2.1 != f.2.1)=false by simpa using h2,show (f.2.2.1 != 2)=false by simpa using h3,show (d.1==f.1)=true by simpa using h1,show (d.2.1==f.2.1)=true by simpa using h2,show (f.2.2.1==2)=true by simpa using h3];simp only[cond_false,CX,cond_true];have a2:=R.len;have a1:∀ m:Nat,m<=d.2.2.2.length->(∀ j,(M:j<d.2.2.2.length)->j<m->d.2.2.2[j]<b)->(∀ j,(M:j<d.2.2.2.length)->m<=j->b<d.2.2.2[j])->d.2.2.2.take m++[b]++d.2.2.2.drop m=bI (λx:Int=>x) b d.2.2.2:=λm Z lo hi=>jg (k:=λx:Int=>x) Z lo hi
  have:=ci (step:=λr a=>Q159.s1 K (n,f,b,()) rec r a) d.2.2.2.length (λj=>((i:Int),(j:Int),u,d.1,d.2.1,d.2.2.1,d.2.2.2)) (λj=>∃ h:j<d.2.2.2.length,¬ d.2.2.2[j]<b)
   (rec (((i+1:Nat):Int),u.set i (d.1,d.2.1,d.2.2.1,d.2.2.2.take d.2.2.2.length++[b]++d.2.2.2.drop d.2.2.2.length)))
   (λj=>if h:j<d.2.2.2.length then (if d.2.2.2[j]=b then rec (((i+1:Nat):Int),u) else rec (((i+1:Nat):Int),u.set i (d.1,d.2.1,d.2.2.1,d.2.2.2.take j++[b]++d.2.2.2.drop j))) else none) ?_ ?_ d.2.2.2.length K 0 (by omega) (by omega)
  ·rcases this with ⟨a6,he⟩|⟨j,_,M,⟨Y,ad⟩,a3,he⟩
   ·refine Ct he ?_;rw[a1 _ (BT _) (λj M _=>by
     by_cases O:d.2.2.2[j]<b
     ·exact O
     ·exact absurd ⟨M,O⟩ (a6 j (BU _) M)) (λj M Z=>by omega)]
   ·refine Ct he ?_;rw[dif_pos Y];have lo:∀ m,(Z:m<d.2.2.2.length)->m<j->d.2.2.2[m]<b:=λm Z a4=>by
     by_cases O:d.2.2.2[m]<b
     ·exact O
     ·exact absurd ⟨Z,O⟩ (a3 m (BU _) a4)
    by_cases H:d.2.2.2[j]=b
    ·rw[if_pos H,<- kv (k:=λx:Int=>x) R.1 Y H];rw[show d.2.2.2.set j b=d.2.2.2 from ta (by rw[BP Y,H])];exact y
    ·rw[if_neg H,a1 j (by omega) lo (λm Z a5=>by
      rcases CL a5 with h4|rfl
      ·have:=dt.1 R.1 j m (by omega) Z h4;omega
      ·omega)]
  ·intro r j M;simp only[Q159.s1];rw[bq (by omega:(j:Int)<(BE d.2.2.2:Int)),ag M,ar j (by omega)];simp only[cond_true,BD];by_cases O:d.2.2.2[j]<b
   ·left;refine⟨λ⟨_,h⟩=>h O,?_⟩;rw[decide_eq_true O];rfl
   ·right;refine⟨⟨M,O⟩,?_⟩;rw[decide_eq_false O,show ((j:Int)==(BE d.2.2.2:Int))=false by simp;omega,dif_pos M];simp only[cond_false];by_cases H:d.2.2.2[j]=b
    ·rw[if_pos H,show (d.2.2.2[j] != b)=false by simpa using H,ar i (by omega)];rfl
    ·rw[if_neg H,show (d.2.2.2[j] != b)=true by simpa using H];simp only[cond_true];refine (tc (m:=j) (b:=b) (Nat.le_of_lt M) a2 (λz=>(idx u (i:Int)).bind λ_=>(idx u (BG (i:Int):Nat)).bind λ_=>rec (wr .i64 ((i:Int)+1),u.set (BG (i:Int)) (d.1,(d.2.1,(d.2.2.1,z)))))).trans ?_;rw[BH,ag J,ar i (by omega)];rfl
  ·intro r;simp only[Q159.s1];rw[aT];simp only[cond_false,beq_self_eq_true,cond_true];refine (tc (b:=b) (BT _) a2 (λz=>(idx u (i:Int)).bind λ_=>(idx u (BG (i:Int):Nat)).bind λ_=>rec (wr .i64 ((i:Int)+1),u.set (BG (i:Int)) (d.1,(d.2.1,(d.2.2.1,z)))))).trans ?_;rw[BH,ag J,ar i (by omega)];rfl
 ·intro rec u X;simp only[Q159.s0,zcp8];rw[<- X,aT];rfl
theorem yM (K:Nat)(n:aa)(f:af)(h:eC n)(I:bA f)(y:1048577<K):Q158.f K (n,f,())=some ((fN n f,()),()):=by
 simp only[Q158.f,zcp4];have r:=da h.say.table h.has;obtain⟨o,M,O⟩:=fC K (aa.table n) n.1 h.say.lt y;rw[show Q16.f K (n.2.2.2.2.2.2.2.2.1,n.1,())=_ from O];simp only[BD];cases M with
 |no u=>exact absurd h.has (λ⟨g,J,e⟩=>u g J e)
 |at_ j z e =>
  simp only;rw[show idx n.2.2.2.2.2.2.2.2.1 ((j:Nat):Int)=some (aa.table n)[j] from ag z,ii h.say.table.2 (BF z) r.2.2 (by rw[e,r.2.1])];simp only[BD];rw[pG];obtain⟨_,⟨X,R⟩,_⟩:=I;simp only[rb,BD,fN];cases decide (bS f (aD (aa.table n) n.1)) with
  |false=>rfl
  |true =>
   simp only[BM,cond_false,CS];by_cases H:f.2.1<999
   ·rw[decide_eq_false (by omega:¬ f.2.1>=999),decide_eq_true H,aG (by omega) (by omega)];simp only[cond_false,cond_true];refine (congrArg (λo=>CI o _) (pH K (ik n (f.2.1+1)) (n.1,f.2.1+1,1,n.2.2.2.1) n.1 (h.say.inc _) y)).trans ?_;rfl
   ·rw[decide_eq_true (by omega:f.2.1>=999),decide_eq_false H];rfl
theorem uW (K:Nat)(n:aa)(t:List af)(b:Int)(h:eC n)(I:∀ f∈t,bA f)(J:t.length<=1048576)(H:InP b 0 7)(y:1048577<K):Q160.f K (n,t,b,())=some ((ji n t b,()),()):=by
 refine kS (step:=λrec a=>Q160.s0 K (n,t,b,()) rec a) t (er b) eC (λm i=>((i:Int),m.1,m.2.1,m.2.2.1,m.2.2.2.1,m.2.2.2.2.1,m.2.2.2.2.2.1,m.2.2.2.2.2.2.1,m.2.2.2.2.2.2.2.1,m.2.2.2.2.2.2.2.2.1,m.2.2.2.2.2.2.2.2.2.1,m.2.2.2.2.2.2.2.2.2.2.1.1,m.2.2.2.2.2.2.2.2.2.2.1.2.1,m.2.2.2.2.2.2.2.2.2.2.1.2.2.1,m.2.2.2.2.2.2.2.2.2.2.1.2.2.2,m.2.2.2.2.2.2.2.2.2.2.2.1,m.2.2.2.2.2.2.2.2.2.2.2.2.1.1,m.2.2.2.2.2.2.2.2.2.2.2.2.1.2.1,m.2.2.2.2.2.2.2.2.2.2.2.2.1.2.2.1,m.2.2.2.2.2.2.2.2.2.2.2.2.1.2.2.2,m.2.2.2.2.2.2.2.2.2.2.2.2.2.1,m.2.2.2.2.2.2.2.2.2.2.2.2.2.2)) (λm=>some ((m,()),())) n h ?_ ?_ (by omega)
 ·intro rec m i z r;have u:=I _ (BF z);refine⟨?_,r.step u H⟩;simp only[Q160.s0,zc286a0,zc3ec45];rw[bq (by omega:(i:Int)<(BE t:Int)),ag z,ar i (by omega)];simp only[cond_true,BD];generalize t[i]=f at u ⊢;unfold er;cases f.1==m.1 with
  |true =>
   simp only[cond_true];refine (congrArg (λo=>CI o _) (yM K m f r u y)).trans ?_;rfl
  |false =>
   simp only[cond_false];refine (congrArg (λo=>CI o _) (pH K m f b r.say y)).trans ?_;simp only[BD];rw[xj K (sayOf m f b) f b (mf H r.by_) (jh r.say u).ld y];rfl
 ·intro rec m r;simp only[Q160.s0,zc286a0,zc3ec45];rw[aT];rfl
def dA {α:Type}(r:α->α->Bool)(x:α):List α->List α->List α
 |[],B=>x::B
 |y::A,B=>bif r x y then dA r x A (y::B) else (y::A).reverse++x::B
def cR {α:Type}(r:α->α->Bool):List α->List α->List α
 |done,[]=>done
 |done,x::u=>cR r (dA r x done.reverse []) u
theorem oY {α:Type}(r:α->α->Bool)(x:α):∀ (A B C:List α),dA r x A (B++C)=dA r x A B++C
 |[],B,C=>rfl
 |y::A,B,C=>by
  simp only[dA];cases r x y with
  |true=>exact oY r x A (y::B) C
  |false=>simp
theorem oZ {α:Type}(r:α->α->Bool)(x:α):∀ (A B:List α),(dA r x A B).length=A.length+B.length+1
 |[],B=>by simp[dA]
 |y::A,B=>by
  simp only[dA];cases r x y with
  |true=>simp only[cond_true];rw[oZ r x A (y::B)];simp;omega
  |false=>simp;omega
theorem mT {α:Type}(r:α->α->Bool)(x:α):∀ (A B:List α),(dA r x A B).Perm (x::(A.reverse++B))
 |[],B=>by simp[dA]
 |y::A,B=>by
  simp only[dA];cases r x y with
  |true=>exact (mT r x A (y::B)).trans (by simp)
  |false=>simp only[cond_false];exact DI
theorem mg {α:Type}(r:α->α->Bool):∀ (xs done:List α),(cR r done xs).Perm (done++xs)
 |[],done=>by simp[cR]
 |x::xs,done=>by
  simp only[cR];refine (mg r xs _).trans ?_;have:=mT r x done.reverse [];simp only[B3,BO]at this;exact (this.append_right xs).trans (by simpa using (DI (a:=x) (l₁:=done) (l₂:=xs)).symm)
def jT {α:Type}(r:α->α->Bool)(xs:List α):Prop:=xs.Pairwise λa b=>r b a=false
theorem li {α:Type}(r:α->α->Bool)(H:∀ a b c,r a b=false->r b c=false->r a c=false)(x:α) :
  ∀ (A B:List α),jT r A.reverse->dA r x A B=(A.reverse.filter λy=>!r x y)++x::((A.reverse.filter λy=>r x y)++B)
 |[],B,_=>rfl
 |y::A,B,h=>by
  simp only[dA];have J:jT r A.reverse:=by
   unfold jT at h ⊢;rw[CR,CP]at h;exact h.1
  cases z:r x y with
  |true =>
   simp only[cond_true];rw[li r H x A (y::B) J];simp[z,CV]
  |false =>
   have I:∀ a∈A.reverse,r x a=false:=λa u=>by
    unfold jT at h;rw[CR,CP]at h;exact H x y a z (h.2.2 a u y (by simp))
   simp only[cond_false];have O:(y::A).reverse.filter (λy=>!r x y)=(y::A).reverse:=CF.2 λa u=>by
    rw[CR,CN,CD]at u;rcases u with u|rfl
    ·rw[I a u];rfl
    ·rw[z];rfl
   have M:(y::A).reverse.filter (λy=>r x y)=[]:=CW.2 λa u=>by
    rw[CR,CN,CD]at u;rcases u with u|rfl
    ·rw[I a u];simp
    ·rw[z];simp
   rw[O,M];rfl
theorem vK {α:Type}(r:α->α->Bool)(H:∀ a b c,r a b=false->r b c=false->r a c=false)(u:∀ a b,r a b=true->r b a=false)(x:α)(A:List α)(h:jT r A):jT r (dA r x A.reverse []):=by
 rw[li r H x A.reverse [] (by rwa [B3])];unfold jT at h ⊢;simp only[B3,BO];rw[CP];refine⟨h.filter _,?_,?_⟩
 ·rw[BZ];refine⟨λa y=>?_,h.filter _⟩;exact u _ _ (by simpa using (BK.1 y).2)
 ·intro a y b z;have I:r x a=false:=by simpa using (BK.1 y).2
  rcases CH.1 z with rfl|z
  ·exact I
  ·have J:r x b=true:=by simpa using (BK.1 z).2
   exact H b x a (u _ _ J) I
theorem mU {α:Type}(r:α->α->Bool)(y:∀ a b c,r a b=false->r b c=false->r a c=false)(u:∀ a b,r a b=true->r b a=false):∀ (xs done:List α),jT r done->jT r (cR r done xs)
 |[],done,h=>h
 |x::xs,done,h=>mU r y u xs _ (vK r y u x done h)
theorem od {α:Type}(J:α->α->Bool):∀ {H u:List α},H.Perm u->jT J H->u.Pairwise (λa b=>J a b=true)->H=u
 |H,[],r,_,_=>r.eq_nil
 |[],z::u,r,_,_=>absurd r.symm.eq_nil (by simp)
 |y::H,z::u,r,I,M=>by
  unfold jT at I;rw[BZ]at I M;have e:y=z:=by
   rcases CH.1 (r.mem_iff.1 (DF ..)) with h|h
   ·exact h
   ·have R:=M.1 y h;rcases CH.1 (r.symm.mem_iff.1 (DF ..)) with O|O
    ·exact O.symm
    ·rw[I.1 z O]at R;cases R
  subst e;rw[od J r.cons_inv I.2 M.2]
abbrev SoR (α:Type):=Unit×(List α×Unit)
theorem vL {α R:Type}(z:α->α->Bool)(i:Int)(r:List α×Int->Option R){step:(List α×Int×Int->Option R)->List α×Int×Int->Option R}
  (h:∀ (rec:List α×Int×Int->Option R) (A:List α) (y x:α) (B:List α),A.length+B.length<=1048576->step rec (A++y::x::B,i,((A.length+1:Nat):Int))=bif z x y then rec (A++x::y::B,i,(A.length:Int)) else r (A++y::x::B,wr .i64 (i+1)))
  (O:∀ (rec:List α×Int×Int->Option R) (I:List α),step rec (I,i,0)=r (I,wr .i64 (i+1))) :
  ∀ (A B:List α) (x:α) (k:Nat),A.length+B.length<=1048576->A.length<k->ae step k (A.reverse++x::B,i,(A.length:Int))=r (dA z x A B,wr .i64 (i+1)):=by
 intro A;induction A with
 |nil =>
  intro B x k J u;obtain⟨k,rfl⟩:∃ H,k=H+1:=⟨k-1,by simp at u;omega⟩;exact O (ae step k) (x::B)
 |cons y A X =>
  intro B x k J u;simp only[BJ]at u J;obtain⟨k,rfl⟩:∃ H,k=H+1:=⟨k-1,by omega⟩;have M:=h (ae step k) A.reverse y x B (by simp;omega);simp only[Cg]at M;show step (ae step k) _=_;rw[CR,CE];simp only[BJ,DJ,BQ,dA];rw[M];cases z x y with
  |true=>exact X (y::B) x k (by simp;omega) (by omega)
  |false=>simp
theorem ul {α:Type}(r:α->α->Bool){step:(List α×Int->Option (SoR α))->List α×Int->Option (SoR α)}(n:Nat)(O:n<=1048576)
  (h:∀ (rec:List α×Int->Option (SoR α)) (done:List α) (x:α) (xs:List α),done.length+1+xs.length=n->step rec (done++x::xs,(done.length:Int))=rec (dA r x done.reverse xs,wr .i64 ((done.length:Int)+1)))
  (J:∀ (rec:List α×Int->Option (SoR α)) (H:List α) (i:Int),(n:Int)<=i->step rec (H,i)=some ((),(H,()))) :
  ∀ (xs done:List α) (k:Nat),done.length+xs.length=n->xs.length<k->ae step k (done++xs,(done.length:Int))=some ((),(cR r done xs,())):=by
 intro xs;induction xs with
 |nil =>
  intro done k u z;obtain⟨k,rfl⟩:∃ y,k=y+1:=⟨k-1,by omega⟩;show step (ae step k) _=_;rw[J _ _ _ (by simp at u;omega)];simp[cR]
 |cons x xs M =>
  intro done k u z;simp only[BJ]at z u;obtain⟨k,rfl⟩:∃ y,k=y+1:=⟨k-1,by omega⟩;show step (ae step k) _=_;rw[h _ _ _ _ (by omega),ar _ (by omega)];have e:dA r x done.reverse xs=dA r x done.reverse []++xs:=oY r x done.reverse [] xs;have I:(dA r x done.reverse []).length=done.length+1:=by rw[oZ];simp
  rw[e,<- I];exact M _ k (by rw[I];omega) (by omega)
theorem yN {α:Type}(u:α->α->Bool){step:(List α×Int->Option (SoR α))->List α×Int->Option (SoR α)}(xs:List α)(J:xs.length<=1048576)
  (h:∀ (rec:List α×Int->Option (SoR α)) (done:List α) (x:α) (r:List α),done.length+1+r.length=xs.length->step rec (done++x::r,(done.length:Int))=rec (dA u x done.reverse r,wr .i64 ((done.length:Int)+1)))
  (z:∀ (rec:List α×Int->Option (SoR α)) (y:List α) (i:Int),(xs.length:Int)<=i->step rec (y,i)=some ((),(y,()))) {k:Nat} (H:xs.length<k) :
  ae step k (xs,1)=some ((),(cR u [] xs,())):=by
 cases xs with
 |nil =>
  obtain⟨k,rfl⟩:∃ I,k=I+1:=⟨k-1,by simp at H;omega⟩;exact z (ae step k) [] 1 (by simp)
 |cons x xs =>
  simp only[BJ]at H;have:=ul u (xs.length+1) (by simpa using J) h z xs [x] k (by simp;omega) (by omega);exact this
theorem uX {α:Type}(A B:List α)(x:α):idx (A++x::B) (A.length:Int)=some x:=by
 rw[qq];simp
theorem td {α:Type}(A B:List α)(y x:α):idx (A++y::x::B) ((A.length+1:Nat):Int)=some x:=by
 rw[qq];simp[List.getElem?_append_right]
theorem uY {α:Type}(A B:List α)(x v:α):(A++x::B).set A.length v=A++v::B:=by simp
theorem te {α:Type}(A B:List α)(y x v:α):(A++y::x::B).set (A.length+1) v=A++y::v::B:=by
 simp[DA]
theorem um {α R:Type}(P:α->Prop)(I:α->α->Bool)(i:Int)(r:List α×Int->Option R){step:(List α×Int×Int->Option R)->List α×Int×Int->Option R}
  (h:∀ (rec:List α×Int×Int->Option R) (A:List α) (y x:α) (B:List α),P y->P x->A.length+B.length<=1048576->step rec (A++y::x::B,i,((A.length+1:Nat):Int))=bif I x y then rec (A++x::y::B,i,(A.length:Int)) else r (A++y::x::B,wr .i64 (i+1)))
  (Z:∀ (rec:List α×Int×Int->Option R) (O:List α),step rec (O,i,0)=r (O,wr .i64 (i+1))) :
  ∀ (A B:List α) (x:α) (k:Nat),(∀ y∈A,P y)->P x->A.length+B.length<=1048576->A.length<k->ae step k (A.reverse++x::B,i,(A.length:Int))=r (dA I x A B,wr .i64 (i+1)):=by
 intro A;induction A with
 |nil =>
  intro B x k u J X H;obtain⟨k,rfl⟩:∃ M,k=M+1:=⟨k-1,by simp at H;omega⟩;exact Z (ae step k) (x::B)
 |cons y A ih =>
  intro B x k u J X H;simp only[BJ]at H X;obtain⟨k,rfl⟩:∃ M,k=M+1:=⟨k-1,by omega⟩;have Y:=h (ae step k) A.reverse y x B (u y (by simp)) J (by simp;omega);simp only[Cg]at Y;show step (ae step k) _=_;rw[CR,CE];simp only[BJ,DJ,BQ,dA];rw[Y];cases I x y with
  |true=>exact ih (y::B) x k (λz hz=>u z (by simp[hz])) J (by simp;omega) (by omega)
  |false=>simp
theorem tf {α:Type}(P:α->Prop)(r:α->α->Bool){step:(List α×Int->Option (SoR α))->List α×Int->Option (SoR α)}(n:Nat)(hn:n<=1048576)
  (h:∀ (rec:List α×Int->Option (SoR α)) (done:List α) (x:α) (xs:List α),(∀ y∈done,P y)->P x->done.length+1+xs.length=n->step rec (done++x::xs,(done.length:Int))=rec (dA r x done.reverse xs,wr .i64 ((done.length:Int)+1)))
  (Z:∀ (rec:List α×Int->Option (SoR α)) (X:List α) (i:Int),(n:Int)<=i->step rec (X,i)=some ((),(X,()))) :
  ∀ (xs done:List α) (k:Nat),(∀ y∈done,P y)->(∀ y∈xs,P y)->done.length+xs.length=n->xs.length<k->ae step k (done++xs,(done.length:Int))=some ((),(cR r done xs,())):=by
 intro xs;induction xs with
 |nil =>
  intro done k I u J R;obtain⟨k,rfl⟩:∃ O,k=O+1:=⟨k-1,by omega⟩;show step (ae step k) _=_;rw[Z _ _ _ (by simp at J;omega)];simp[cR]
 |cons x xs ih =>
  intro done k I u J R;simp only[BJ]at R J;obtain⟨k,rfl⟩:∃ O,k=O+1:=⟨k-1,by omega⟩;show step (ae step k) _=_;rw[h _ _ _ _ I (u x (by simp)) (by omega),ar _ (by omega)];have e:dA r x done.reverse xs=dA r x done.reverse []++xs:=oY r x done.reverse [] xs;have Y:(dA r x done.reverse []).length=done.length+1:=by rw[oZ];simp
  rw[e,<- Y];refine ih _ k (λz M=>?_) (λz M=>u z (by simp[M])) (by rw[Y];omega) (by omega);have H:=(mT r x done.reverse []).mem_iff.1 M;simp only[B3,BO,CH]at H;rcases H with rfl|H
  ·exact u z (by simp)
  ·exact I z H
theorem xk {α:Type}(P:α->Prop)(u:α->α->Bool){step:(List α×Int->Option (SoR α))->List α×Int->Option (SoR α)}(xs:List α)(H:∀ y∈xs,P y)(R:xs.length<=1048576)
  (h:∀ (rec:List α×Int->Option (SoR α)) (done:List α) (x:α) (r:List α),(∀ y∈done,P y)->P x->done.length+1+r.length=xs.length->step rec (done++x::r,(done.length:Int))=rec (dA u x done.reverse r,wr .i64 ((done.length:Int)+1)))
  (I:∀ (rec:List α×Int->Option (SoR α)) (M:List α) (i:Int),(xs.length:Int)<=i->step rec (M,i)=some ((),(M,()))) {k:Nat} (J:xs.length<k) :
  ae step k (xs,1)=some ((),(cR u [] xs,())):=by
 cases xs with
 |nil =>
  obtain⟨k,rfl⟩:∃ O,k=O+1:=⟨k-1,by simp at J;omega⟩;exact I (ae step k) [] 1 (by simp)
 |cons x xs =>
  simp only[BJ]at J;have:=tf P u (xs.length+1) (by simpa using R) h I xs [x] k (λy z=>H y (by simpa using .inl (by simpa using z))) (λy z=>H y (by simp[z])) (by simp;omega) (by omega);exact this
def ltZ (a b:Int):Bool:=decide (a<b)
theorem AX (K:Nat)(a b:Int):Q89.f K (a,b,())=some ((ltZ a b,()),()):=by
 simp only[Q89.f,Q33.f,ltZ];simp
theorem yO (K:Nat)(xs:List Int)(H:Int×Int×Unit->Option Int)(I:Int->Int->Bool)(P:Int->Prop)(R:∀ y∈xs,P y)(hφ:∀ y z,P y->P z->∃ c,H (y,z,())=some c/\decide (c<0)=I y z)(hx:xs.length<=1048576)(hK:1048577<K) :
  Q83.f K (xs,0,(xs.length:Int),H,())=some ((),(cR I [] xs,())):=by
 refine xk P (step:=λrec a=>Q83.s0 K (xs,0,(xs.length:Int),H,()) (Q83.l1 K (xs,0,(xs.length:Int),H,()) rec) rec a) I xs R hx ?_ ?_ (by omega)
 ·intro rec done x r M J hl;simp only[Q83.s0];rw[decide_eq_true (by omega:((done.length:Int))<(xs.length:Int))];simp only[cond_true];have:=um P I (done.length:Int) rec (step:=λu a=>Q83.s1 K (xs,0,(xs.length:Int),H,()) rec u a) ?_ ?_ done.reverse r x K (λy O=>M y (by simpa using O)) J (by simp;omega) (by simp;omega)
  ·rw[B3,Cg]at this;exact this
  ·intro u A y z B O hz Z;simp only[Q83.s1];have e1:wr .i64 (((A.length+1:Nat):Int)-1)=(A.length:Int):=(aG (by omega) (by omega)).trans (by omega);rw[decide_eq_true (by omega:((A.length+1:Nat):Int)>0)];obtain⟨c,X,M⟩:=hφ z y hz O;simp only[cond_true,e1,BH,td,uX,BD,X,M,te,uY]
  ·intro u Y;simp only[Q83.s1];rw[decide_eq_false (by omega:¬ (0:Int)>0)];rfl
 ·intro rec Y i hi;simp only[Q83.s0];rw[decide_eq_false (by omega:¬ i<(xs.length:Int))];rfl
theorem yP (K:Nat)(xs:List Int)(u:Int×Int×Unit->Option Int)(H:Int->Int->Bool)(P:Int->Prop)(I:∀ y∈xs,P y)(hφ:∀ y z,P y->P z->∃ c,u (y,z,())=some c/\decide (c<0)=H y z)(R:xs.length<=19)(J:1048577<K) :
  Q85.f K (xs,u,())=some ((),(cR H [] xs,())):=by
 simp only[Q85.f];have:Q84.f K (xs,(xs.length:Int),u,())=some ((),(cR H [] xs,())):=by
  obtain⟨k,rfl⟩:∃ O,K=O+1:=⟨K-1,by omega⟩;show Q84.s0 _ _ _ _ _=_;simp only[Q84.s0];rw[decide_eq_false (by omega:¬ (20:Int)<=(xs.length:Int))];simp only[cond_false];rw[yO (k+1) xs u H P I hφ (by omega) J];simp only[BD];have M:∀ (r:Q84.A1->Option Q84.Res),Q84.s1 (k+1) (xs,(xs.length:Int),u,()) (Q84.l2 (k+1) (xs,(xs.length:Int),u,()) r) r (cR H [] xs,20)=some ((),(cR H [] xs,())):=by
   intro r;simp only[Q84.s1];rw[decide_eq_false (by omega:¬ (20:Int)<(xs.length:Int))];rfl
  exact M _
 rw[this];rfl
theorem yQ (K:Nat)(xs:List Int)(J:xs.length<=1048576)(O:1048577<K) :
  Q90.f K (xs,0,(xs.length:Int),())=some ((),(cR ltZ [] xs,())):=by
 refine yN (step:=λrec a=>Q90.s0 K (xs,0,(xs.length:Int),()) (Q90.l1 K (xs,0,(xs.length:Int),()) rec) rec a) ltZ xs J ?_ ?_ (by omega)
 ·intro rec done x r R;simp only[Q90.s0];rw[decide_eq_true (by omega:((done.length:Int))<(xs.length:Int))];simp only[cond_true];have:=vL ltZ (done.length:Int) rec (step:=λu a=>Q90.s1 K (xs,0,(xs.length:Int),()) rec u a) ?_ ?_ done.reverse r x K (by simp;omega) (by simp;omega)
  ·rw[B3,Cg]at this;exact this
  ·intro u A y z B I;simp only[Q90.s1];have M:wr .i64 (((A.length+1:Nat):Int)-1)=(A.length:Int):=(aG (by omega) (by omega)).trans (by omega);rw[decide_eq_true (by omega:((A.length+1:Nat):Int)>0)];simp only[cond_true,M,BH,td,uX,BD,te,uY];rw[show Q89.f K (z,y,())=_ from AX K z y];rfl
  ·intro u H;simp only[Q90.s1];rw[decide_eq_false (by omega:¬ (0:Int)>0)];rfl
 ·intro rec H i X;simp only[Q90.s0];rw[decide_eq_false (by omega:¬ i<(xs.length:Int))];rfl
theorem yR (K:Nat)(xs:List Int)(z:xs.length<=12)(u:1048577<K) :
  Q96.f K (xs,())=some ((),(cR ltZ [] xs,())):=by
 simp only[Q96.f,Q88.f];obtain⟨l,y⟩:∃ l:Int,Q87.f K (wr .u64 (xs.length:Int),())=some ((l,()),()):=by
  have e:wr .u64 (xs.length:Int)=(xs.length:Int):=by
   show IntKind.u64.wrap _=_;have r:IntKind.u64.wrap (xs.length:Int)=(xs.length:Int) % 18446744073709551616:=by simp[IntKind.wrap,IntKind.bits,IntKind.signed]
   rw[r];omega
  rw[e];generalize J:xs.length=n at z;have:n=0\/n=1\/n=2\/n=3\/n=4\/n=5\/n=6\/n=7\/n=8\/n=9\/n=10\/n=11\/n=12:=by omega
  rcases this with rfl|rfl|rfl|rfl|rfl|rfl|rfl|rfl|rfl|rfl|rfl|rfl|rfl
  ·exact⟨0,by kernel_rfl⟩
  ·exact⟨1,by kernel_rfl⟩
  ·exact⟨2,by kernel_rfl⟩
  ·exact⟨2,by kernel_rfl⟩
  ·exact⟨3,by kernel_rfl⟩
  ·exact⟨3,by kernel_rfl⟩
  ·exact⟨3,by kernel_rfl⟩
  ·exact⟨3,by kernel_rfl⟩
  ·exact⟨4,by kernel_rfl⟩
  ·exact⟨4,by kernel_rfl⟩
  ·exact⟨4,by kernel_rfl⟩
  ·exact⟨4,by kernel_rfl⟩
  ·exact⟨4,by kernel_rfl⟩
 rw[y];simp only[BD];have:Q95.f K (xs,0,(xs.length:Int),l,())=some ((),(cR ltZ [] xs,())):=by
  obtain⟨k,rfl⟩:∃ I,K=I+1:=⟨K-1,by omega⟩;have H:∀ (rec:Q95.A0->Option Q95.Res) (a:Q95.A0),Q95.s0 (k+1) (xs,0,(xs.length:Int),l,()) rec a=some ((),(cR ltZ [] xs,())):=by
   intro rec a;simp only[Q95.s0];have e:wr .i64 ((xs.length:Int)-0)=(xs.length:Int):=(aG (by omega) (by omega)).trans (by omega);rw[e,decide_eq_true (by omega:(xs.length:Int)<=12)];simp only[cond_true];rw[yQ (k+1) xs (by omega) u];rfl
  exact H (λ_=>none) ()
 rw[this];rfl
def d9 (l:List aM)(i:Int):Int:=((l[i.toNat]?).map (·.2)).getD 0
def ltL (l:List aM)(a b:Int):Bool:=decide (d9 l b<d9 l a)
def lt2 (l:List aM)(a b:Int):Prop:=d9 l b<d9 l a\/(d9 l a=d9 l b/\a<b)
def cq (n:Nat):List Int:=(List.range n).map λ (i:Nat)=>(i:Int)
def bB (l:List aM):List Int:=cR (ltL l) [] (cq l.length)
theorem il {n:Nat}{i:Int}:i∈cq n<->0<=i/\i<n:=by
 unfold cq;rw[BX];constructor
 ·rintro⟨j,hj,rfl⟩;have:=DQ.1 hj;omega
 ·rintro⟨h0,h1⟩;exact⟨i.toNat,DQ.2 (by omega),by omega⟩
theorem jj (n:Nat):(cq n).Pairwise (·<·):=by
 unfold cq;rw[B6];exact List.pairwise_lt_range.imp λh=>by omega
theorem dO {l:List aM}{i:Nat}(h:i<l.length):d9 l (i:Int)=l[i].2:=by
 unfold d9;rw[BH,BP h];rfl
theorem tg (l:List aM):∀ (xs done:List Int),done.Pairwise (lt2 l)->(∀ a∈done,∀ b∈xs,a<b)->xs.Pairwise (·<·)->(cR (ltL l) done xs).Pairwise (lt2 l)
 |[],done,h,_,_=>h
 |x::xs,done,h,H,O=>by
  have y:=BZ.1 O;have M:jT (ltL l) done:=h.imp λ {a b} J=>by
   unfold ltL;rw[decide_eq_false_iff_not];rcases J with z|⟨z,_⟩ <;> omega
  have e:=li (ltL l) (λa b c z I=>by
   unfold ltL at z I ⊢;rw[decide_eq_false_iff_not]at z I ⊢;omega) x done.reverse [] (by rw[B3];exact M)
  rw[B3,BO]at e;simp only[cR];rw[e];refine tg l xs _ ?_ ?_ y.2
  ·rw[CP,BZ];refine⟨h.filter _,⟨λb u=>?_,h.filter _⟩,λa r b u=>?_⟩
   ·have z:ltL l x b=true:=by simpa using (BK.1 u).2
    exact .inl (by simpa[ltL]using z)
   ·have z:ltL l x a=false:=by simpa using (BK.1 r).2
    have Y:¬ d9 l a<d9 l x:=by simpa[ltL]using z
    have R:=H a (BK.1 r).1 x (by simp);rcases CH.1 u with rfl|u
    ·by_cases I:d9 l b<d9 l a
     ·exact .inl I
     ·exact .inr ⟨by omega,R⟩
    ·have I:ltL l x b=true:=by simpa using (BK.1 u).2
     have X:d9 l b<d9 l x:=by simpa[ltL]using I
     exact .inl (by omega)
  ·intro a r b u;rcases CN.1 r with r|r
   ·exact H a (BK.1 r).1 b (by simp[u])
   ·rcases CH.1 r with rfl|r
    ·exact y.1 b u
    ·exact H a (BK.1 r).1 b (by simp[u])
theorem pK (l:List aM):(bB l).Pairwise (lt2 l):=tg l _ [] List.Pairwise.nil (by simp) (jj _)
theorem mh (l:List aM):(bB l).Perm (cq l.length):=by
 unfold bB;simpa using mg (ltL l) (cq l.length) []
theorem iG {l:List aM}{i:Int}:i∈bB l<->0<=i/\i<l.length:=by rw[(mh l).mem_iff,il]
theorem xm (l:List aM):(bB l).length=l.length:=by rw[(mh l).length_eq];simp[cq]
theorem un (l:List aM):(bB l).Nodup:=(mh l).nodup_iff.2 ((jj _).imp λh=>by omega)
def dp (T:List Int)(n:Nat):List Bool:=(cq n).map λi=>decide (i∈T)
theorem fh (T:List Int)(n:Nat):(dp T n).length=n:=by simp[dp,cq]
theorem iH (T:List Int){n i:Nat}(h:i<n):(dp T n)[i]'(by rw[fh];exact h)=decide ((i:Int)∈T):=by
 simp[dp,cq]
theorem xn {T:List Int}{n b:Nat}(u:b<n):(dp T n).set b true=dp (T++[(b:Int)]) n:=by
 refine Cp (by rw[C7,fh,fh]) λi y r=>?_
 rw[fh]at r;rw[DK,iH _ r];by_cases h:b=i
 ·subst h;rw[if_pos rfl,iH _ r];simp
 ·rw[if_neg h,iH _ r];have:¬ (i:Int)=(b:Int):=by omega
  simp[this]
def pL (l:List aM)(T:List Int)(i:Nat)(r:Int):Prop :=
 (r=-1/\∀ j:Nat,j<i->(j:Int)∈T)\/(0<=r/\r<i/\r∉T/\∀ j:Nat,j<i->(j:Int)∉T->(j:Int)≠r->lt2 l r (j:Int))
theorem Ae (K:Nat)(l:List aM)(T:List Int)(hl:l.length<=1048576):∀ (d i k:Nat) (r:Int),i+d=l.length->d<k->pL l T i r ->
  ∃ b:Int,ae (λrec a=>Q166.s0 K (l,dp T l.length,()) rec a) k (r,(i:Int))=some ((b,()),())/\pL l T l.length b:=by
 intro d;induction d with
 |zero =>
  intro i k r hi hk Z;obtain⟨k,rfl⟩:∃ k',k=k'+1:=⟨k-1,by omega⟩;have:i=l.length:=by omega
  subst this;refine⟨r,?_,Z⟩;show Q166.s0 K (l,dp T l.length,()) _ _=_;simp only[Q166.s0,aT];rfl
 |succ d ih =>
  intro i k r hi hk Z;obtain⟨k,rfl⟩:∃ k',k=k'+1:=⟨k-1,by omega⟩;have y:i<l.length:=by omega
  have I:∀ r,pL l T (i+1) r->∃ b:Int,ae (λrec a=>Q166.s0 K (l,dp T l.length,()) rec a) k (r,((i+1:Nat):Int))=some ((b,()),())/\pL l T l.length b:=λr h=>ih (i+1) k r (by omega) (by omega) h
  show ∃ b:Int,Q166.s0 K (l,dp T l.length,()) (ae (λrec a=>Q166.s0 K (l,dp T l.length,()) rec a) k) (r,(i:Int))=_/\_;generalize ae (λrec a=>Q166.s0 K (l,dp T l.length,()) rec a) k=REC at I ⊢;simp only[Q166.s0];rw[bq (by omega:(i:Int)<(BE l:Int)),ag (show i<(dp T l.length).length by rw[fh];exact y),iH T y,ar i (by omega)];simp only[cond_true,BD];by_cases O:(i:Int)∈T
  ·rw[decide_eq_true O];simp only[BM,cond_false];refine I r ?_;rcases Z with ⟨rfl,h⟩|⟨h0,h1,h2,X⟩
   ·refine .inl ⟨rfl,λj Y=>?_⟩;by_cases z:j=i
    ·subst z;exact O
    ·exact h j (by omega)
   ·refine .inr ⟨h0,by omega,h2,λj Y u H=>?_⟩;by_cases z:j=i
    ·subst z;exact absurd O u
    ·exact X j (by omega) u H
  ·rw[decide_eq_false O];simp only[B8,cond_true];rcases Z with ⟨rfl,h⟩|⟨h0,h1,h2,X⟩
   ·rw[show decide ((-1:Int)<0)=true from rfl];refine I (i:Int) (.inr ⟨by omega,by omega,O,λj Y u H=>?_⟩);exact absurd (h j (by omega)) u
   ·rw[decide_eq_false (by omega:¬ r<0)];obtain⟨b,rfl⟩:=BI h0;have J:b<l.length:=by omega
    simp only[cond_false];rw[ag y,ag J];simp only[BD];by_cases M:l[i].2>l[b].2
    ·rw[decide_eq_true M];refine I (i:Int) (.inr ⟨by omega,by omega,O,λj Y u H=>?_⟩);have z:j<i:=by omega
     have a1:j<l.length:=by omega
     by_cases R:(j:Int)=(b:Int)
     ·rw[R];exact .inl (by rw[dO y,dO J];exact M)
     ·have:=X j z u R;rcases this with h4|⟨h4,_⟩
      ·exact .inl (by rw[dO J]at h4;rw[dO y];omega)
      ·exact .inl (by rw[dO J]at h4;rw[dO y];omega)
    ·rw[decide_eq_false M];refine I (b:Int) (.inr ⟨by omega,by omega,h2,λj Y u H=>?_⟩);by_cases z:j=i
     ·subst z;by_cases a0:d9 l (b:Int)=d9 l (j:Int)
      ·exact .inr ⟨a0,h1⟩
      ·refine .inl ?_;rw[dO y,dO J]at *;omega
     ·exact X j (by omega) u H
theorem AY (K:Nat)(l:List aM)(n:Nat)(hl:l.length<=1048576)(hK:1048577<K):Q166.f K (l,dp ((bB l).take n) l.length,())=some ((((bB l)[n]?).getD (-1),()),()):=by
  obtain⟨b,e,hb⟩:=Ae K l ((bB l).take n) hl l.length 0 K (-1) (by omega) (by omega) (.inl ⟨rfl,λj H=>by omega⟩);have:b=((bB l)[n]?).getD (-1):=by
    by_cases I:n<(bB l).length
    · rw[BP I]
      show b=(bB l)[n];have Z:(bB l)[n]∉(bB l).take n:=λh=>by
        obtain⟨j,H,e⟩:=BL h;rw[BV]at H;rw[Ch]at e;have:=CM.1 (pK l) j n (by omega) I (by omega);rw[e]at this;rcases this with u|⟨_,u⟩ <;> omega
      have hr:=iG.1 (BF I);obtain⟨m,r⟩:=BI hr.1;rcases hb with ⟨rfl,h⟩|⟨O,Y,y,h3⟩
      · have:=h m (by omega)
        rw[<- r]at this;exact absurd this Z
      · by_cases J:b=(bB l)[n]
        · exact J
        · exfalso
          have z:=h3 m (by omega) (by rw[<- r];exact Z) (by rw[<- r];exact λh=>J h.symm);rw[<- r]at z;have R:b∈bB l:=iG.2 ⟨O,Y⟩;obtain⟨j,H,M⟩:=BL R;have X:n<j:=by
            rcases Ck j n with h|h|h
            · exact absurd (List.mem_take_iff_getElem.2 ⟨j,by omega,M⟩) y
            · subst h;exact absurd M.symm J
            · exact h
          have u:=CM.1 (pK l) n j I H X;rw[M]at u;rcases z with z|⟨z,h6⟩ <;> rcases u with u|⟨u,h7⟩ <;> omega
    · rw[CY (by omega)]
      show b=-1;rcases hb with ⟨rfl,_⟩|⟨O,Y,y,_⟩
      · rfl
      · exfalso
        rw[CB (by omega)]at y;exact y (iG.2 ⟨O,Y⟩)
  rw[<- this];exact e
def bX (l:List aM):List Int:=(bB l).take 3
def gu (l:List aM)(i:Int):aM:=(l[i.toNat]?).getD ((0,0,0,false),0)
def dP (l:List aM)(T:List Int)(i:Int):aM:=bif decide (i∈T) then ((gu l i).1,(gu l i).2-1) else gu l i
def eo (l:List aM)(T:List Int)(n:Nat):List af:=((cq n).filter λi=>decide (i∈T)).map λi=>(gu l i).1
def fY (l:List aM)(T:List Int)(n:Nat):List aM:=(cq n).map (dP l T)
def dC (l:List aM)(T:List Int)(n:Nat):List aM:=(fY l T n).filter λx=>decide (x.2>0)
theorem co {l:List aM}{i:Nat}(h:i<l.length):gu l (i:Int)=l[i]:=by
 unfold gu;rw[BH,BP h];rfl
theorem mV (n:Nat):cq (n+1)=cq n++[(n:Int)]:=by
 unfold cq;rw[List.range_succ,Cr];rfl
theorem vM (l:List aM)(T:List Int)(n:Nat):eo l T (n+1)=eo l T n++(bif decide ((n:Int)∈T) then [(gu l (n:Int)).1] else []):=by
 unfold eo;rw[mV,CV,Cr,B9];cases decide ((n:Int)∈T) <;> rfl
theorem vN (l:List aM)(T:List Int)(n:Nat):dC l T (n+1)=dC l T n++(bif decide ((dP l T (n:Int)).2>0) then [dP l T (n:Int)] else []):=by
 unfold dC fY;rw[mV,Cr,CV,Cx,B9];cases decide ((dP l T (n:Int)).2>0) <;> rfl
theorem xo (l:List aM)(T:List Int)(n:Nat):(eo l T n).length<=n:=by
 unfold eo;rw[BR];refine BW (B7 _ _) ?_;simp[cq]
theorem xp (l:List aM)(T:List Int)(n:Nat):(dC l T n).length<=n:=by
 unfold dC;refine BW (B7 _ _) ?_;simp[fY,cq]
theorem Af (K:Nat)(l:List aM)(m:Int)(T:List Int)(R:l.length<=1048576)(H:cQ l)(O:1048577<K) :
  Q167.l1 K (l,m,()) (dp T l.length,[],[],0)=some ((eo l T l.length,dC l T l.length,()),()):=by
 refine eZ (step:=λrec a=>Q167.s1 K (l,m,()) rec a) l.length (λi=>(dp T l.length,eo l T i,dC l T i,(i:Int))) (some ((eo l T l.length,dC l T l.length,()),())) ?_ ?_ (by omega)
 ·intro rec i r;simp only[Q167.s1];have u:i<(dp T l.length).length:=by rw[fh];exact r
  have X:=xo l T i;have J:=xp l T i;obtain⟨M,I⟩:=(H.1 l[i] (BF r)).2;rw[bq (by omega:(i:Int)<(BE l:Int)),ag r,ag u,ar i (by omega),BH,ag u,iH T r,vM,vN,co r];simp only[cond_true,BD];cases z:decide ((i:Int)∈T) with
  |true =>
   have y:dP l T (i:Int)=(l[i].1,l[i].2-1):=by unfold dP;rw[z,co r];rfl
   rw[y];simp only[cond_true];rw[szb _ _ _ (by omega) (by simp;omega),aG (n:=l[i].2-1) (by omega) (by omega)];simp only[cond_true];cases decide (l[i].2-1>0) with
   |true =>
    simp only[cond_true];rw[szb _ _ _ (by omega) (by simp;omega)];rfl
   |false =>
    simp only[cond_false,BO]
  |false =>
   have y:dP l T (i:Int)=l[i]:=by unfold dP;rw[z,co r];rfl
   rw[y];simp only[cond_false,BO];cases decide (l[i].2>0) with
   |true =>
    simp only[cond_true];rw[szb _ _ _ (by omega) (by simp;omega)];rfl
   |false =>
    simp only[cond_false,BO]
 ·intro rec;simp only[Q167.s1,aT];rfl
theorem AZ (K:Nat)(l:List aM)(O:l.length<=1048576)(hC:cQ l)(M:1048577<K):Q167.f K (l,3,())=some ((eo l (bX l) l.length,dC l (bX l) l.length,()),()):=by
 have u:∀ T,Q167.l1 K (l,3,()) (dp T l.length,[],[],0)=some ((eo l T l.length,dC l T l.length,()),()):=λT=>Af K l 3 T O hC M
 have Y:∀ (d n k:Nat),n+d=3->d<k->ae (λrec a=>Q167.s0 K (l,3,()) (Q167.l1 K (l,3,())) rec a) k (dp ((bB l).take n) l.length,(n:Int))=some ((eo l (bX l) l.length,dC l (bX l) l.length,()),()):=by
  intro d;induction d with
  |zero =>
   intro n k hn hk;obtain⟨k,rfl⟩:∃ I,k=I+1:=⟨k-1,by omega⟩;have:n=3:=by omega
   subst this;exact u _
  |succ d ih =>
   intro n k hn hk;obtain⟨k,rfl⟩:∃ I,k=I+1:=⟨k-1,by omega⟩;have y:=ih (n+1) k (by omega) (by omega);show Q167.s0 K (l,3,()) (Q167.l1 K (l,3,())) (ae (λrec a=>Q167.s0 K (l,3,()) (Q167.l1 K (l,3,())) rec a) k) (dp ((bB l).take n) l.length,(n:Int))=_;generalize ae (λrec a=>Q167.s0 K (l,3,()) (Q167.l1 K (l,3,())) rec a) k=REC at y ⊢;simp only[Q167.s0];rw[decide_eq_true (by omega:(n:Int)<3),AY K l n O M,ar n (by omega)];simp only[cond_true,BD];by_cases r:n<(bB l).length
   ·rw[BP r];have R:=iG.1 (BF r);have H:(bB l).take (n+1)=(bB l).take n++[(bB l)[n]]:=CQ r;rw[H]at y;simp only[DL];generalize (bB l)[n]=v at R y ⊢;obtain⟨b,rfl⟩:=BI R.1;have X:b<l.length:=by omega
    have z:b<(dp ((bB l).take n) l.length).length:=by rw[fh];exact X
    rw[decide_eq_false (by omega:¬ (b:Int)<0),ag z,BH,ag z,xn X];exact y
   ·rw[CY (by omega)];show Q167.l1 K (l,3,()) (dp ((bB l).take n) l.length,[],[],0)=_;rw[u,show (bB l).take n=bX l by unfold bX;rw[CB (by omega),CB (by omega)]]
 simp only[Q167.f,Q167.pre];rw[decide_eq_true (by omega:(0:Int)<=(BE l:Int)),show decide ((BE l:Int)*(1:Nat)<=ak)=true from decide_eq_true (by simp only[ak];omega),BH];simp only[decide_true,CX,cond_true];have Z:Cd l.length false=dp ((bB l).take 0) l.length:=by
  refine Cp (by rw[Cn,fh]) λi h1 J=>?_
  rw[fh]at J;rw[List.getElem_replicate,iH _ J];simp
 have:=Y 3 0 K (by omega) (by omega);rw[<- Z]at this;exact this
theorem rX {a b:List Int}(r:a.Nodup)(u:b.Nodup)(h:∀ x,x∈a<->x∈b):a.Perm b:=by
 rw[List.perm_iff_count];intro x;rw[r.count,u.count];simp[h]
def cY (l:List aM):List Int:=(cq l.length).filter λi=>decide (i∈bX l)
theorem uo (l:List aM):cR ltZ [] (bX l)=cY l:=by
 have u:(bX l).Nodup:=(un l).sublist (List.take_sublist _ _);have r:((cq l.length).filter λi=>decide (i∈bX l)).Nodup:=((jj l.length).imp (λh=>by omega:∀ {a b:Int},a<b->a≠b)).filter _;refine od ltZ ?_ (mU ltZ (λa b c u r=>by
  unfold ltZ at u r ⊢;rw[decide_eq_false_iff_not]at u r ⊢;omega) (λa b h=>by
  unfold ltZ at h ⊢;rw[decide_eq_true_eq]at h;rw[decide_eq_false_iff_not];omega) (bX l) [] List.Pairwise.nil) ?_
 ·refine (by simpa using mg ltZ (bX l) []:(cR ltZ [] (bX l)).Perm (bX l)).trans (rX u r λx=>?_);rw[cY,BK,decide_eq_true_eq,il];exact⟨λh=>⟨iG.1 (DC h),h⟩,λh=>h.2⟩
 ·exact ((jj l.length).filter _).imp λh=>by unfold ltZ;exact decide_eq_true h
theorem xq {l:List aM}{i:Int}:i∈cY l<->i∈bX l:=by
 unfold cY;rw[BK,decide_eq_true_eq,il];exact⟨λh=>h.2,λh=>⟨iG.1 (DC h),h⟩⟩
theorem xt (l:List aM):(cY l).Pairwise (·<·):=(jj l.length).filter _
theorem eK (l:List aM)(T:List Int)(n:Nat):(fY l T n).length=n:=by simp[fY,cq]
theorem fp (l:List aM)(T:List Int){n i:Nat}(h:i<n):(fY l T n)[i]'(by rw[eK];exact h)=dP l T (i:Int):=by
 simp[fY,cq]
theorem yS (l:List aM):fY l [] l.length=l:=by
 refine Cp (eK _ _ _) λi u r=>?_
 rw[fp l [] r];unfold dP;rw[co r];simp
theorem yT {l:List aM}{T:List Int}{b:Nat}(y:b<l.length):(fY l T l.length).set b ((gu l (b:Int)).1,(gu l (b:Int)).2-1)=fY l (T++[(b:Int)]) l.length:=by
 refine Cp (by rw[C7,eK,eK]) λi u r=>?_
 rw[eK]at r;rw[DK,fp _ _ r];by_cases h:b=i
 ·subst h;rw[if_pos rfl,fp _ _ r];unfold dP;rw[decide_eq_true (by simp:(b:Int)∈T++[(b:Int)])];rfl
 ·rw[if_neg h,fp _ _ r];unfold dP;have:((i:Int)∈T++[(b:Int)])<->(i:Int)∈T:=by
   rw[CN,CD];exact⟨λu=>u.resolve_right (by omega),.inl⟩
  rw[show decide ((i:Int)∈T++[(b:Int)])=decide ((i:Int)∈T) by rw[decide_eq_decide];exact this]
theorem vO {l:List aM}{T T':List Int}(h:∀ i,i∈T<->i∈T')(n:Nat):fY l T n=fY l T' n:=by
 unfold fY;refine List.map_congr_left λi _=>?_
 unfold dP;rw[show decide (i∈T)=decide (i∈T') by rw[decide_eq_decide];exact h i]
theorem uq (K:Nat)(x:ab Q98.ps)(l:List aM)(hl:l.length<=1048576)(Y:cQ l)(hK:1048577<K) :
  Q98.l1 K x (l,cY l,[],(BE (cY l):Int),0)=some ((eo l (bX l) l.length,dC l (bX l) l.length,()),()):=by
 have a0:(cY l).length<=l.length:=by
  refine BW (B7 _ _) ?_;simp[cq]
 refine Ct ?_ (eZ (step:=λrec a=>Q98.s1 K x rec a) (cY l).length (λi=>(fY l ((cY l).take i) l.length,cY l,((cY l).take i).map (λj=>(gu l j).1),(BE (cY l):Int),(i:Int))) (some ((eo l (bX l) l.length,dC l (bX l) l.length,()),())) ?_ ?_ (by omega:(cY l).length<K))
 ·simp only[List.take_zero,DS,yS];rfl
 ·intro rec i r;simp only[Q98.s1];have X:=il.1 ((BK.1 (BF r)).1);have u:(cY l)[i]∉(cY l).take i:=λh=>by
   obtain⟨j,hj,e⟩:=BL h;rw[BV]at hj;rw[Ch]at e;have:=CM.1 (xt l) j i (by omega) r (by omega);omega
  have M:(cY l).take (i+1)=(cY l).take i++[(cY l)[i]]:=CQ r;rw[M,Cr];have I:(((cY l).take i).map (λj=>(gu l j).1)).length<=1048576:=by rw[BR,BV];omega
  rw[bq (by omega:(i:Int)<(BE (cY l):Int)),ag r,ar i (by omega),BH,ag r];simp only[cond_true,BD];generalize (cY l)[i]=v at X u ⊢;obtain⟨b,rfl⟩:=BI X.1;have z:b<l.length:=by omega
  have H:b<(fY l ((cY l).take i) l.length).length:=by rw[eK];exact z
  have hd:dP l ((cY l).take i) (b:Int)=l[b]:=by
   unfold dP;rw[decide_eq_false u,co z];rfl
  obtain⟨c0,c1⟩:=(Y.1 l[b] (BF z)).2;rw[ag H,BH,ag H,fp l _ z,hd];simp only[BD];rw[szb _ _ _ (by omega) (by simp only[BR,BJ,BN]at I ⊢;omega),aG (n:=l[b].2-1) (by omega) (by omega),<- yT z,co z];simp only[cond_true,Cx,DS,co z]
 ·intro rec;simp only[Q98.s1,aT,cond_false,Ce,Q9.f];have e:∀ J:List aM,J.length<=1048576->gG t3 J (λO=>(Q97.f K (O.1,())).map λy=>y.1.1)=some ((J.filter (λx=>!(x.2==0)),()),()):=λJ R=>q9 (e:=t3) (λx=>x.2==0) R (λx _=>rfl)
  rw[e _ (by rw[eK];exact hl)];simp only[BD];rw[vO (l:=l) (T:=cY l) (T':=bX l) (λi=>xq) l.length];have Z:(fY l (bX l) l.length).filter (λx=>!(x.2==0))=dC l (bX l) l.length:=by
   unfold dC;refine Cw λx hx=>?_
   have h0:0<=x.2:=by
    obtain⟨i,r,rfl⟩:=BL hx;rw[eK]at r;rw[fp l _ r];obtain⟨c0,c1⟩:=(Y.1 l[i] (BF r)).2;unfold dP;rw[co r];cases decide ((i:Int)∈bX l) with
    |true=>show 0<=l[i].2-1;omega
    |false=>show 0<=l[i].2;omega
   rw[CO];simp;omega
  rw[Z];rfl
theorem vP (K:Nat)(l:List aM)(hl:l.length<=8)(I:cQ l)(H:1048577<K):Q98.f K (l,3,())=some ((eo l (bX l) l.length,dC l (bX l) l.length,()),()):=by
 simp only[Q98.f,Q98.pre];obtain⟨b1,e1,e2⟩:=oV K l (by omega) H;have Y:=e2.2 I;subst Y;rw[e1];simp only[BD,BM,cond_false];rw[decide_eq_true (by omega:(0:Int)<=(BE l:Int)),show decide ((BE l:Int)*(8:Nat)<=ak)=true from decide_eq_true (by simp only[ak];omega),BH];simp only[decide_true,CX,cond_true];have J:(cq l.length).length=l.length:=by simp[cq]
 have hS:∀ i,i<=l.length->(cq i++Cd (l.length-i) (0:Int)).length=l.length:=λi hi=>by simp[cq];omega
 refine Ct ?_ (eZ (step:=λrec a=>Q98.s0 K (l,3,()) (Q98.l1 K (l,3,())) rec a) l.length (λi=>(cq i++Cd (l.length-i) (0:Int),(i:Int))) (some ((eo l (bX l) l.length,dC l (bX l) l.length,()),())) ?_ ?_ (by omega:l.length<K))
 ·rfl
 ·intro rec i hi;simp only[Q98.s0];have u:i<(cq i++Cd (l.length-i) (0:Int)).length:=by rw[hS i (by omega)];exact hi
  rw[decide_eq_true (by rw[Cn];show (i:Int)<((BG (BE l:Int):Nat):Int);omega),ag u,ar i (by omega),BH,ag u];simp only[cond_true,BD];have e:(cq i++Cd (l.length-i) (0:Int)).set i (i:Int)=cq (i+1)++Cd (l.length-(i+1)) (0:Int):=by
   obtain⟨m,hm⟩:∃ m,l.length-i=m+1:=⟨l.length-i-1,by omega⟩;have M:(cq i).length=i:=by simp[cq]
   rw[hm,show l.length-(i+1)=m by omega,mV,DA _ _ (by omega),M,Nat.sub_self,List.replicate_succ,List.set_cons_zero,CE];rfl
  rw[e]
 ·intro rec;simp only[Q98.s0];rw[decide_eq_false (by rw[Cn];show ¬ (BE l:Int)<((BG (BE l:Int):Nat):Int);omega),Nat.sub_self,List.replicate_zero,BO];simp only[cond_false,Q2.f];have r:=yP K (cq l.length) (λZ=>(Q86.f K (Z.1,Z.2.1,l,())).map λy=>y.1.1) (ltL l) (λi=>0<=i/\i<l.length) (λy X=>il.1 X) (λy z X hz=>by
   obtain⟨a,rfl⟩:=BI X.1;obtain⟨b,rfl⟩:=BI hz.1;have O:a<l.length:=by omega
   have R:b<l.length:=by omega
   obtain⟨c0,c1⟩:=(I.1 l[a] (BF O)).2;obtain⟨c2,c3⟩:=(I.1 l[b] (BF R)).2;refine⟨l[b].2-l[a].2,?_,?_⟩
   ·simp only[Q86.f];rw[ag O,ag R];simp only[BD];rw[aG (n:=l[b].2-l[a].2) (by omega) (by omega)];rfl
   ·unfold ltL;rw[dO O,dO R,decide_eq_decide];omega) (by rw[J];omega) H
  rw[r];simp only[BD];rw[d5 (by omega)];simp only[BD];rw[show Q76.f K (cR (ltL l) [] (cq l.length),3,())=some ((bX l,()),()) from qv K (bB l) 3 (by rw[xm];omega)];simp only[BD];rw[yR K (bX l) (BW (CT _ _) (by omega)) H,uo];simp only[BD];exact uq K (l,3,()) l (by omega) I H
theorem Ba {a b:Int}(u:0<=a)(y:a<4611686018427387904)(z:0<=b)(r:b<4611686018427387904):0<=qn .i64 a b:=by
 obtain⟨m,rfl⟩:=BI u;obtain⟨n,rfl⟩:=BI z;have h:(BitVec.ofInt 64 (m:Int) ^^^ BitVec.ofInt 64 (n:Int)).toNat=m ^^^ n:=by
  rw[BitVec.toNat_xor,BitVec.toNat_ofInt,BitVec.toNat_ofInt];congr 1
  ·omega
  ·omega
 have H:m ^^^ n<2 ^ 62:=Nat.xor_lt_two_pow (by omega) (by omega);show 0<=IntKind.i64.wrap (((BitVec.ofInt 64 (m:Int) ^^^ BitVec.ofInt 64 (n:Int)).toNat:Nat):Int);rw[h,DM];omega
structure fZ (b:List Int):Prop where
 byte:∀ y∈b,0<=y/\y<=255
 len:b.length<=2000
theorem Ag (K:Nat)(b:List Int)(q:Nat)(n:Int)(h:fZ b)(hq:q<=100000)(hn:1<=n):∃ v:Int,Q117.f K ((b,(q:Int)),n,())=some ((v,()),((b,((q+1:Nat):Int)),()))/\0<=v/\v<n:=by
 have w1:wr .i64 ((q:Int)+1)=((q+1:Nat):Int):=ar q (by omega);have w2:wr .i64 (((q+1:Nat):Int)-1)=(q:Int):=by rw[aG (n:=((q+1:Nat):Int)-1) (by omega) (by omega)];omega
 have hl:=h.len;have J:decide (n=0)=false:=decide_eq_false (by omega);have r:∀ x:Int,0<=x->0<=CG x n/\CG x n<n:=λx u=>⟨C8 _ u,Cu _ (by omega)⟩
 simp only[Q117.f];rw[decide_eq_false (by omega:¬ n<1)];simp only[cond_false,w1,w2,J];by_cases O:b.length=0
 ·rw[show ((b.length:Int)==0)=true by simpa using O];exact⟨0,rfl,by omega,by omega⟩
 ·rw[show ((b.length:Int)==0)=false by simpa using O];simp only[cond_false];by_cases H:q<b.length
  ·rw[decide_eq_true (by omega:(q:Int)<(b.length:Int)),ag H];simp only[cond_true,BD];obtain⟨I,M⟩:=h.byte b[q] (BF H);rw[aG (n:=b[q]) (by omega) (by omega)];exact⟨_,rfl,r _ I⟩
  ·rw[decide_eq_false (by omega:¬ (q:Int)<(b.length:Int)),decide_eq_false (by omega:¬ (b.length:Int)=0)];simp only[cond_false];have t1:CG (q:Int) (b.length:Int)=((q % b.length:Nat):Int):=by rw[Cv (by omega)];rfl
   have t2:wr .i64 (wr .i64 ((q:Int)*7)+3)=((q*7+3:Nat):Int):=by rw[aG (n:=(q:Int)*7) (by omega) (by omega),aG (n:=(q:Int)*7+3) (by omega) (by omega)];omega
   have t3:CG (((q*7+3:Nat)):Int) (b.length:Int)=(((q*7+3) % b.length:Nat):Int):=by rw[Cv (by omega)];rfl
   have Y:q % b.length<b.length:=Nat.mod_lt _ (by omega);have R:(q*7+3) % b.length<b.length:=Nat.mod_lt _ (by omega);rw[t1,t2,t3,ag Y,ag R];simp only[BD];obtain⟨I,M⟩:=h.byte b[q % b.length] (BF Y);obtain⟨z0,z1⟩:=h.byte b[(q*7+3) % b.length] (BF R);generalize b[q % b.length]=y at I M ⊢;generalize b[(q*7+3) % b.length]=z at z0 z1 ⊢;have Z:0<=Cl (q:Int) (b.length:Int)/\Cl (q:Int) (b.length:Int)<=q:=⟨DP (by omega) (by omega),DN _ (by omega)⟩;generalize Cl (q:Int) (b.length:Int)=e at Z ⊢;have x1:wr .i64 (wr .i64 (wr .i64 (wr .i64 (wr .i64 y*131)+wr .i64 (wr .i64 z*1117))+wr .i64 ((q:Int)*29))+wr .i64 (wr .i64 e*53))=y*131+z*1117+q*29+e*53:=by
    rw[aG (n:=y) (by omega) (by omega),aG (n:=z) (by omega) (by omega),aG (n:=e) (by omega) (by omega),aG (n:=y*131) (by omega) (by omega),aG (n:=z*1117) (by omega) (by omega),aG (n:=(q:Int)*29) (by omega) (by omega),aG (n:=e*53) (by omega) (by omega),
     aG (n:=y*131+z*1117) (by omega) (by omega),aG (n:=y*131+z*1117+(q:Int)*29) (by omega) (by omega),aG (n:=y*131+z*1117+(q:Int)*29+e*53) (by omega) (by omega)]
   rw[x1];have u:0<=y*131+z*1117+q*29+e*53/\y*131+z*1117+q*29+e*53<=10000000:=by omega
   generalize y*131+z*1117+(q:Int)*29+e*53=X at u ⊢;have d2:0<=Cl X 64/\Cl X 64<=X:=⟨DP u.1 (by omega),DN _ u.1⟩;rw[aG (n:=Cl X 64) (by omega) (by omega)];exact⟨_,rfl,r _ (Ba u.1 (by omega) d2.1 (by omega))⟩
theorem vQ (K:Nat)(t:List af)(f:af)(ht:t.length<=1048576)(O:Asc (λg:af=>g.1) t)(hK:1048577<K):Q119.f K (t,f,())=some (((bT t f).1,(bT t f).2,()),()):=by
 simp only[Q119.f,Q119.pre];obtain⟨o,H,M⟩:=fC K t f.1 ht hK;rw[M];simp only[BD];cases H with
 |at_ i r e =>
  simp only;rw[kw O r e,decide_eq_true (by omega:((i:Nat):Int)>=0),ag r];simp only[cond_true,BD,BH,ag r];rw[show Q19.f K (f,t[i],())=_ from pG K f t[i]];simp only[BD];by_cases H:bS f t[i]
  ·rw[decide_eq_true H,if_pos H];simp only[BM,cond_false];rw[szb _ _ _ (by omega) (by show (BE ([]:List af))+t.length<=_;simp;omega)];simp only[cond_true,BQ,ag r,BD,BH];rw[kv (k:=λg:af=>g.1) O r e]
  ·rw[decide_eq_false H,if_neg H];rfl
 |no h =>
  simp only;rw[ij h,decide_eq_false (by omega:¬ (-1:Int)>=0)];simp only[cond_false];have J:∀ m:Nat,m<=t.length->(bif decide ((0:Int)<=0)&&decide ((0:Int)<=(m:Int))&&decide ((m:Int)<=(BE t:Int))&&true then (bif decide ((BE ([]:List af)+BE ((t.take (BG (m:Int))).drop (BG 0)))*32<=ak) then (bif decide ((BE ([]++((t.take (BG (m:Int))).drop (BG 0)))+BE ([f]))*32<=ak) then (bif decide ((0:Int)<=(m:Int))&&decide ((m:Int)<=(BE t:Int))&&decide ((BE t:Int)<=(BE t:Int))&&true then (bif decide ((BE (([]++((t.take (BG (m:Int))).drop (BG 0)))++([f]))+BE ((t.take (BG (BE t:Int))).drop (BG (m:Int))))*32<=ak) then (some (((([]++((t.take (BG (m:Int))).drop (BG 0)))++([f]))++((t.take (BG (BE t:Int))).drop (BG (m:Int))),true,()),())) else none) else none) else none) else none) else (none:Option ((List af×Bool×Unit)×Unit)))=some ((t.take m++[f]++t.drop m,true,()),()):=by
   intro m X;rw[decide_eq_true (by omega:(0:Int)<=0),decide_eq_true (by omega:(0:Int)<=(m:Int)),decide_eq_true (by omega:(m:Int)<=(BE t:Int)),decide_eq_true (by omega:(BE t:Int)<=(BE t:Int))];simp only[BH,Ca,BY,BQ,Ce,CX,cond_true];have M:(t.take m).length=m:=by rw[BV];omega
   have z:(t.drop m).length=t.length-m:=CA;rw[szb _ _ _ (by omega) (by simp only[BN];omega),szb _ _ _ (by omega) (by simp only[BJ,BN];omega),szb _ _ _ (by omega) (by simp only[BS,BJ,BN];omega)];rfl
  have:=ci (step:=λrec a=>Q119.s0 K (t,f,()) rec a) t.length (λi=>(i:Int)) (λj=>∃ h:j<t.length,¬ t[j].1<f.1) (some ((t.take t.length++[f]++t.drop t.length,true,()),())) (λj=>some ((t.take j++[f]++t.drop j,true,()),())) ?_ ?_ t.length K 0 (by omega) (by omega)
  ·have I:∀ m,m<=t.length->(∀ i,(r:i<t.length)->i<m->t[i].1<f.1)->(∀ i,(r:i<t.length)->m<=i->f.1<t[i].1)->t.take m++[f]++t.drop m=bI (λg=>g.1) f t:=λm X lo r=>jg (k:=λg:af=>g.1) X lo r
   rcases this with ⟨M,z⟩|⟨j,_,M,⟨Y,h4⟩,h5,z⟩
   ·rw[I t.length (BT _) (λi r _=>by
     have:=M i (BU _) r;exact Cj.1 λh=>this ⟨r,h⟩) (λi r h=>by omega)]at z
    exact z
   ·rw[I j (by omega) (λi r y=>by
     have:=h5 i (BU _) y;exact Cj.1 λh=>this ⟨r,h⟩) (λi r y=>by
     have Z:=h t[i] (BF r);rcases CL y with R|R
     ·have:=dt.1 O j i Y r R;omega
     ·subst R;omega)]at z
    exact z
  ·intro rec i r;simp only[Q119.s0];rw[bq (by omega:(i:Int)<(BE t:Int)),ag r,ar i (by omega)];simp only[cond_true,BD];rw[show idx t ((BG (i:Int):Nat):Int)=some t[i] by rw[BH];exact ag r];simp only[BD];by_cases u:t[i].1<f.1
   ·exact .inl ⟨λ⟨_,h⟩=>h u,by rw[decide_eq_true u];rfl⟩
   ·exact .inr ⟨⟨r,u⟩,by rw[decide_eq_false u];exact J i (by omega)⟩
  ·intro rec;simp only[Q119.s0,aT,cond_false];exact J t.length (BT _)
def fE (t:List af)(fs:List af):List af:=fs.foldl (λt f=>(bT t f).1) t
theorem ra:∀ {fs t:List af},az t->(∀ f∈fs,bA f)->az (fE t fs)
 |[],_,h,_=>h
 |f::fs,t,h,r=>ra (fs:=fs) (kx h (r f (by simp))) (λg u=>r g (by simp[u]))
theorem cL {t:List af}(h:az t):t.length<=1048576:=BW (iS h.2 (λg r=>(h.1 g r).1)) (by decide)
theorem ur {R:Type}(a fs:List af)(O:az a)(M:∀ f∈fs,bA f)(r:List af->Option R){step:(List af×Int->Option R)->List af×Int->Option R}
  (h:∀ (rec:List af×Int->Option R) (t:List af) (i:Nat) (J:i<fs.length),az t->step rec (t,(i:Int))=rec ((bT t fs[i]).1,((i+1:Nat):Int)))
  (y:∀ (rec:List af×Int->Option R) (t:List af),step rec (t,(fs.length:Int))=r t) {k:Nat} (z:fs.length<k):ae step k (a,0)=r (fE a fs):=by
 have:∀ (d i k:Nat) (t:List af),i+d=fs.length->d<k->az t->ae step k (t,(i:Int))=r (fE t (fs.drop i)):=by
  intro d;induction d with
  |zero =>
   intro i k t J z _;obtain⟨k,rfl⟩:∃ H,k=H+1:=⟨k-1,by omega⟩;have:i=fs.length:=by omega
   subst this;show step (ae step k) _=_;rw[y,Cz];rfl
  |succ d X =>
   intro i k t J z I;obtain⟨k,rfl⟩:∃ H,k=H+1:=⟨k-1,by omega⟩;have u:i<fs.length:=by omega
   show step (ae step k) _=_;rw[h _ _ _ u I,B5 u];exact X (i+1) k _ (by omega) (by omega) (kx I (M _ (BF u)))
 have:=this fs.length 0 k a (by omega) z O
 rwa [BY]at this
theorem xu (f:af):¬ bS f f:=by
 unfold bS;simp
theorem kA (K:Nat)(xs:List af)(y:xs.length<=1048576)(z:1048577<K):Q226.f K (xs,xs,())=rb true:=by
 have r:Q226.l0 K (xs,xs,()) 0=rb true:=by
  refine eZ (step:=λrec a=>Q226.s0 K (xs,xs,()) rec a) xs.length (λi=>(i:Int)) (rb true) ?_ ?_ (by omega)
  ·intro rec i u;simp only[Q226.s0];rw[decide_eq_true (by omega:(i:Int)<(BE xs:Int)),ag u,ar i (by omega)];simp only[cond_true,BD];rw[show Ty.eqv t2 xs[i] xs[i]=decide (xs[i]=xs[i]) from jF _ _,decide_eq_true rfl];rfl
  ·intro rec;simp only[Q226.s0,aT];rfl
 simp only[Q226.f,Q226.pre,bne_self_eq_false,cond_false];exact r
theorem o6 {l:List aM}(O:cQ l)(T:List Int):az (eo l T l.length):=by
 unfold eo;constructor
 ·intro f Y;obtain⟨i,H,rfl⟩:=BX.1 Y;obtain⟨h0,h1⟩:=il.1 (BK.1 H).1;obtain⟨b,rfl⟩:=BI h0;have M:b<l.length:=by omega
  rw[co M];exact (O.1 l[b] (BF M)).1
 ·unfold Asc;rw[B6];have X:((cq l.length).filter λi=>decide (i∈T)).Pairwise λ (a b:Int)=>(0<=a/\a<l.length)/\(0<=b/\b<l.length)/\a<b:=by
   refine Cc _ ?_;have:∀ u:List Int,(∀ x∈u,0<=x/\x<l.length)->u.Pairwise (·<·)->u.Pairwise λ (a b:Int)=>(0<=a/\a<l.length)/\(0<=b/\b<l.length)/\a<b:=by
    intro u z r;induction u with
    |nil=>exact List.Pairwise.nil
    |cons x u ih =>
     rw[BZ]at r ⊢;exact⟨λy I=>⟨z x (by simp),z y (by simp[I]),r.1 y I⟩,ih (λy I=>z y (by simp[I])) r.2⟩
   exact this _ (λx z=>il.1 z) (jj _)
  refine X.imp λ {a b} h=>?_
  obtain⟨⟨a0,a1⟩,⟨R,b1⟩,Z⟩:=h;obtain⟨i,rfl⟩:=BI a0;obtain⟨j,rfl⟩:=BI R;have H:i<l.length:=by omega
  have J:j<l.length:=by omega
  rw[co H,co J];exact dt.1 O.2 i j H J (by omega)
theorem th {l:List aM}(J:cQ l)(T:List Int):cQ (dC l T l.length):=by
 have r:∀ i (h:i<l.length),(dP l T (i:Int)).1=l[i].1:=λi h=>by
  unfold dP;rw[co h];cases decide ((i:Int)∈T) <;> rfl
 have z:∀ i (h:i<l.length),(dP l T (i:Int)).2<=l[i].2:=λi h=>by
  unfold dP;rw[co h];cases decide ((i:Int)∈T) with
  |true=>show l[i].2-1<=l[i].2;omega
  |false=>exact CJ _
 unfold dC;constructor
 ·intro x M;obtain⟨O,I⟩:=BK.1 M;have I:x.2>0:=by simpa using I
  obtain⟨i,u,rfl⟩:=BL O;rw[eK]at u;rw[fp l T u]at I ⊢;have:=(J.1 l[i] (BF u));refine⟨by rw[r i u];exact this.1,?_,?_⟩
  ·omega
  ·have R:=z i u;have X:=this.2.2;omega
 ·unfold Asc;refine Cc _ ?_;rw[CM];intro i j u y H;rw[eK]at u y;show (fY l T l.length)[i].1.1<(fY l T l.length)[j].1.1;rw[fp l T u,fp l T y,r i u,r j y];exact dt.1 J.2 i j u y H
def iV (n:aa)(to:Int):List af :=
 bif (aD (aa.table n) to).2.2.1==2 then (bT (eo (aa.cast n) (bX (aa.cast n)) (aa.cast n).length) (aD (aa.table n) to)).1 else eo (aa.cast n) (bX (aa.cast n)) (aa.cast n).length
def im (n:aa):aa:=iR n (aa.table n) (dC (aa.cast n) (bX (aa.cast n)) (aa.cast n).length) (aa.doubts n)
theorem kl {n:aa}(h:b8 n)(to:Int):az (iV n to):=by
 have y:=o6 h.cast (bX (aa.cast n));unfold iV;cases r:(aD (aa.table n) to).2.2.1==2 with
 |false=>exact y
 |true =>
  refine kx y (da h.table ?_).1;by_cases u:∃ f∈aa.table n,f.1=to
  ·exact u
  ·rw[jI (λg z e=>u ⟨g,z,e⟩)]at r;simp at r
theorem Bb {n:aa}(h:b8 n):b8 (im n):=b8.mk' h.table (th h.cast _) h.asc h.inp
theorem clen {n:aa}(h:b8 n):(aa.cast n).length<=8:=iS h.cast.2 (λx r=>(h.cast.1 x r).1.1)
theorem qy (K:Nat)(n:aa)(to:Int)(h:b8 n)(u:1048577<K):Q200.f K (n,to,())=some ((iV n to,im n,()),()):=by
 have M:=clen h;simp only[Q200.f,zcp8];rw[show Q167.f K (n.2.2.2.2.2.2.2.2.2.1,3,())=_ from AZ K (aa.cast n) (by omega) h.cast u];simp only[BD];obtain⟨o,J,I⟩:=fC K (aa.table n) to h.lt u;rw[show Q16.f K (n.2.2.2.2.2.2.2.2.1,to,())=_ from I];simp only[BD,iV];have H:=o6 h.cast (bX (aa.cast n));cases J with
 |no r =>
  rw[jI r];rfl
 |at_ j z e =>
  have y:aD (aa.table n) to=(aa.table n)[j]:=by rw[<- e];exact jH h.table.2 (BF z)
  rw[y];simp only;rw[decide_eq_true (by omega:((j:Nat):Int)>=0),show idx n.2.2.2.2.2.2.2.2.1 ((j:Nat):Int)=some (aa.table n)[j] from ag z];simp only[cond_true,BD];cases (aa.table n)[j].2.2.1==2 with
  |false=>rfl
  |true =>
   simp only[cond_true];rw[vQ K _ _ (cL H) H.2 u];rfl
theorem vR (K:Nat)(n:aa)(to:Int)(h:b8 n)(r:1048577<K):Q99.f K (n,to,())=some ((iV n to,()),(im n,())):=by
 simp only[Q99.f,zcp8];rw[show Q98.f K (n.2.2.2.2.2.2.2.2.2.1,3,())=_ from vP K (aa.cast n) (clen h) h.cast r];simp only[BD];obtain⟨b,y⟩:=iT K (aa.table n) to h.table h.lt r;rw[show Q37.f K (n.2.2.2.2.2.2.2.2.1,to,())=_ from y];simp only[BD,iV];have u:=o6 h.cast (bX (aa.cast n));cases (aD (aa.table n) to).2.2.1==2 with
 |false=>rfl
 |true =>
  simp only[cond_true];rw[zI K _ _ (cL u) u.2 r];rfl
def bh (n:aa)(k:Nat):Int:=CG (n.2.2.2.2.2.2.2.1+(k:Int)) 8
def gJ (n:aa)(k:Nat):Prop:=bh n k≠n.1/\cN (aD (aa.table n) (bh n k))=true
def qz (n:aa)(to:Int):aa :=
 let m:=im n
 (m.1,m.2.1,m.2.2.1,m.2.2.2.1,m.2.2.2.2.1,m.2.2.2.2.2.1,m.2.2.2.2.2.2.1+1,to+1,m.2.2.2.2.2.2.2.2.1,m.2.2.2.2.2.2.2.2.2.1,(to,m.2.2.2.2.2.1,m.2.2.2.2.2.2.1+1,false),m.2.2.2.2.2.2.2.2.2.2.2)
def sk (n:aa)(to:Int):aq:=(1,1,n.1,to,n.2.2.2.2.2.2.1+1,n.1,aa.coord n,iV n to)
theorem uZ (K:Nat)(n:aa)(h:b8 n)(Z:0<=n.2.2.2.2.2.2.2.1)(R:n.2.2.2.2.2.2.2.1<=8)(Y:1048577<K) :
  ∃ to:Int,Q199.f K (n,())=some ((to,()),())/\((to=-1/\∀ k,k<8->¬ gJ n k)\/∃ k,k<8/\gJ n k/\(∀ j,j<k->¬ gJ n j)/\to=bh n k):=by
 have u:∀ k:Nat,k<8->wr .i64 (n.2.2.2.2.2.2.2.1+(k:Int))=n.2.2.2.2.2.2.2.1+(k:Int):=λk M=>aG (by omega) (by omega)
 have:=ci (step:=λrec a=>Q199.s0 K (n,()) rec a) 8 (λi=>(i:Int)) (gJ n) (some ((-1,()),())) (λj=>some ((bh n j,()),())) ?_ ?_ 8 K 0 (by omega) (by omega)
 ·rcases this with ⟨J,y⟩|⟨j,_,J,O,X,y⟩
  ·exact⟨-1,y,.inl ⟨rfl,λk M=>J k (BU _) M⟩⟩
  ·exact⟨_,y,.inr ⟨j,J,O,λm hm=>X m (BU _) hm,rfl⟩⟩
 ·intro rec i hi;simp only[Q199.s0];rw[decide_eq_true (by omega:(i:Int)<=7),u i hi,ar i (by omega)];simp only[cond_true];show (¬ gJ n i/\(bif bh n i != n.1 then ((Q196.f K (aa.table n,bh n i,())).bind λz=>bif z.1.1 then (some ((bh n i,()),())) else (rec ((i+1:Nat):Int))) else (rec ((i+1:Nat):Int)))=rec ((i+1:Nat):Int))\/(gJ n i/\(bif bh n i != n.1 then ((Q196.f K (aa.table n,bh n i,())).bind λz=>bif z.1.1 then (some ((bh n i,()),())) else (rec ((i+1:Nat):Int))) else (rec ((i+1:Nat):Int)))=some ((bh n i,()),()));rw[sY K (aa.table n) (bh n i) h.table h.lt Y];by_cases r:bh n i=n.1
  ·exact .inl ⟨λH=>H.1 r,by rw[show (bh n i != n.1)=false by simpa using r];rfl⟩
  ·rw[show (bh n i != n.1)=true by simpa using r];cases I:cN (aD (aa.table n) (bh n i)) with
   |true=>exact .inr ⟨⟨r,I⟩,rfl⟩
   |false=>exact .inl ⟨λH=>(by rw[H.2]at I;cases I),rfl⟩
 ·intro rec;simp only[Q199.s0];rfl
theorem yU (K:Nat)(n:aa)(h:b8 n)(hp:(aa.probe n).1=-1)(ad:0<=n.2.2.2.2.2.2.1)(a6:n.2.2.2.2.2.2.1<=1000000)(a1:0<=n.2.2.2.2.2.2.2.1)(a0:n.2.2.2.2.2.2.2.1<=8)(Y:1048577<K) :
  ∃ (y:aa) (R:List aq),Q201.f K (n,())=some ((y,R,()),())/\Q100.f K (n,())=some ((R,()),(y,()))/\((y=n/\R=[])\/∃ to,y=qz n to/\R=[sk n to]):=by
 have z:∀ k:Nat,k<8->wr .i64 (n.2.2.2.2.2.2.2.1+(k:Int))=n.2.2.2.2.2.2.2.1+(k:Int):=λk X=>aG (by omega) (by omega)
 have J:∀ k:Nat,k<8->0<=bh n k/\bh n k<8:=λk X=>⟨C8 _ (by omega),Cu _ (by omega)⟩
 obtain⟨to,es,a3⟩:=uZ K n h a1 a0 Y;simp only[Q201.f,zcp4,Q100.f,Q100.pre];rw[es,show (n.2.2.2.2.2.2.2.2.2.2.1.1 != -1)=false by show ((aa.probe n).1 != -1)=false;rw[hp];rfl];simp only[BD,cond_false];by_cases u:n.2.2.2.2.2.2.1>=999999
 ·rw[decide_eq_true u];refine⟨n,[],?_,rfl,.inl ⟨rfl,rfl⟩⟩;cases decide (to<0) <;> rfl
 ·rw[decide_eq_false u];simp only[cond_false];have I:wr .i64 (n.2.2.2.2.2.2.1+1)=n.2.2.2.2.2.2.1+1:=aG (by omega) (by omega);have O:=ci (step:=λrec a=>Q100.s0 K (n,()) rec a) 8 (λi=>(i:Int)) (gJ n) (some (([],()),(n,()))) (λj=>some (([sk n (bh n j)],()),(qz n (bh n j),()))) ?_ ?_ 8 K 0 (by omega) (by omega)
  ·rcases a3 with ⟨rfl,a4⟩|⟨k,X,M,a5,rfl⟩
   ·rcases O with ⟨_,h2⟩|⟨j,_,h1,h3,_,_⟩
    ·exact⟨n,[],rfl,h2,.inl ⟨rfl,rfl⟩⟩
    ·exact absurd h3 (a4 j h1)
   ·have a9:=J k X;rcases O with ⟨h1,_⟩|⟨j,_,h1,h3,h4,h2⟩
    ·exact absurd M (h1 k (BU _) X)
    ·have:j=k:=by
      rcases Ck j k with H|H|H
      ·exact absurd h3 (a5 j H)
      ·exact H
      ·exact absurd M (h4 k (BU _) H)
     subst this;refine⟨qz n (bh n j),[sk n (bh n j)],?_,h2,.inr ⟨_,rfl,rfl⟩⟩;rw[decide_eq_false (by omega:¬ bh n j<0)];simp only[cond_false];rw[qy K n _ h Y];simp only[BD];rw[show wr .i64 ((im n).2.2.2.2.2.2.1+1)=n.2.2.2.2.2.2.1+1 from I,aG (n:=bh n j+1) (by omega) (by omega)];simp only[Q153.f];rw[szb _ _ _ (by omega) (by have:=cL (kl h (bh n j));simp;omega)];rfl
  ·intro rec i O;have Z:=J i O;simp only[Q100.s0,zcp4];rw[decide_eq_true (by omega:(i:Int)<8),z i O,ar i (by omega)];simp only[cond_true];have a2:=sZ K n (bh n i) h.table h.lt Y;rw[show CG (n.2.2.2.2.2.2.2.1+(i:Int)) 8=bh n i from rfl];by_cases r:bh n i=n.1
   ·exact .inl ⟨λZ=>Z.1 r,by rw[show (bh n i==n.1)=true by simpa using r];rfl⟩
   ·rw[show (bh n i==n.1)=false by simpa using r];simp only[cond_false];rw[a2];simp only[BD];cases hl:cN (aD (aa.table n) (bh n i)) with
    |false=>exact .inl ⟨λZ=>(by rw[Z.2]at hl;cases hl),rfl⟩
    |true =>
     refine .inr ⟨⟨r,hl⟩,?_⟩;simp only[BM,cond_false];rw[vR K n _ h Y];simp only[BD,Q81.f];rw[show wr .i64 ((im n).2.2.2.2.2.2.1+1)=n.2.2.2.2.2.2.1+1 from I,aG (n:=bh n i+1) (by omega) (by omega)];rfl
  ·intro rec;simp only[Q100.s0,zcp4];rfl
abbrev lJ:=Int×ByteArray×Bool
abbrev bY:=List aa×List lJ×List Int×List af
abbrev bY.radio (w:bY):List lJ:=w.2.1
abbrev bY.sides (w:bY):List Int:=w.2.2.1
abbrev bY.born (w:bY):List af:=w.2.2.2
theorem kD {n:Int}(h:InP n 0 7):ao n=n / 4:=by
 obtain⟨r,u⟩:=h;unfold ao;rw[CC r,aG (by omega) (by omega)]
theorem Ah {α:Type}{k:α->Int}{xs:List α}(h:Asc k xs):∀ i (r:i<xs.length),k (xs[0]'(by omega))+i<=k xs[i]:=by
 rw[gI]at h;intro i;induction i with
 |zero=>intro r;simp
 |succ i u =>
  intro r;have z:=u (by omega);have y:=h (i+1) r (by omega);simp only[Nat.add_sub_cancel]at y;omega
theorem ut {t:List af}{s:Int}(u:az t)(z:cf t s):t.length<=4:=by
 cases h:t.length with
 |zero=>omega
 |succ m =>
  have r:m<t.length:=by omega
  have y:0<t.length:=by omega
  have O:=Ah u.2 m r;have J:=z _ (BF r);have H:=z _ (BF y);have I:=(u.1 _ (BF r)).1;have M:=(u.1 _ (BF y)).1;rw[kD I]at J;rw[kD M]at H;omega
theorem mW {u:Int}{l:List cV}(z:InP u 0 7)(h:c9 u l):l=[]\/∃ x,l=[x]:=by
 match l,h with
 |[],_=>exact .inl rfl
 |[x],_=>exact .inr ⟨x,rfl⟩
 |x::y::r,h =>
  exfalso;have M:=h.1 x (by simp);have H:=h.1 y (by simp);have O:x.1<y.1:=by
   have:=h.2;unfold Asc at this;rw[BZ]at this;exact this.1 y (by simp)
  have e:=kD z;obtain⟨⟨X,a2⟩,J,_⟩:=M;obtain⟨⟨R,Y⟩,I,_⟩:=H;obtain⟨m1,Z⟩:=z;rw[e]at J I;omega
theorem lK {a:Int}{m:Nat}(u:m<4611686018427387904):0<=aR .i64 a (m:Int)/\aR .i64 a (m:Int)<=m:=by
 have h:(BitVec.ofInt 64 a &&& BitVec.ofInt 64 (m:Int)).toNat<=m:=by
  rw[BitVec.toNat_and];refine BW Nat.and_le_right ?_;rw[BitVec.toNat_ofInt];omega
 show 0<=IntKind.i64.wrap (((BitVec.ofInt 64 a &&& BitVec.ofInt 64 (m:Int)).toNat:Nat):Int)/\IntKind.i64.wrap (((BitVec.ofInt 64 a &&& BitVec.ofInt 64 (m:Int)).toNat:Nat):Int)<=m;generalize (BitVec.ofInt 64 a &&& BitVec.ofInt 64 (m:Int)).toNat=r at h ⊢;rw[DM];omega
def gK (g:List Int)(d:Int):Int:=g.getD (BG (CG (aR .i64 d 255) (g.length:Int))) 0
theorem eL {g:List Int}{d:Int}(h:g≠[]):idx g (CG (aR .i64 d 255) (g.length:Int))=some (gK g d)/\idx g ((BG (CG (aR .i64 d 255) (g.length:Int)):Nat):Int)=some (gK g d)/\gK g d∈g:=by
 have I:0<g.length:=CU.2 h;have u:=(lK (a:=d) (m:=255) (by omega)).1;have H:0<=CG (aR .i64 d 255) (g.length:Int):=C8 _ u;have z:CG (aR .i64 d 255) (g.length:Int)<g.length:=Cu _ (by omega);unfold gK;obtain⟨v,y⟩:=BI H;rw[y]at z ⊢;have r:v<g.length:=by omega
 rw[BH,ag r,List.getD_eq_getElem?_getD,BP r];exact⟨rfl,rfl,BF r⟩
def iW (n:aa)(r d:Int):Int :=
 bif decide (dN (dm (aa.others n) r)≠[])&&aR .i64 d 4==0 then gK (dN (dm (aa.others n) r)) (B4 d (2 ^ 3)) else r*4+aR .i64 (B4 d (2 ^ 3)) 3
structure hH (n:aa):Prop where
 short:(aa.others n).length<=1
 table:∀ x∈aa.others n,az x.2/\x.2.length<=1048576
theorem xv {r d:Int}(z:0<=r)(H:r<=1):wr .i64 (wr .i64 (r*4)+aR .i64 (B4 d (2 ^ 3)) 3)=r*4+aR .i64 (B4 d (2 ^ 3)) 3:=by
 obtain⟨u,y⟩:=lK (a:=B4 d (2 ^ 3)) (m:=3) (by omega);have u:0<=aR .i64 (B4 d (2 ^ 3)) 3:=u;have y:aR .i64 (B4 d (2 ^ 3)) 3<=3:=y;rw[aG (n:=r*4) (by omega) (by omega),aG (by omega) (by omega)]
theorem far_s (K:Nat)(n:aa)(r d:Int)(h:hH n)(M:0<=r)(X:r<=1)(O:1048577<K):Q205.f K (n,r,d,())=some ((iW n r d,()),()):=by
 obtain⟨k,rfl⟩:∃ k,K=k+2:=⟨K-2,by omega⟩;show Q205.s0 (k+2) (n,r,d,()) (ae (λrec a=>Q205.s0 (k+2) (n,r,d,()) rec a) (k+1)) 0=_;have y:∀ (rec:Int->Option ((Int×Unit)×Unit)) (a:Int),¬ a<(aa.others n).length->Q205.s0 (k+2) (n,r,d,()) rec a=some ((r*4+aR .i64 (B4 d (2 ^ 3)) 3,()),()):=by
  intro rec a J;simp only[Q205.s0];rw[show decide (a<(BE n.2.2.2.2.2.2.2.2.2.2.2.2.2.2:Int))=false from decide_eq_false J,xv M X];rfl
 match z:aa.others n with
 |[] =>
  rw[y _ _ (by rw[z];simp),iW,z];rfl
 |[x] =>
  have R:=h.table x (by rw[z];simp);have u:ae (λrec a=>Q205.s0 (k+2) (n,r,d,()) rec a) (k+1) 1=some ((r*4+aR .i64 (B4 d (2 ^ 3)) 3,()),()):=y _ _ (by rw[z];simp);generalize ae (λrec a=>Q205.s0 (k+2) (n,r,d,()) rec a) (k+1)=rec at u ⊢;simp only[Q205.s0];rw[show decide ((0:Int)<(BE n.2.2.2.2.2.2.2.2.2.2.2.2.2.2:Int))=true from decide_eq_true (by show (0:Int)<((aa.others n).length:Int);rw[z];simp),show idx n.2.2.2.2.2.2.2.2.2.2.2.2.2.2 (0:Int)=some x by show idx (aa.others n) (0:Int)=some x;rw[z];rfl,show wr .i64 ((0:Int)+1)=1 from rfl];simp only[cond_true,BD,u];rw[iW,z];cases I:x.1==r with
  |false =>
   simp only[cond_false,dm,C5,I,List.find?_nil];rfl
  |true =>
   simp only[cond_true,dm,C5,I,DO,DL];rw[uR (k+2) x.2 R.2 O];simp only[BD];by_cases H:dN x.2=[]
   ·rw[H];rfl
   ·have Y:0<(dN x.2).length:=CU.2 H;rw[decide_eq_true H,decide_eq_true (by omega:((dN x.2).length:Int)>0)];simp only[cond_true,CS];cases aR .i64 d 4==0 with
    |false=>rfl
    |true =>
     simp only[cond_true];rw[decide_eq_false (by omega:¬ ((dN x.2).length:Int)=0),(eL H).1,(eL H).2.1];rfl
 |_::_::_=>exact absurd h.short (by rw[z];simp)
def iI (n:aa):Bool:=decide (n.1∈dN (aa.table n))
theorem yV (K:Nat)(n:aa)(O:(aa.table n).length<=1048576)(I:1048577<K):Q204.f K (n,())=rb (iI n):=by
 simp only[Q204.f,Q204.pre];rw[show Q203.f K (n.2.2.2.2.2.2.2.2.1,2,())=_ from uR K (aa.table n) O I];simp only[BD];have M:=qY (aa.table n);unfold iI;generalize dN (aa.table n)=g at M ⊢;have:=ci (step:=λrec a=>Q204.s0 K (n,()) rec a) g.length (λi=>(g,(i:Int))) (λj=>∃ h:j<g.length,g[j]=n.1) (rb false) (λ_=>rb true) ?_ ?_ g.length K 0 (by omega) (by omega)
 ·rcases this with ⟨y,u⟩|⟨j,_,y,⟨z,H⟩,_,u⟩
  ·rw[decide_eq_false (λR=>by
    obtain⟨i,r,e⟩:=BL R;exact y i (BU _) r ⟨r,e⟩)]
   exact u
  ·rw[decide_eq_true (H ▸ BF z:n.1∈g)];exact u
 ·intro rec i r;simp only[Q204.s0];rw[bq (by omega:(i:Int)<(BE g:Int)),ag r,ar i (by omega),BH,ag r];simp only[cond_true,BD];by_cases h:g[i]=n.1
  ·exact .inr ⟨⟨r,h⟩,by rw[show (g[i]==n.1)=true by simpa using h];rfl⟩
  ·exact .inl ⟨λ⟨_,J⟩=>h J,by rw[show (g[i]==n.1)=false by simpa using h];rfl⟩
 ·intro rec;simp only[Q204.s0,aT];rfl
theorem yW (K:Nat)(g:List Int)(v:Int)(R:g.length<=1048576)(O:1048577<K):Q106.f K (g,v,())=rb (decide (v∈g)):=by
 have:=ci (step:=λrec a=>Q105.s0 K (g,v,()) rec a) g.length (λi=>(i:Int)) (λj=>∃ h:j<g.length,v=g[j]) (some ((-1,()),())) (λj=>some ((((j:Nat):Int),()),())) ?_ ?_ g.length K 0 (by omega) (by omega)
 ·simp only[Q106.f];rcases this with ⟨y,u⟩|⟨j,_,y,⟨z,H⟩,_,u⟩
  ·have e:Q105.f K (g,v,())=some ((-1,()),()):=u;rw[e,decide_eq_false (λJ=>by
    obtain⟨i,r,M⟩:=BL J;exact y i (BU _) r ⟨r,M.symm⟩)]
   rfl
  ·have e:Q105.f K (g,v,())=some ((((j:Nat):Int),()),()):=u;rw[e,decide_eq_true (H ▸ BF z:v∈g)];simp only[BD];rw[decide_eq_true (by omega:((j:Nat):Int)>=0)]
 ·intro rec i r;simp only[Q105.s0];rw[bq (by omega:(i:Int)<(BE g:Int)),ag r,ar i (by omega)];simp only[cond_true,BD];by_cases h:v=g[i]
  ·exact .inr ⟨⟨r,h⟩,by rw[show (v==g[i])=true by simpa using h];rfl⟩
  ·exact .inl ⟨λ⟨_,I⟩=>h I,by rw[show (v==g[i])=false by simpa using h];rfl⟩
 ·intro rec;simp only[Q105.s0,aT];rfl
def wanW (n:aa)(d r:Int):aq:=(2,(nO 6 n (iW n r d)).2)
def ip (n:aa)(d:Int):List aq:=bif iI n then (([0,1]:List Int).filter (λs=>s != ao n.1)).map (wanW n d) else []
theorem wan_s (K:Nat)(n:aa)(d:Int)(h:hH n)(y:(aa.table n).length<=1048576)(u:1048577<K):Q206.f K (n,d,())=some ((ip n d,()),()):=by
 simp only[Q206.f,Q206.pre];rw[yV K n y u];simp only[BD,ip];cases iI n with
 |false=>rfl
 |true =>
  simp only[BM,cond_false,cond_true];refine lH (step:=λrec a=>Q206.s0 K (n,d,()) rec a) ([0,1]:List Int) (λs=>s != ao n.1) (wanW n d) (λr i=>(r,(i:Int))) (λz=>some ((z,()),())) ?_ ?_ (by simp;omega)
  ·intro rec r i J H;have M:i<2:=J;have I:([0,1]:List Int)[i]=(i:Int):=by
    have:i=0\/i=1:=by omega
    rcases this with rfl|rfl <;> rfl
   simp only[Q206.s0,I];rw[decide_eq_true (by omega:(i:Int)<=1),ar i (by omega),eJ K n.1];simp only[cond_true,BD];cases (i:Int) != ao n.1 with
   |false=>rfl
   |true =>
    simp only[cond_true];rw[far_s K n (i:Int) d h (by omega) (by omega) u];simp only[BD];refine (congrArg (λo=>CI o _) (nP K n 6 (iW n (i:Int) d) y)).trans ?_;simp only[BD];rw[szw _ _ _ (by omega) (by simp;omega)];rfl
  ·intro rec r H;simp only[Q206.s0];rfl
theorem yX (K:Nat)(n:aa)(d:Int)(R:NB n)(h:hH n)(hT:az (aa.table n))(I:1048577<K):Q107.f K (n,d,())=some ((ip n d,()),()):=by
 have M:=R.table;simp only[Q107.f,Q107.pre];rw[show Q103.f K (n.2.2.2.2.2.2.2.2.1,2,())=_ from uS K (aa.table n) M I hT];simp only[BD];rw[yW K (dN (aa.table n)) n.1 (BW (qY _) (by decide)) I];simp only[BD,ip];show (bif !(iI n) then _ else _)=_;cases iI n with
 |false=>rfl
 |true =>
  simp only[BM,cond_false,cond_true];rw[wZ K 7];simp only[BD,show wr .i64 (ao 7+1)=2 from rfl];refine lH (step:=λrec a=>Q107.s0 K (n,d,()) rec a) ([0,1]:List Int) (λs=>s != ao n.1) (wanW n d) (λr i=>(r,(2:Int),(i:Int))) (λX=>some ((X,()),())) ?_ ?_ (by simp;omega)
  ·intro rec r i hi Z;have a0:i<2:=hi;have hv:([0,1]:List Int)[i]=(i:Int):=by
    have:i=0\/i=1:=by omega
    rcases this with rfl|rfl <;> rfl
   simp only[Q107.s0,hv];rw[decide_eq_true (by omega:(i:Int)<2),ar i (by omega),qs K n];simp only[cond_true,BD];rw[show ((i:Int) != ao n.1)=!((i:Int)==ao n.1) from rfl];cases (i:Int)==ao n.1 with
   |true=>rfl
   |false =>
    simp only[cond_false,B8,cond_true];rw[z7 K n (i:Int) R I];simp only[BD];have H:az (dm (aa.others n) (i:Int))/\(dm (aa.others n) (i:Int)).length<=1048576:=by
     rcases mP (l:=aa.others n) (s:=(i:Int)) with e|⟨x,hx,_,e⟩
     ·rw[e];exact⟨⟨by simp,List.Pairwise.nil⟩,by simp⟩
     ·rw[e];exact h.table x hx
    rw[uS K _ H.2 I H.1];simp only[BD];rw[xv (by omega) (by omega)];have Y:=λto=>uT K n 6 to M
    have u:∀ to,to=iW n (i:Int) d->((Q101.f K (n,6,to,())).bind λO=>bif decide ((BE r+BE ([(2,O.1.1.2)]))*104<=ak) then (rec (r++([(2,O.1.1.2)]),(2:Int),((i+1:Nat):Int))) else none)=rec (r++[wanW n d (i:Int)],(2:Int),((i+1:Nat):Int)):=by
     intro to J;rw[Y to,J];simp only[BD];rw[szw _ _ _ (by omega) (by simp;omega)];rfl
    by_cases y:dN (dm (aa.others n) (i:Int))=[]
    ·rw[y];refine u _ ?_;rw[iW,y];rfl
    ·have hl:0<(dN (dm (aa.others n) (i:Int))).length:=CU.2 y;rw[decide_eq_true (by omega:((dN (dm (aa.others n) (i:Int))).length:Int)>0)];simp only[cond_true];cases z:aR .i64 d 4==0 with
     |false =>
      refine u _ ?_;rw[iW,z,DB];rfl
     |true =>
      simp only[cond_true];rw[decide_eq_false (by omega:¬ ((dN (dm (aa.others n) (i:Int))).length:Int)=0),(eL y).1,(eL y).2.1];simp only[cond_false,BD];refine u _ ?_;rw[iW,z,decide_eq_true y];rfl
  ·intro rec r Z;simp only[Q107.s0];rfl
def mX (n:aa)(f:af):Bool:=f.2.2.1 != 4&&f.1 != n.1
def ce (n:aa):List Int:=((aa.table n).filter (mX n)).map (·.1)
def mY (n:aa)(to:Int):List aq:=match aa.others n with
 |[]=>[]
 |x::_=>[(1,6,n.1,to,0,n.1,aa.coord n,x.2)]
def e8 (n:aa)(r:Int):List aq :=
 bif aR .i64 r 3==1 then ip n (B4 r (2 ^ 2)) else
 bif aR .i64 r 3==3||decide (ce n=[]) then [] else
 bif aR .i64 r 3==0 then [nO 4 n (gK (ce n) (B4 r (2 ^ 2)))] else mY n (gK (ce n) (B4 r (2 ^ 2)))
theorem and3 (a:Int):aR .i64 a 3=0\/aR .i64 a 3=1\/aR .i64 a 3=2\/aR .i64 a 3=3:=by
 obtain⟨u,r⟩:=lK (a:=a) (m:=3) (by omega);have u:0<=aR .i64 a 3:=u;have r:aR .i64 a 3<=3:=r;omega
theorem xw {n:aa}(r:az (aa.table n)){v:Int}(u:v∈ce n):0<=v:=by
 obtain⟨f,y,rfl⟩:=BX.1 u;exact (r.1 f (BK.1 y).1).1.1
theorem Bc (K:Nat)(n:aa)(d:Int)(H:(aa.table n).length<=1048576)(M:1048577<K):Q202.f K (n,d,())=some ((bif decide (ce n=[]) then -1 else gK (ce n) d,()),()):=by
 refine (pC (step:=λrec a=>Q202.s0 K (n,d,()) rec a) (aa.table n) (mX n) (λf=>f.1) (λy=>some ((bif decide (y=[]) then -1 else gK y d,()),())) ?_ ?_ (by omega)).trans rfl
 ·intro rec r i z J;simp only[Q202.s0];rw[show decide ((i:Int)<(BE n.2.2.2.2.2.2.2.2.1:Int))=true from bq (by omega:(i:Int)<(BE (aa.table n):Int)),show idx n.2.2.2.2.2.2.2.2.1 (i:Int)=some (aa.table n)[i] from ag z,ar i (by omega)];simp only[cond_true,BD,mX];rw[szb _ _ _ (by omega) (by simp;omega)];cases (aa.table n)[i].1 != n.1 <;> cases (aa.table n)[i].2.2.1 != 4 <;> rfl
 ·intro rec r _;simp only[Q202.s0];rw[show decide ((BE (aa.table n):Int)<(BE n.2.2.2.2.2.2.2.2.1:Int))=false from aT _];simp only[cond_false];by_cases u:r=[]
  ·subst u;rfl
  ·have I:0<r.length:=CU.2 u;rw[show ((r.length:Int)==0)=false by simp;exact u,decide_eq_false (by omega:¬ (r.length:Int)=0),decide_eq_false u,(eL u).1,(eL u).2.1];rfl
theorem xx (K:Nat)(n:aa)(r:Int)(h:hH n)(M:az (aa.table n))(z:(aa.table n).length<=1048576)(I:1048577<K):Q207.f K (n,r,())=some ((e8 n r,()),()):=by
 simp only[Q207.f];rw[Bc K n _ z I];simp only[BD];rw[wan_s K n _ h z I];simp only[BD,e8];by_cases u:ce n=[]
 ·rw[decide_eq_true u];simp only[cond_true,DR,show decide ((-1:Int)>=0)=false from rfl,cond_false];rcases and3 r with e|e|e|e <;> rw[e] <;> rfl
 ·have O:=xw M (eL (d:=B4 r (2 ^ 2)) u).2.2;rw[decide_eq_false u];simp only[cond_false,Bool.or_false];rw[decide_eq_true (by omega:gK (ce n) (B4 r (2 ^ 2))>=0)];simp only[cond_true];rw[show Q153.f K (n,4,gK (ce n) (B4 r (2 ^ 2)),0,n.1,n.2.2.2.2.2.2.2.2.1,())=_ from nP K n 4 _ z];simp only[BD];rcases and3 r with e|e|e|e
  ·rw[e];rfl
  ·rw[e];rfl
  ·rw[e];simp only[show ((2:Int)==0)=false from rfl,show ((2:Int)==1)=false from rfl,show ((2:Int)==2)=true from rfl,show ((2:Int)==3)=false from rfl,cond_false,cond_true];unfold mY
   match y:aa.others n with
   |[] =>
    rw[show decide ((BE n.2.2.2.2.2.2.2.2.2.2.2.2.2.2:Int)>0)=false by show decide (((aa.others n).length:Int)>0)=false;rw[y];rfl];rfl
   |[x] =>
    have J:=h.table x (by rw[y];simp);have H:(aa.others n).length=1:=by rw[y];rfl
    rw[show decide ((BE n.2.2.2.2.2.2.2.2.2.2.2.2.2.2:Int)>0)=true by show decide (((aa.others n).length:Int)>0)=true;rw[H];rfl,show decide ((BE n.2.2.2.2.2.2.2.2.2.2.2.2.2.2:Int)=0)=false by show decide (((aa.others n).length:Int)=0)=false;rw[H];rfl];simp only[cond_true,cond_false];rw[show idx n.2.2.2.2.2.2.2.2.2.2.2.2.2.2 (CG (aR .i64 (B4 r (2 ^ 10)) 255) (BE n.2.2.2.2.2.2.2.2.2.2.2.2.2.2:Int))=some x by
     show idx (aa.others n) (CG (aR .i64 (B4 r (2 ^ 10)) 255) ((aa.others n).length:Int))=some x;rw[H,y,show ((1:Nat):Int)=1 from rfl,Int.tmod_one];rfl]
    simp only[BD,Q153.f];rw[szb _ _ _ (by omega) (by have:=J.2;simp;omega)];rfl
   |_::_::_=>exact absurd h.short (by rw[y];simp)
  ·rw[e];rfl
theorem Ai (K:Nat)(n:aa)(r:Int)(M:NB n)(h:hH n)(R:az (aa.table n))(I:1048577<K):Q109.f K (n,r,())=some ((e8 n r,()),()):=by
 have J:=M.table;simp only[Q109.f,zcp4];rw[yX K n _ M h R I];simp only[BD,e8];cases aR .i64 r 3==1 with
 |true=>rfl
 |false =>
  simp only[cond_false];rw[show Q77.f K (n.2.2.2.2.2.2.2.2.1,(λO=>(Q108.f K (O.1,n,())).map λy=>y.1.1),())=_ from qw K (aa.table n) _ (mX n) J I (λf _=>by
   simp only[Q108.f,mX];cases f.2.2.1 != 4 <;> cases f.1 != n.1 <;> rfl)]
  simp only[BD];show (bif aR .i64 r 3==3 then some (([],()),()) else (bif ((ce n).length:Int)==0 then _ else _))=_;cases aR .i64 r 3==3 with
  |true=>rfl
  |false =>
   simp only[cond_false,Cq];by_cases u:ce n=[]
   ·rw[decide_eq_true u,show (((ce n).length:Int)==0)=true by rw[u];rfl];rfl
   ·have Z:0<(ce n).length:=CU.2 u;rw[decide_eq_false u,show (((ce n).length:Int)==0)=false by simp;exact u];simp only[cond_false];show (bif decide (((ce n).length:Int)=0) then none else ((idx (ce n) (CG (aR .i64 (B4 r (2 ^ 2)) 255) ((ce n).length:Int))).bind λ_=>(idx (ce n) ((BG (CG (aR .i64 (B4 r (2 ^ 2)) 255) ((ce n).length:Int)):Nat):Int)).bind λY=>_))=_;rw[decide_eq_false (by omega:¬ ((ce n).length:Int)=0),(eL u).1,(eL u).2.1];simp only[cond_false,BD];cases aR .i64 r 3==0 with
    |true =>
     simp only[cond_true];rw[uT K n 4 _ J];rfl
    |false =>
     simp only[cond_false,Q81.f,BD,Q0.f];unfold mY
     match H:aa.others n with
     |[] =>
      rw[show ((BE n.2.2.2.2.2.2.2.2.2.2.2.2.2.2:Int)==0)=true by show (((aa.others n).length:Int)==0)=true;rw[H];rfl];rfl
     |[x] =>
      have X:=h.table x (by rw[H];simp);have z:(aa.others n).length=1:=by rw[H];rfl
      rw[show ((BE n.2.2.2.2.2.2.2.2.2.2.2.2.2.2:Int)==0)=false by show (((aa.others n).length:Int)==0)=false;rw[z];rfl,show decide ((BE n.2.2.2.2.2.2.2.2.2.2.2.2.2.2:Int)=0)=false by show decide (((aa.others n).length:Int)=0)=false;rw[z];rfl];simp only[cond_false];rw[show idx n.2.2.2.2.2.2.2.2.2.2.2.2.2.2 (CG (aR .i64 (B4 (B4 r (2 ^ 2)) (2 ^ 10)) 255) (BE n.2.2.2.2.2.2.2.2.2.2.2.2.2.2:Int))=some x by
       show idx (aa.others n) (CG (aR .i64 (B4 (B4 r (2 ^ 2)) (2 ^ 10)) 255) ((aa.others n).length:Int))=some x;rw[z,H,show ((1:Nat):Int)=1 from rfl,Int.tmod_one];rfl]
      simp only[BD];rw[d5 (by have:=X.2;omega)];rfl
     |_::_::_=>exact absurd h.short (by rw[H];simp)
def rk (f:af):Int:=f.2.1*16+f.2.2.1*2+(if f.2.2.2=true then 1 else 0)
theorem qA {f g:af}(u:bA f)(r:bA g):bS f g<->rk g<rk f:=by
 obtain⟨_,_,I,z⟩:=u;obtain⟨_,_,y,H⟩:=r;unfold bS rk;by_cases a:f.2.1=g.2.1
 ·rw[if_neg (by simpa using a)];by_cases c:f.2.2.1=g.2.2.1
  ·rw[if_neg (by simpa using c),a,c];cases f.2.2.2 <;> cases g.2.2.2 <;> simp <;> omega
  ·rw[if_pos c];cases f.2.2.2 <;> cases g.2.2.2 <;> simp <;> omega
 ·rw[if_pos a];cases f.2.2.2 <;> cases g.2.2.2 <;> simp <;> omega
theorem oe {t:List af}(z:Asc (λg:af=>g.1) t)(f:af):bT t f=(t,false)\/(bT t f=(bI (λg=>g.1) f t,true)/\∀ g∈t,g.1=f.1->bS f g):=by
 by_cases h:∃ g∈t,g.1=f.1
 ·obtain⟨g,r,e⟩:=h;obtain⟨i,J,rfl⟩:=BL r;rw[kw z J e];by_cases y:bS f t[i]
  ·rw[if_pos y];refine .inr ⟨rfl,λM u I=>?_⟩;rw[ii z u r (by rw[e,I])];exact y
  ·rw[if_neg y];exact .inl rfl
 ·have H:∀ g∈t,g.1≠f.1:=λg r e=>h ⟨g,r,e⟩
  exact .inr ⟨ij H,λg r e=>absurd e (H g r)⟩
theorem oh {n:aa}(R:az (aa.table n)):iC n<->(∀ d∈aa.doubts n,lG n d)/\Asc (λd:bO=>d.1) (aa.doubts n)/\∀ f∈aa.table n,f.2.2.1=2->∃ d∈aa.doubts n,d.1=f.1:=by
 have M:((aV (aa.table n)).map (λf:af=>f.1)).Pairwise (·<·):=by
  rw[B6];exact Cc _ R.2
 constructor
 ·rintro⟨h1,h2,h3⟩;refine⟨h1,h2,λf z u=>?_⟩;have r:((aa.doubts n).map (λd:bO=>d.1)).Pairwise (·<·):=by rw[B6];exact h2
  have:=(jf _ _ r M (λx y=>by
   obtain⟨d,r,rfl⟩:=BX.1 y;obtain⟨⟨g,I,e,H,_⟩,_⟩:=h1 d r;exact BX.2 ⟨g,BK.2 ⟨I,by simpa using H⟩,e⟩)).2 (by rw[BR,BR,h3])
  have O:f.1∈(aV (aa.table n)).map (λf:af=>f.1):=BX.2 ⟨f,BK.2 ⟨z,by simpa using u⟩,rfl⟩;rw[<- this]at O;obtain⟨d,r,e⟩:=BX.1 O;exact⟨d,r,e⟩
 ·rintro⟨h1,h2,h3⟩;refine⟨h1,h2,?_⟩;have r:((aa.doubts n).map (λd:bO=>d.1)).Pairwise (·<·):=by rw[B6];exact h2
  have Y:=(jf _ _ r M (λx y=>by
   obtain⟨d,r,rfl⟩:=BX.1 y;obtain⟨⟨g,I,e,H,_⟩,_⟩:=h1 d r;exact BX.2 ⟨g,BK.2 ⟨I,by simpa using H⟩,e⟩)).1
  have X:=(jf _ _ M r (λx y=>by
   obtain⟨f,z,rfl⟩:=BX.1 y;obtain⟨J,u⟩:=BK.1 z;obtain⟨d,r,e⟩:=h3 f J (by simpa using u);exact BX.2 ⟨d,r,e⟩)).1
  rw[BR,BR]at Y X;omega
def aQ (n:aa):Int:=n.2.2.2.2.2.1
def fF (n:aa)(b:Int):Prop:=InP b 0 7/\ao b=ao n.1
theorem oi {n:aa}(r:Asc (λg:af=>g.1) (aa.table n))(f:af)(b:Int):sayOf n f b=n \/
  (sayOf n f b=iR n (bI (λg=>g.1) f (aa.table n)) (du (aa.cast n) f) (bif kd n f then aa.doubts n else cO (aQ n) (aa.doubts n) f b)/\∀ g∈aa.table n,g.1=f.1->bS f g):=by
 rcases oe r f with h|⟨h,u⟩
 ·left;unfold sayOf;rw[h];rfl
 ·right;refine⟨?_,u⟩;unfold sayOf;rw[h];rfl
theorem vS {n:aa}{f:af}{b:Int}(O:az (aa.table n))(hD:iC n)(hf:bA f)(hb:fF n b)(hn:0<=aQ n)(c:List aM) :
  iC (iR n (bI (λg=>g.1) f (aa.table n)) c (bif kd n f then aa.doubts n else cO (aQ n) (aa.doubts n) f b)):=by
 obtain⟨h1,Z,h3⟩:=(oh O).1 hD;have a0:az (bI (λg:af=>g.1) f (aa.table n)):=⟨λg y=>by
  rcases a8.1 y with rfl|⟨y,_⟩
  ·exact hf
  ·exact O.1 g y,fk O.2⟩
 refine (oh (n:=iR n _ c _) a0).2 ?_;have J:∀ d∈aa.doubts n,d.1≠f.1->∀ ds,lG (iR n (bI (λg:af=>g.1) f (aa.table n)) c ds) d:=λd z u ds=>by
  obtain⟨⟨g,y,Y,X,R⟩,r⟩:=h1 d z;exact⟨⟨g,a8.2 (.inr ⟨y,by rw[Y];exact u⟩),Y,X,R⟩,r⟩
 have I:∀ g∈bI (λg:af=>g.1) f (aa.table n),g.1≠f.1->g.2.2.1=2->∃ d∈aa.doubts n,d.1=g.1:=λg y u h=>by
  rcases a8.1 y with rfl|⟨y,_⟩
  ·exact absurd rfl u
  ·exact h3 g y h
 cases hs:kd n f with
 |true =>
  obtain⟨g0,M,s1,s2,s3⟩:=of_decide_eq_true hs;refine⟨λd z=>?_,Z,λg y h=>?_⟩
  ·by_cases u:d.1=f.1
   ·obtain⟨⟨g,y,Y,X,R⟩,r⟩:=h1 d z;rw[ii O.2 y M (by rw[Y,s1,u])]at X R;exact⟨⟨f,a8.2 (.inl rfl),u.symm,by rw[<- s3];exact X,by rw[<- s2];exact R⟩,r⟩
   ·exact J d z u _
  ·by_cases u:g.1=f.1
   ·have a1:g=f:=by
     rcases a8.1 y with h|⟨_,h⟩
     ·exact h
     ·exact absurd u h
    rw[a1]at h ⊢;obtain⟨d,z,e⟩:=h3 g0 M (by rw[s3];exact h);exact⟨d,z,by rw[e,s1]⟩
   ·exact I g y u h
 |false =>
  by_cases H:f.2.2.1=2
  ·have e:cO (aQ n) (aa.doubts n) f b=bI (λd=>d.1) (mkD (aQ n) f b) (aa.doubts n):=by unfold cO;rw[if_pos H]
   simp only[cond_false];rw[e];refine⟨λd z=>?_,fk Z,λg y h=>?_⟩
   ·rcases a8.1 z with rfl|⟨z,u⟩
    ·exact⟨⟨f,a8.2 (.inl rfl),rfl,H,rfl⟩,⟨hn,CJ _⟩,List.cons_ne_nil _ _,λx hx=>by rw[CD.1 hx];exact hb,C0 _ _⟩
    ·exact J d z u _
   ·by_cases u:g.1=f.1
    ·exact⟨mkD (aQ n) f b,a8.2 (.inl rfl),u.symm⟩
    ·obtain⟨d,z,e⟩:=I g y u h;exact⟨d,a8.2 (.inr ⟨z,λe'=>u (e.symm.trans e')⟩),e⟩
  ·have e:cO (aQ n) (aa.doubts n) f b=(aa.doubts n).filter (λd=>!(d.1==f.1)):=by unfold cO;rw[if_neg H]
   simp only[cond_false];rw[e];refine⟨λd z=>?_,mb Z _,λg y h=>?_⟩
   ·obtain⟨z,u⟩:=BK.1 z;exact J d z (by simpa using u) _
   ·have u:g.1≠f.1:=λu=>by
     rcases a8.1 y with h'|⟨_,h'⟩
     ·rw[h']at h;exact H h
     ·exact h' u
    obtain⟨d,z,e⟩:=I g y u h;exact⟨d,BK.2 ⟨z,by rw[e];simpa using u⟩,e⟩
theorem vT {n:aa}{f:af}(R:az (aa.table n))(X:cQ (aa.cast n))(O:gU (aa.table n) (aa.cast n))(M:bA f)(Y:∀ g∈aa.table n,g.1=f.1->bS f g) :
  gU (bI (λg=>g.1) f (aa.table n)) (du (aa.cast n) f):=by
 have H:∀ x∈aa.cast n,∃ g∈bI (λg:af=>g.1) f (aa.table n),g.1=x.1.1/\¬ bS x.1 g:=λx r=>by
  obtain⟨g,J,e,I⟩:=O x r;by_cases u:g.1=f.1
  ·refine⟨f,a8.2 (.inl rfl),by rw[<- e,u],λh=>I ?_⟩;have y:=(X.1 x r).1;have z:=R.1 g J;have:=Y g J u;rw[qA M z]at this;rw[qA y M]at h;rw[qA y z];omega
  ·exact⟨g,a8.2 (.inr ⟨J,u⟩),e,I⟩
 intro x r;unfold du at r;split at r
 ·exact H x r
 ·rcases a8.1 r with rfl|⟨r,_⟩
  ·exact⟨f,a8.2 (.inl rfl),rfl,xu f⟩
  ·exact H x r
structure UpX (n:aa):Prop where
 me:InP n.1 0 7
 now0:0<=aQ n
 table:az (aa.table n)
 site:cf (aa.table n) (ao n.1)
 cast:cQ (aa.cast n)
 vs:gU (aa.table n) (aa.cast n)
 probe:cC n
 doubts:iC n
 coord:cD (aa.coord n)
 places:ez n.1 (aa.places n)
 others:c9 n.1 (aa.others n)
theorem UpX.of {n:aa}(h:UpP n)(z:InP n.1 0 7)(J:0<=aQ n):UpX n:=by
 obtain⟨I,M,_,⟨R,H⟩,X,O,u,y,r⟩:=h;exact⟨z,J,I,M,R,H,X,O,u,y,r⟩
theorem UpX.up {n:aa}(h:UpX n)(r:dh n):UpP n:=⟨h.table,h.site,r,⟨h.cast,h.vs⟩,h.probe,h.doubts,h.coord,h.places,h.others⟩
theorem UpX.say {n:aa}(h:UpX n):b8 n:=by
 refine b8.mk' h.table h.cast h.doubts.2.1 λd r=>?_
 obtain⟨f,u,e,_⟩:=(h.doubts.1 d r).1;rw[<- e];exact (h.table.1 f u).1
theorem fF.me {n:aa}(h:InP n.1 0 7):fF n n.1:=⟨h,rfl⟩
theorem re {n m:aa}(h:cC n)(Y:m.1=n.1)(H:aa.probe m=aa.probe n)(X:∀ g∈aa.table n,∃ u∈aa.table m,u.1=g.1)(hn:aQ n<=aQ m)(Z:n.2.2.2.2.2.2.1<=m.2.2.2.2.2.2.1):cC m:=by
 unfold cC at h ⊢;rw[H,Y];split at h
 ·rename_i y;rw[if_pos y];exact h
 ·rename_i y;rw[if_neg y];obtain⟨M,⟨g,hg,I⟩,⟨p2,O⟩,⟨z,J⟩⟩:=h;obtain⟨u,r,R⟩:=X g hg;exact⟨M,⟨u,r,R.trans I⟩,⟨p2,Cs O hn⟩,⟨z,Cs J Z⟩⟩
theorem UpX.said {n:aa}{f:af}{b:Int}(h:UpX n)(u:bA f)(z:ao f.1=ao n.1)(H:fF n b):UpX (sayOf n f b):=by
 rcases oi h.table.2 f b with e|⟨e,I⟩
 ·rw[e];exact h
 ·have y:=λg r=>jJ (n:=n) (f:=f) (b:=b) (g:=g) r
  rw[e]at y ⊢;refine⟨h.me,h.now0,⟨λg r=>?_,fk h.table.2⟩,λg r=>?_,pI h.cast u,vT h.table h.cast h.vs u I,re h.probe rfl rfl y (CJ _) (CJ _),vS h.table h.doubts u H h.now0 _,h.coord,h.places,h.others⟩
  ·rcases a8.1 r with rfl|⟨r,_⟩
   ·exact u
   ·exact h.table.1 g r
  ·rcases a8.1 r with rfl|⟨r,_⟩
   ·exact z
   ·exact h.site g r
theorem xy {n:aa}(u:Asc (λg:af=>g.1) (aa.table n)){f g:af}{b:Int}(r:g.1≠f.1):g∈aa.table (sayOf n f b)<->g∈aa.table n:=by
 rcases oi u f b with e|⟨e,_⟩
 ·rw[e]
 ·rw[e];exact a8.trans ⟨λh=>h.elim (λh=>absurd (by rw[h]) r) (·.1),λh=>.inr ⟨h,r⟩⟩
theorem rg {n:aa}(y:Asc (λg:af=>g.1) (aa.table n)){f:af}{b:Int}(h:∀ g∈aa.table n,g.1=f.1->bS f g):f∈aa.table (sayOf n f b):=by
 have I:bT (aa.table n) f=(bI (λg=>g.1) f (aa.table n),true):=by
  rcases oe y f with e|⟨e,_⟩
  ·by_cases u:∃ g∈aa.table n,g.1=f.1
   ·obtain⟨g,r,z⟩:=u;obtain⟨i,H,rfl⟩:=BL r;rw[kw y H z,if_pos (h _ r z)]
   ·exact ij λg r e=>u ⟨g,r,e⟩
  ·exact e
 unfold Go.Proofs.YtaegajachoklkaaGreatEv.sayOf;rw[I];exact a8.2 (.inl rfl)
def OnN (n m:aa):Prop:=∃ t c r,m=iR n t c r
theorem OnN.refl (n:aa):OnN n n:=⟨_,_,_,rfl⟩
theorem OnN.say {n m:aa}(h:OnN n m)(f:af)(b:Int):OnN n (Go.Proofs.YtaegajachoklkaaGreatEv.sayOf m f b):=by
 obtain⟨t,c,u,rfl⟩:=h;obtain⟨y,z,r,e,_⟩:=iF (iR n t c u) f b;exact⟨y,z,r,e⟩
def mi (n:aa):af:=(n.1,n.2.2.2.2.1,(if n.2.2.1=true then 4 else 1),n.2.2.2.1)
theorem o7 {n m:aa}(H:Asc (λg:af=>g.1) (aa.table m))(y:OnN n m){f:af}{b:Int}(r:f.1≠n.1)(h:dh m):dh (sayOf m f b):=by
 obtain⟨t,c,O,e⟩:=y.say f b;obtain⟨M,R,z,I⟩:=y;have J:mi n∈aa.table m:=by rw[I]at h ⊢;exact h
 have u:=(xy H (f:=f) (b:=b) (g:=mi n) (λh=>r h.symm)).2 J;rw[e]at u ⊢;exact u
theorem yY {n:aa}(h:UpX n)(z:dh n){d:bO}(y:d∈aa.doubts n):d.1≠n.1:=by
 obtain⟨⟨g,H,e,r,_⟩,_⟩:=h.doubts.1 d y;intro u;have I:mi n∈aa.table n:=z;have:=ii h.table.2 H I (by rw[e,u];rfl);rw[this]at r;revert r;show (if n.2.2.1=true then (4:Int) else 1)=2->False;split <;> omega
theorem mZ {n:aa}(h:UpX n)(hs:dh n):UpX (cW n)/\dh (cW n)/\OnN n (cW n):=by
 have:=kz (st:=c6) (Inv:=λm=>(UpX m/\dh m/\OnN n m)/\∀ g∈aa.table n,∃ O∈aa.table m,O.1=g.1) (ds:=aa.doubts n) (n:=n) ⟨⟨h,hs,OnN.refl n⟩,λg u=>⟨g,u,rfl⟩⟩ ?_
 ·exact this.1
 ·rintro m d Z ⟨⟨r,y,Y⟩,J⟩;have H:=yY h hs Z;unfold c6;cases jS m.2.2.2.2.2.1 d.2.2.1 d.2.2.2.length with
  |false=>exact⟨⟨r,y,Y⟩,J⟩
  |true =>
   obtain⟨⟨g,u,e,_⟩,_⟩:=h.doubts.1 d Z;obtain⟨O,z,e'⟩:=J g u;obtain⟨h1,h2,h3⟩:=da r.table ⟨O,z,e'.trans e⟩;have I:ao (iU (aD (aa.table m) d.1)).1=ao m.1:=by
    show ao (aD (aa.table m) d.1).1=ao m.1;exact r.site _ h3
   have R:(iU (aD (aa.table m) d.1)).1≠n.1:=by rw[show (iU (aD (aa.table m) d.1)).1=_ from h2];exact H
   refine⟨⟨r.said (nQ h1) I (fF.me r.me),o7 r.table.2 Y R y,Y.say _ _⟩,λg u=>?_⟩;obtain⟨g1,M,e1⟩:=J g u;obtain⟨g2,X,e2⟩:=jJ (f:=iU (aD (aa.table m) d.1)) (b:=m.1) M;exact⟨g2,X,e2.trans e1⟩
theorem UpX.setProbe {n:aa}(h:UpX n){p:af}(r:cC (setP n p)):UpX (setP n p):=⟨h.me,h.now0,h.table,h.site,h.cast,h.vs,r,h.doubts,h.coord,h.places,h.others⟩
theorem xz (n:aa):cC (setP n noP):=by
 unfold cC;exact (if_pos rfl).mpr rfl
theorem xA {n:aa}(h:UpX n)(z:dh n):UpX (aW n).1/\dh (aW n).1/\∃ p,OnN (setP n p) (aW n).1:=by
 have r:UpX n/\dh n/\∃ p,OnN (setP n p) n:=⟨h,z,aa.probe n,OnN.refl n⟩;have y:UpX (setP n noP):=h.setProbe (xz n);unfold aW;cases O:(aa.probe n).1==-1 with
 |true=>exact r
 |false =>
  have H:(aa.probe n).1≠-1:=by simpa using O
  have u:=h.probe;unfold cC at u;rw[if_neg H]at u;simp only[cond_false];cases J:cN (aD (aa.table n) (aa.probe n).1) with
  |false=>exact⟨y,z,_,OnN.refl _⟩
  |true =>
   obtain⟨X,R,M⟩:=da h.table (fm J);simp only[BM,cond_false];cases decide (n.2.2.2.2.2.1-(aa.probe n).2.1>=4) with
   |true =>
    simp only[cond_true];cases (aD (aa.table n) (aa.probe n).1).2.2.1==1 with
    |true =>
     have I:ao (mc (aD (aa.table n) (aa.probe n).1)).1=ao (setP n noP).1:=by
      show ao (aD (aa.table n) (aa.probe n).1).1=ao n.1;exact h.site _ M
     refine⟨y.said (qx X) I (fF.me (n:=setP n noP) h.me),o7 (n:=setP n noP) (m:=setP n noP) h.table.2 (OnN.refl (setP n noP)) ?_ z,noP,(OnN.refl (setP n noP)).say _ _⟩;rw[show (mc (aD (aa.table n) (aa.probe n).1)).1=_ from R];exact u.1
    |false=>exact⟨y,z,_,OnN.refl _⟩
   |false =>
    simp only[cond_false];cases decide (n.2.2.2.2.2.1-(aa.probe n).2.1>=2) with
    |false=>exact r
    |true =>
     simp only[cond_true];cases (aa.probe n).2.2.2 with
     |true=>exact r
     |false =>
      refine⟨h.setProbe ?_,z,_,OnN.refl _⟩;show cC (jL n);unfold cC;rw[if_neg (show ¬ (aa.probe (jL n)).1=-1 from H)];exact u
def gW (n:aa):Option Int:=((List.range 8).map (bh n)).find? λx=>x != n.1&&cN (aD (aa.table n) x)
def di (n:aa):Int:=n.2.2.2.2.2.2.1
def dQ (n:aa):aa×List aq:=bif decide (di n>=999999) then (n,[]) else match gW n with
 |some to=>(qz n to,[sk n to])
 |none=>(n,[])
theorem rh {n:aa}{to:Int}(h:gW n=some to):to≠n.1/\cN (aD (aa.table n) to)=true:=by
 have:=C6 h;simpa using this
theorem xB {l:List aM}{T:List Int}{x:aM}(h:x∈dC l T l.length):∃ y∈l,x.1=y.1:=by
 unfold dC at h;obtain⟨u,_⟩:=BK.1 h;obtain⟨i,r,rfl⟩:=BL u;rw[eK]at r;rw[fp l T r];refine⟨l[i],BF r,?_⟩;unfold dP;rw[co r];cases decide ((i:Int)∈T) <;> rfl
theorem UpX.way {n:aa}(h:UpX n):UpX (im n):=⟨h.me,h.now0,h.table,h.site,th h.cast _,λx r=>by
 obtain⟨y,I,e⟩:=xB r;obtain⟨g,u,z,H⟩:=h.vs y I;exact⟨g,u,by rw[e,z],by rw[e];exact H⟩,h.probe,h.doubts,h.coord,h.places,h.others⟩
structure tj (n:aa):Prop where
 seq:InP (di n) 0 999999
 turn:InP n.2.2.2.2.2.2.2.1 0 8
theorem Bd {n:aa}(h:UpX n)(u:dh n)(y:tj n):UpX (dQ n).1/\dh (dQ n).1/\tj (dQ n).1/\(dQ n).1.1=n.1/\aQ (dQ n).1=aQ n/\(dQ n).1.2.2.2.2.1=n.2.2.2.2.1:=by
 unfold dQ;by_cases H:di n>=999999
 ·rw[decide_eq_true H];exact⟨h,u,y,rfl,rfl,rfl⟩
 ·rw[decide_eq_false H];simp only[cond_false];cases O:gW n with
  |none=>exact⟨h,u,y,rfl,rfl,rfl⟩
  |some to =>
   obtain⟨z,M⟩:=rh O;obtain⟨X,I,R⟩:=da h.table (fm M);obtain⟨⟨Y,Z⟩,_⟩:=y;have r:InP to 0 7:=I ▸ X.1;have J:=h.way;refine⟨⟨h.me,h.now0,h.table,h.site,J.cast,J.vs,?_,h.doubts,h.coord,h.places,h.others⟩,u,⟨⟨show 0<=di n+1 by omega,show di n+1<=999999 by omega⟩,show 0<=to+1 by have:=r.1;omega,show to+1<=8 by have:=r.2;omega⟩,rfl,rfl,rfl⟩;show cC (qz n to);unfold cC;rw[if_neg (show ¬ (aa.probe (qz n to)).1=-1 by have:=r.1;show ¬ to=-1;omega)];exact⟨z,⟨_,R,I⟩,⟨h.now0,CJ _⟩,show 1<=di n+1 by omega,CJ _⟩
def cF (n:aa):aa:=(n.1,n.2.1,n.2.2.1,n.2.2.2.1,n.2.2.2.2.1,n.2.2.2.2.2.1+1,n.2.2.2.2.2.2)
def dv (m:aa):aa×List aq:=bif (aa.probe m).1==-1 then dQ m else (m,[])
def eN (n:aa):aa×List aq:=aW (cW (cF n))
def cS (n:aa):aa:=(dv (eN n).1).1
def mj (n:aa)(r:Int):List aq:=(eN n).2++(dv (eN n).1).2++e8 (cS n) r
theorem UpX.later {n:aa}(h:UpX n):UpX (cF n):=by
 have J:aQ (cF n)=aQ n+1:=rfl;have M:=h.now0;refine⟨h.me,by omega,h.table,h.site,h.cast,h.vs,re h.probe rfl rfl (λg u=>⟨g,u,rfl⟩) (by omega) (CJ _),⟨λd y=>?_,h.doubts.2⟩,h.coord,h.places,h.others⟩;obtain⟨I,⟨z,r⟩,H⟩:=h.doubts.1 d y;exact⟨I,⟨z,Cs r (show aQ n<=aQ (cF n) by omega)⟩,H⟩
structure UpN (n:aa):Prop where
 x:UpX n
 self:dh n
 now1:aQ n<=999999
 seq:tj n
 inc:InP n.2.2.2.2.1 0 999
 up:n.2.1=true
theorem UpN.of {n:aa}(h:iP n)(y:n.2.1=true):UpN n:=by
 obtain⟨J,u,z,I,H,r⟩:=h;rw[if_pos y]at r;exact⟨UpX.of r J u.1,r.2.2.1,u.2,⟨z,I⟩,H,y⟩
theorem UpN.ok {n:aa}(h:UpN n):iP n:=⟨h.x.me,⟨h.x.now0,h.now1⟩,h.seq.seq,h.seq.turn,h.inc,by rw[if_pos h.up];exact h.x.up h.self⟩
theorem pM {n:aa}(h:UpN n)(Z:aQ n<999999):UpN (eN n).1/\(eN n).1.1=n.1/\(eN n).1.2.2.1=n.2.2.1:=by
 have J:dh (cF n):=h.self;obtain⟨y,H,M⟩:=mZ h.x.later J;obtain⟨R,O,p,z⟩:=xA y H;obtain⟨t,c,Y,I⟩:=M;obtain⟨X,c',u,r⟩:=z;have e:(eN n).1=_:=r;rw[I]at e;refine⟨⟨R,O,?_,⟨?_,?_⟩,?_,?_⟩,?_,?_⟩
 ·show aQ (eN n).1<=999999;rw[e];show aQ n+1<=999999;omega
 ·show InP (di (eN n).1) 0 999999;rw[e];exact h.seq.seq
 ·show InP (eN n).1.2.2.2.2.2.2.2.1 0 8;rw[e];exact h.seq.turn
 ·show InP (eN n).1.2.2.2.2.1 0 999;rw[e];exact h.inc
 ·show (eN n).1.2.1=true;rw[e];exact h.up
 ·rw[e];rfl
 ·rw[e];rfl
theorem tk {m:aa}:(dQ m).1.2.1=m.2.1/\(dQ m).1.2.2.1=m.2.2.1:=by
 unfold dQ;cases decide (di m>=999999) with
 |true=>exact⟨rfl,rfl⟩
 |false =>
  cases gW m with
  |none=>exact⟨rfl,rfl⟩
  |some to=>exact⟨rfl,rfl⟩
theorem vU {m:aa}(h:UpN m):UpN (dv m).1/\(dv m).1.1=m.1/\(dv m).1.2.2.1=m.2.2.1:=by
 unfold dv;cases (aa.probe m).1==-1 with
 |false=>exact⟨h,rfl,rfl⟩
 |true =>
  obtain⟨H,r,u,y,z,I⟩:=Bd h.x h.self h.seq;refine⟨⟨H,r,?_,u,?_,?_⟩,y,tk.2⟩
  ·show aQ (dQ m).1<=999999;rw[z];exact h.now1
  ·show InP (dQ m).1.2.2.2.2.1 0 999;rw[I];exact h.inc
  ·show (dQ m).1.2.1=true;rw[tk.1];exact h.up
theorem km {n:aa}(h:UpN n)(r:aQ n<999999):UpN (cS n)/\(cS n).1=n.1/\(cS n).2.2.1=n.2.2.1:=by
 obtain⟨J,H,u⟩:=pM h r;obtain⟨I,y,z⟩:=vU J;exact⟨I,y.trans H,z.trans u⟩
theorem yZ {f g:af}(h:g.2.1<f.2.1):bS f g:=by
 unfold bS;rw[if_pos (by omega)];exact h
theorem Aj {f g:af}(h:bS f g):g.2.1<=f.2.1:=by
 unfold bS at h;split at h <;> omega
theorem UpX.inc {n:aa}(h:UpX n)(i:Int):UpX (ik n i):=⟨h.me,h.now0,h.table,h.site,h.cast,h.vs,h.probe,h.doubts,h.coord,h.places,h.others⟩
theorem ri {n:aa}(h:UpX n)(r:dh n){g:af}(u:g∈aa.table n)(e:g.1=n.1):g=mi n:=ii h.table.2 u r (by rw[e];rfl)
theorem xC {n:aa}(h:UpX n)(r:dh n):aD (aa.table n) n.1=mi n:=jH h.table.2 (f:=mi n) r
theorem za {n:aa}(h:UpN n)(z:n.2.2.1=false):UpN (mR n)/\(mR n).1=n.1:=by
 have H:bA (n.1,n.2.2.2.2.1,4,n.2.2.2.1):=⟨h.x.me,h.inc,show (1:Int)<=4 by omega,show (4:Int)<=4 by omega⟩;have r:=h.x.said H rfl (fF.me h.x.me);have y:(n.1,n.2.2.2.2.1,(4:Int),n.2.2.2.1)∈aa.table (sayOf n (n.1,n.2.2.2.2.1,4,n.2.2.2.1) n.1):=rg h.x.table.2 λg u e=>by
  rw[ri h.x h.self u e];unfold bS mi;rw[z];simp
 obtain⟨t,c,I,e⟩:=(OnN.refl n).say (n.1,n.2.2.2.2.1,4,n.2.2.2.1) n.1;unfold mR;rw[e]at r y ⊢;exact⟨⟨⟨r.me,r.now0,r.table,r.site,r.cast,r.vs,r.probe,r.doubts,r.coord,r.places,r.others⟩,y,h.now1,⟨h.seq.seq,h.seq.turn⟩,h.inc,h.up⟩,rfl⟩
theorem xD {n:aa}{f:af}(h:UpN n)(u:n.2.2.1=false)(R:bA f):UpN (fN n f)/\(fN n f).1=n.1/\(fN n f).2.2.1=false:=by
 unfold fN;cases I:decide (bS f (aD (aa.table n) n.1))&&decide (f.2.1<999) with
 |false=>exact⟨h,rfl,u⟩
 |true =>
  rw[CK,decide_eq_true_eq,decide_eq_true_eq,xC h.x h.self]at I;obtain⟨X,M⟩:=I;have O:n.2.2.2.2.1<=f.2.1:=Aj X;have r:=uV (n:=n) h.x.me R M;have H:UpX (sayOf (ik n (f.2.1+1)) (n.1,f.2.1+1,1,n.2.2.2.1) n.1):=(h.x.inc (f.2.1+1)).said r rfl (fF.me (n:=ik n (f.2.1+1)) h.x.me);have z:(n.1,f.2.1+1,(1:Int),n.2.2.2.1)∈aa.table (sayOf (ik n (f.2.1+1)) (n.1,f.2.1+1,1,n.2.2.2.1) n.1):=rg (n:=ik n (f.2.1+1)) h.x.table.2 λg y e=>by
   rw[ri h.x h.self y e];exact yZ (show n.2.2.2.2.1<f.2.1+1 by omega)
  obtain⟨t,c,J,e⟩:=(OnN.refl (ik n (f.2.1+1))).say (n.1,f.2.1+1,1,n.2.2.2.1) n.1;simp only[cond_true];rw[show sayOf (ik n (f.2.1+1)) (n.1,f.2.1+1,1,n.2.2.2.1) n.1=iR (ik n (f.2.1+1)) t c J from e]at H z ⊢;refine⟨⟨H,?_,h.now1,⟨h.seq.seq,h.seq.turn⟩,r.2.1,h.up⟩,rfl,u⟩;show (n.1,f.2.1+1,(if n.2.2.1=true then (4:Int) else 1),n.2.2.2.1)∈_;rw[u];exact z
theorem m7 (f:af)(b:Int)(d:bO):(el f b d).1=d.1/\(el f b d).2.1=d.2.1/\(el f b d).2.2.1=d.2.2.1:=by
 unfold el;cases d.1==f.1&&d.2.1==f.2.1&&f.2.2.1==2 <;> exact⟨rfl,rfl,rfl⟩
theorem UpX.conf {n:aa}(h:UpX n)(f:af){b:Int}(hb:fF n b):UpX (kT n f b):=by
 refine⟨h.me,h.now0,h.table,h.site,h.cast,h.vs,h.probe,⟨λd J=>?_,?_,?_⟩,h.coord,h.places,h.others⟩
 ·obtain⟨r,y,rfl⟩:=BX.1 J;obtain⟨X,M,k3⟩:=m7 f b r;obtain⟨⟨g,Y,Z,R,O⟩,I,H,u⟩:=h.doubts.1 r y;refine⟨⟨g,Y,by rw[X];exact Z,R,by rw[M];exact O⟩,by rw[k3];exact I,?_⟩;unfold el;cases r.1==f.1&&r.2.1==f.2.1&&f.2.2.1==2 with
  |false=>exact⟨H,u⟩
  |true =>
   refine⟨List.ne_nil_of_mem (a8.2 (.inl rfl)),λx z=>?_,fk u.2⟩;rcases a8.1 z with rfl|⟨z,_⟩
   ·exact hb
   ·exact u.1 x z
 ·show Asc _ ((aa.doubts n).map (el f b));unfold Asc;rw[B6];exact h.doubts.2.1.imp λ {a c} h=>by show (el f b a).1<(el f b c).1;rw[(m7 f b a).1,(m7 f b c).1];exact h
 ·show _=((aa.doubts n).map (el f b)).length;rw[BR];exact h.doubts.2.2
theorem tm {n:aa}{f:af}{b:Int}(h:UpN n)(z:n.2.2.1=false)(I:bA f)(M:ao f.1=ao n.1)(H:fF n b):UpN (er b n f)/\(er b n f).1=n.1/\(er b n f).2.2.1=false:=by
 unfold er;by_cases r:f.1=n.1
 ·rw[show (f.1==n.1)=true by simpa using r];exact xD h z I
 ·rw[show (f.1==n.1)=false by simpa using r];have y:=h.x.said I M H;have u:=o7 h.x.table.2 (OnN.refl n) (b:=b) r h.self;obtain⟨t,c,J,e⟩:=(OnN.refl n).say f b;simp only[cond_false];rw[show sayOf n f b=iR n t c J from e]at y u ⊢;exact⟨⟨y.conf f H,u,h.now1,⟨h.seq.seq,h.seq.turn⟩,h.inc,h.up⟩,rfl,z⟩
theorem ml {n:aa}{t:List af}{b:Int}(h:UpN n)(I:n.2.2.1=false)(z:az t)(J:cf t (ao n.1))(u:fF n b):UpN (ji n t b)/\(ji n t b).1=n.1/\(ji n t b).2.2.1=false:=by
 refine kz (st:=er b) (Inv:=λm=>UpN m/\m.1=n.1/\m.2.2.1=false) (ds:=t) (n:=n) ⟨h,rfl,I⟩ λm f y ⟨M,r,H⟩=>?_
 have:=tm (b:=b) M H (z.1 f y) (by rw[r];exact J f y) ⟨u.1,by rw[r];exact u.2⟩;exact⟨this.1,this.2.1.trans r,this.2.2⟩
theorem UpN.learns {n:aa}(h:UpN n):eC n:=⟨h.x.say,h.x.me,⟨_,h.self,rfl⟩,λd y=>by
 obtain⟨_,_,_,r⟩:=h.x.doubts.1 d y;exact⟨r.2,λx u=>(r.1 x u).1⟩⟩
def setO (n:aa)(o:List cV):aa:=(n.1,n.2.1,n.2.2.1,n.2.2.2.1,n.2.2.2.2.1,n.2.2.2.2.2.1,n.2.2.2.2.2.2.1,n.2.2.2.2.2.2.2.1,n.2.2.2.2.2.2.2.2.1,n.2.2.2.2.2.2.2.2.2.1,n.2.2.2.2.2.2.2.2.2.2.1,n.2.2.2.2.2.2.2.2.2.2.2.1,n.2.2.2.2.2.2.2.2.2.2.2.2.1,n.2.2.2.2.2.2.2.2.2.2.2.2.2.1,o)
theorem UpN.setOthers {n:aa}(h:UpN n){o:List cV}(r:c9 n.1 o):UpN (setO n o):=⟨⟨h.x.me,h.x.now0,h.x.table,h.x.site,h.x.cast,h.x.vs,h.x.probe,h.x.doubts,h.x.coord,h.x.places,r⟩,h.self,h.now1,⟨h.seq.seq,h.seq.turn⟩,h.inc,h.up⟩
theorem vV {z s:Int}{r:List af}{o:List cV}(I:c9 z o)(M:InP s 0 1)(H:s≠ao z)(O:r≠[])(J:az r)(u:cf r s):c9 z (bI (λx:cV=>x.1) (s,r) o) :=
 ⟨λx y=>by
  rcases a8.1 y with rfl|⟨y,_⟩
  ·exact⟨M,H,O,J,u⟩
  ·exact I.1 x y,fk I.2⟩
def gX (l:List Int)(t:Int):List Int:=(l++[t]).drop ((l++[t]).length-3)
def dI (l:List dM)(r:Int):List Int:=((l.find? λp=>p.1==r).map (·.2.2)).getD []
def o8 (l:List dM)(r:Int)(c:dB)(t:Int):List dM:=bI (λp=>p.1) (r,c,gX (dI l r) t) l
def pN (n:aa)(c:dB)(p:List dM):aa:=(n.1,n.2.1,n.2.2.1,n.2.2.2.1,n.2.2.2.2.1,n.2.2.2.2.2.1,n.2.2.2.2.2.2.1,n.2.2.2.2.2.2.2.1,n.2.2.2.2.2.2.2.2.1,n.2.2.2.2.2.2.2.2.2.1,noP,n.2.2.2.2.2.2.2.2.2.2.2.1,c,p,n.2.2.2.2.2.2.2.2.2.2.2.2.2.2)
theorem uu {l:List dM}{r:Int}{t:Int}(h:t∈dI l r):∃ p∈l,t∈p.2.2:=by
 unfold dI at h;cases u:l.find? λp=>p.1==r with
 |none=>rw[u]at h;simp at h
 |some p =>
  rw[u]at h;exact⟨p,Cf u,h⟩
theorem xE {l:List Int}{t:Int}(u:∀ x∈l,InP x 1 60000)(r:InP t 1 60000):InP ((gX l t).length:Int) 1 3/\∀ x∈gX l t,InP x 1 60000:=by
 unfold gX;constructor
 ·simp only[CA,BS,BJ,BN];constructor <;> omega
 ·intro x y;have:=List.mem_of_mem_drop y;rcases CN.1 this with h|h
  ·exact u x h
  ·rw[CD.1 h];exact r
theorem vW {y r:Int}{l:List dM}{c:dB}{t:Int}(h:ez y l)(M:InP r 0 7)(R:ao r=ao y)(O:r≠y)(J:cD c)(I:InP t 1 60000):ez y (o8 l r c t):=by
 have H:=xE (l:=dI l r) (t:=t) (λx z=>by
  obtain⟨p,u,z⟩:=uu z;exact (h.1 p u).2.2.2.2.2 x z) I
 exact⟨λp u=>by
  rcases a8.1 u with rfl|⟨u,_⟩
  ·exact⟨M,R,O,J,H.1,H.2⟩
  ·exact h.1 p u,fk h.2⟩
theorem UpN.heard {n:aa}(h:UpN n){c:dB}{p:List dM}(u:cD c)(r:ez n.1 p):UpN (pN n c p):=⟨⟨h.x.me,h.x.now0,h.x.table,h.x.site,h.x.cast,h.x.vs,xz n,h.x.doubts,u,r,h.x.others⟩,h.self,h.now1,⟨h.seq.seq,h.seq.turn⟩,h.inc,h.up⟩
theorem UpN.way {n:aa}(h:UpN n):UpN (im n):=⟨h.x.way,h.self,h.now1,⟨h.seq.seq,h.seq.turn⟩,h.inc,h.up⟩
def Tot {α:Type}(o:Option α)(P:α->Prop):Prop:=∃ v,o=some v/\P v
section
variable {α β:Type} {P:α->Prop} {Q:β->Prop}
theorem Tot.ret {v:α}(h:P v):Tot (some v) P:=⟨v,rfl,h⟩
theorem Tot.mono {o:Option α}{r:α->Prop}(h:Tot o P)(k:∀ v,P v->r v):Tot o r:=by obtain⟨v,e,u⟩:=h;exact⟨v,e,k v u⟩
theorem Tot.bind {o:Option α}{g:α->Option β}(h:Tot o P)(k:∀ v,P v->Tot (g v) Q):Tot (o.bind g) Q:=by obtain⟨v,e,r⟩:=h;rw[e];exact k v r
theorem Tot.vl {o:Option α}{v:α}{g:α->Option β}(e:o=some v)(k:Tot (g v) Q):Tot (o.bind g) Q:=by rw[e];exact k
theorem Tot.cnd {b:Bool}{x y:Option α}(u:b=true->Tot x P)(r:b=false->Tot y P):Tot (bif b then x else y) P:=by
 cases b
 ·exact r rfl
 ·exact u rfl
theorem Tot.must {b:Bool}{x y:Option α}(r:b=true)(h:Tot x P):Tot (bif b then x else y) P:=by rw[r];exact h
theorem Tot.not {b:Bool}{x y:Option α}(r:b=false)(h:Tot x P):Tot (bif b then y else x) P:=by rw[r];exact h
theorem Tot.ix {xs:List α}{i:Int}{g:α->Option β}(u:0<=i)(z:i<xs.length)(k:∀ y∈xs,idx xs i=some y->Tot (g y) Q):Tot ((idx xs i).bind g) Q:=by
 obtain⟨n,rfl⟩:=BI u;have r:n<xs.length:=by omega
 have:=ag r;rw[this];exact k _ (BF r) this
theorem Tot.iter {A:Type}{step:(A->Option β)->A->Option β}(Inv:A->Prop)(m:A->Nat)(h:∀ (rec:A->Option β) (a:A),Inv a->(∀ r,Inv r->m r<m a->Tot (rec r) Q)->Tot (step rec a) Q):∀ (k:Nat) (a:A),m a<k->Inv a->Tot (ae step k a) Q:=by
 intro k;induction k with
 |zero=>intro a H;omega
 |succ k y =>
  intro a H z;exact h (ae step k) a z λr u I=>y r (by omega) u
end
theorem Ret.tot {o:Option RB}{P:Prop}(h:Ret o P):Tot o λv=>(v.1.1=true<->P):=by
 obtain⟨b,e,r⟩:=h;exact⟨_,e,r⟩
section
variable {α β:Type} {Q:β->Prop}
theorem Tot.cat {x y:ByteArray}{k:ByteArray->Option β}{a b:Nat}(r:x.size<=a)(H:y.size<=b)(h:∀ z:ByteArray,z.size<=a+b->Tot (k z) Q)(u:a+b<=4611686018427387904:=by omega):Tot (aX x y k) Q:=by
 unfold aX;rw[decide_eq_true (by omega)];exact h _ (by rw[ByteArray.size_append];omega)
theorem Tot.fit {a b c:Nat}{x y:Option β}(h:Tot x Q)(u:c<=1000:=by omega)(r:a+b<=2097152:=by omega):Tot (bif decide ((a+b)*c<=ak) then x else y) Q:=by
 have:=Ci r u;rw[decide_eq_true (by unfold ak;omega)];exact h
theorem Tot.ix2 {xs:List α}{i:Int}{g:α->Option β}(r:0<=i)(z:i<xs.length)(k:∀ y∈xs,idx xs i=some y->Tot (g y) Q):Tot ((idx xs i).bind λ_=>(idx xs ((BG i:Nat):Int)).bind g) Q :=
 Tot.ix r z λy u e=>by rw[Int.toNat_of_nonneg r,e];exact k y u e
end
theorem fO (s:ByteArray):s.data.toList.length=s.size:=Array.length_toList
theorem iX (xs:List Int):(gF xs).size=xs.length:=by
 unfold gF;show (List.toArray _).size=_;rw[List.size_toArray,BR]
theorem rj (s:ByteArray):(ey s).length=s.size:=by
 unfold ey;rw[BR];exact fO s
theorem dec_t:∀ (d k:Nat) (n:Int),0<=n->n<10 ^ (d+1)->n<=1000000000->d<=100->d<k->Tot (Q10.f k (n,())) λr=>r.1.1.size<=d+1:=by
 intro d;induction d with
 |zero =>
  intro k n H y J M O;obtain⟨k,rfl⟩:∃ m,k=m+1:=⟨k-1,by omega⟩;show Tot (Q10.step (Q10.f k) (n,())) _;simp only[Q10.step];refine Tot.not (decide_eq_false (show ¬ n< -9223372036854775807 by omega)) (Tot.not (decide_eq_false (show ¬ n<0 by omega)) (Tot.must (decide_eq_true (show n<10 by exact y)) (Tot.ret ?_)));show (gF _).size<=1;rw[iX];exact BT _
 |succ d Y =>
  intro k n H y J M O;obtain⟨k,rfl⟩:∃ m,k=m+1:=⟨k-1,by omega⟩;show Tot (Q10.step (Q10.f k) (n,())) _;simp only[Q10.step];refine Tot.not (decide_eq_false (show ¬ n< -9223372036854775807 by omega)) (Tot.not (decide_eq_false (show ¬ n<0 by omega)) (Tot.cnd (λ_=>Tot.ret ?_) λh=>?_))
  ·show (gF _).size<=_;rw[iX];exact Nat.succ_le_succ (BU _)
  ·have h:¬ n<10:=of_decide_eq_false h;have e:Cl n 10=n / 10:=by rw[CC H]
   have u:(10:Int) ^ (d+1+1)=10 ^ (d+1)*10:=Int.pow_succ ..;have I:n / 10<10 ^ (d+1):=Int.ediv_lt_of_lt_mul (by omega) (by rw[<- u];exact y);rw[e,aG (by omega) (by omega)];refine Tot.bind (Y k (n / 10) (by omega) I (by omega) (by omega) (by omega)) λv R=>Tot.cat R (b:=1) (by rw[iX];exact BT _) (λz X=>Tot.ret X) (by omega)
theorem lj (K:Nat)(n:Int)(u:0<=n)(z:n<=999999)(y:1048577<K):Tot (Q10.f K (n,())) λr=>r.1.1.size<=6 :=
 dec_t 5 K n u (by show n<1000000;omega) (by omega) (by omega) (by omega)
theorem tn (K:Nat)(i:Int)(u:0<=i)(y:i<=4):Tot (Q137.f K (i,())) λr=>r.1.1.size<=7:=by
 have:i=0\/i=1\/i=2\/i=3\/i=4:=by omega
 rcases this with rfl|rfl|rfl|rfl|rfl <;> exact⟨_,rfl,by decide⟩
theorem tp (K:Nat)(i:Int)(u:0<=i)(y:i<=6):Tot (Q134.f K (i,())) λr=>r.1.1.size<=4:=by
 have:i=0\/i=1\/i=2\/i=3\/i=4\/i=5\/i=6:=by omega
 rcases this with rfl|rfl|rfl|rfl|rfl|rfl|rfl <;> exact⟨_,rfl,by decide⟩
theorem zb (K:Nat)(t:List af)(M:az t)(hK:1048577<K):Tot (Q140.f K (t,())) λr=>r.1.1.size<=240:=by
 have hl:=iS M.2 (λg hg=>(M.1 g hg).1);refine Tot.iter (step:=λrec a=>Q140.s0 K (t,()) rec a) (λa=>0<=a.2/\a.2<=t.length/\(a.1.size:Int)<=30*a.2) (λa=>t.length-a.2.toNat) ?_ K _ (by show t.length-BG 0<K;omega) ⟨by show (0:Int)<=0;omega,by show (0:Int)<=_;omega,by show (0:Int)<=30*0;omega⟩;rintro rec ⟨s,i⟩ ⟨h0,h1,h2⟩ ih;simp only at h0 h1 h2 ih ⊢;simp only[Q140.s0];refine Tot.cnd (λh=>?_) λh=>?_
 ·have h:=of_decide_eq_true h;obtain⟨n,rfl⟩:=BI h0;have hn:n<t.length:=by omega
  obtain⟨⟨f1,f2⟩,⟨f3,f4⟩,f5,f6⟩:=M.1 t[n] (BF hn);rw[ag hn,ar n (by omega)];simp only[BD];have go:∀ z:ByteArray,z.size<=s.size+29->Tot (rec (z,((n+1:Nat):Int))) λr=>r.1.1.size<=240:=λz hz=>ih _ ⟨by show (0:Int)<=((n+1:Nat):Int);omega,by show ((n+1:Nat):Int)<=_;omega,by show (z.size:Int)<=30*((n+1:Nat):Int);omega⟩ (by show t.length-BG ((n+1:Nat):Int)<t.length-BG (n:Int);omega)
  have body:∀ R:ByteArray,R.size<=s.size+1->Tot ((Q10.f K (t[n].1,())).bind λy3=>aX R y3.1.1 λy4=>aX y4 (ByteArray.mk #[58]) λy5=>(Q10.f K (t[n].2.1,())).bind λy7=>aX y5 y7.1.1 λy8=>aX y8 (ByteArray.mk #[58]) λy9=>(Q137.f K (t[n].2.2.1,())).bind λy=>aX y9 y.1.1 λu=>bif t[n].2.2.2 then (aX u (ByteArray.mk #[42]) λY=>rec (Y,((n+1:Nat):Int))) else (rec (u,((n+1:Nat):Int)))) λr=>r.1.1.size<=240:=λR O =>
   Tot.bind (lj K _ f1 (by omega) hK) λv1 s1=>Tot.cat O s1 λz1 H=>Tot.cat H (b:=1) (by decide) λz2 I =>
   Tot.bind (lj K _ f3 (by omega) hK) λv2 s2=>Tot.cat I s2 λz3 J=>Tot.cat J (b:=1) (by decide) λz4 Z =>
   Tot.bind (tn K _ (by omega) f6) λv3 s3=>Tot.cat Z s3 λz5 X =>
   Tot.cnd (λ_=>Tot.cat X (b:=1) (by decide) λz6 a0=>go z6 (by omega)) λ_=>go z5 (by omega)
  exact Tot.cnd (λ_=>Tot.cat (BT _) (b:=1) (by decide) λz hz=>body z hz) λ_=>body s (by omega)
 ·have h:=of_decide_eq_false h;exact Tot.ret (by show s.size<=240;omega)
theorem oj (K:Nat)(t:List af)(y:t.length<=1048576)(u:1048577<K):Tot (Q141.f K (t,())) λr=>r.1.1.size<=240:=by
 simp only[Q141.f];refine Tot.bind (gq K t y u).tot λv H=>Tot.cnd (λ_=>Tot.ret (by show (0:Nat)<=240;omega)) λh=>?_
 have z:=H.1 (by simpa using h);exact Tot.cnd (λ_=>Tot.ret (by show (1:Nat)<=240;omega)) λ_=>Tot.bind (zb K t z u) λv h=>Tot.ret h
theorem pO (K:Nat)(n:Int)(H:-999999<=n)(I:n<=999999)(y:1048577<K):Tot (Q144.f K (n,())) λr=>r.1.1.size<=7:=by
 simp only[Q144.f];refine Tot.cnd (λh=>?_) λh=>?_
 ·have h:n<0:=of_decide_eq_true h;rw[aG (by omega) (by omega)];exact Tot.bind (lj K _ (by omega) (by omega) y) λv s=>Tot.cat (a:=1) (by decide) s λz u=>Tot.ret u
 ·have h:¬ n<0:=of_decide_eq_false h;exact Tot.bind (lj K _ (by omega) (by omega) y) λv s=>Tot.cat (a:=1) (by decide) s λz u=>Tot.ret u
theorem zc (K:Nat)(w:aq)(I:iQ w)(y:1048577<K):Tot (Q145.f K (w,())) λr=>r.1.1.size<=400:=by
 obtain⟨_,⟨a1,X⟩,⟨H,b2⟩,⟨z,c2⟩,⟨J,d2⟩,⟨Y,e2⟩,⟨⟨x1,x2⟩,⟨y1,y2⟩,⟨O,z2⟩,⟨u1,Z⟩⟩,M,_⟩:=I;have R:=cL M;simp only[Q145.f];have u:(ByteArray.mk #[32]).size<=1:=by decide
 refine Tot.cnd (λ_=>?_) λ_=>?_ <;>
 exact Tot.cat (a:=3) (by decide) u λ_ h=>Tot.bind (tp K _ (by omega) X) λ_ s=>Tot.cat h s λ_ h=>Tot.cat h u λ_ h =>
  Tot.bind (lj K _ H (by omega) y) λ_ s=>Tot.cat h s λ_ h=>Tot.cat h u λ_ h =>
  Tot.bind (lj K _ z (by omega) y) λ_ s=>Tot.cat h s λ_ h=>Tot.cat h u λ_ h =>
  Tot.bind (lj K _ J (by omega) y) λ_ s=>Tot.cat h s λ_ h=>Tot.cat h u λ_ h =>
  Tot.bind (lj K _ Y (by omega) y) λ_ s=>Tot.cat h s λ_ h=>Tot.cat h u λ_ h =>
  Tot.bind (pO K _ (by show -999999<=(aq.coord w).1;omega) (by show (aq.coord w).1<=999999;omega) y) λ_ s=>Tot.cat h s λ_ h=>Tot.cat h u λ_ h =>
  Tot.bind (pO K _ (by show -999999<=(aq.coord w).2.1;omega) (by show (aq.coord w).2.1<=999999;omega) y) λ_ s=>Tot.cat h s λ_ h=>Tot.cat h u λ_ h =>
  Tot.bind (lj K _ O (by show (aq.coord w).2.2.1<=999999;omega) y) λ_ s=>Tot.cat h s λ_ h=>Tot.cat h u λ_ h =>
  Tot.bind (lj K _ (by show 0<=(aq.coord w).2.2.2;omega) (by show (aq.coord w).2.2.2<=999999;omega) y) λ_ s=>Tot.cat h s λ_ h=>Tot.cat h u λ_ h =>
  Tot.bind (oj K _ R y) λ_ s=>Tot.cat h s λ_ h=>Tot.ret (BW h (by decide))
theorem zd (K:Nat)(n:Int)(I:1048577<K):Tot (Q147.f K (n,())) λ_=>True:=by
 refine Tot.iter (step:=λrec a=>Q147.s0 K (n,()) rec a) (λa=>0<=a.2/\a.2<=8) (λa=>8-a.2.toNat) ?_ K _ (by show 8-BG 0<K;omega) ⟨by show (0:Int)<=0;omega,by show (0:Int)<=8;omega⟩;rintro rec ⟨s,i⟩ ⟨u,H⟩ r;simp only at u H r ⊢;simp only[Q147.s0];obtain⟨i,rfl⟩:=BI u;refine Tot.cnd (λh=>?_) λ_=>Tot.ret trivial
 have h:=of_decide_eq_true h;rw[ar i (by omega)];have y:∀ z:Int,Tot (rec (z,((i+1:Nat):Int))) λ_=>True:=λz=>r _ ⟨by show (0:Int)<=((i+1:Nat):Int);omega,by show ((i+1:Nat):Int)<=8;omega⟩ (by show 8-BG ((i+1:Nat):Int)<8-BG (i:Int);omega)
 exact Tot.cnd (λ_=>y _) λ_=>y _
theorem Ak (K:Nat)(s:ByteArray)(J:s.size<=1000000)(H:1048577<K):Tot (Q148.f K (s,())) λ_=>True:=by
 refine Tot.iter (step:=λrec a=>Q148.s0 K (s,()) rec a) (λa=>0<=a.2/\a.2<=s.size) (λa=>s.size-a.2.toNat) ?_ K _ (by show s.size-BG 0<K;omega) ⟨by show (0:Int)<=0;omega,by show (0:Int)<=_;omega⟩;rintro rec ⟨z,i⟩ ⟨r,I⟩ u;simp only at r I u ⊢;simp only[Q148.s0];obtain⟨i,rfl⟩:=BI r;refine Tot.cnd (λh=>?_) λ_=>Tot.ret trivial
 have h:=of_decide_eq_true h;rw[ar i (by omega)];exact Tot.ix r (by rw[fO];exact h) λy _ _=>Tot.bind (zd K _ H) λv _=>u _ ⟨by show (0:Int)<=((i+1:Nat):Int);omega,by show ((i+1:Nat):Int)<=_;omega⟩ (by show s.size-BG ((i+1:Nat):Int)<s.size-BG (i:Int);omega)
theorem hex_t (K:Nat)(n:Int)(R:1048577<K):Tot (Q146.f K (n,())) λr=>r.1.1.size<=8:=by
 refine Tot.iter (step:=λrec a=>Q146.s0 K (n,()) rec a) (λa=>-1<=a.2/\a.2<=7/\a.1.length=7-a.2) (λa=>(a.2+1).toNat) ?_ K _ (by show BG 8<K;omega) ⟨by show (-1:Int)<=7;omega,by show (7:Int)<=7;omega,by show (0:Int)=7-7;omega⟩;rintro rec ⟨z,i⟩ ⟨I,O,M⟩ u;simp only at I O M u ⊢;simp only[Q146.s0];refine Tot.cnd (λh=>?_) λh=>?_
 ·have h:=of_decide_eq_true h;rw[aG (n:=4*i) (by omega) (by omega),aG (n:=i-1) (by omega) (by omega)];obtain⟨H,J⟩:=lK (a:=B4 n (2 ^ min (BG (4*i)) 64)) (m:=15) (by omega);refine Tot.not (decide_eq_false (by omega)) (Tot.ix H (Int.lt_of_le_of_lt J (by decide)) λy _ _=>Tot.fit ?_ (by omega) (by simp only[BJ,BN];omega));exact u _ ⟨by show -1<=i-1;omega,by show i-1<=7;omega,by show ((z++[_]).length:Int)=7-(i-1);rw[BS,CZ];omega⟩ (by show BG (i-1+1)<BG (i+1);omega)
 ·have h:=of_decide_eq_false h;refine Tot.ret ?_;show (gF z).size<=8;rw[iX];omega
theorem ol (K:Nat)(w:aq)(O:(aq.table w).length<=1048576)(u:1048577<K):Tot (Q149.f K (w,())) λr=>r.1.1.size<=409/\(¬ iQ w->r.1.1=ByteArray.mk #[]):=by
 simp only[Q149.f];refine Tot.bind (sP K w O u).tot λv M=>Tot.cnd (λ_=>Tot.ret ⟨by show (0:Nat)<=409;omega,λ_=>rfl⟩) λh=>?_
 have H:=M.1 (by simpa using h);exact Tot.bind (zc K w H u) λb J=>Tot.cat J (b:=1) (by decide) λz y=>Tot.bind (Ak K _ (by omega) u) λs _=>Tot.bind (hex_t K _ u) λx I=>Tot.cat y I λz y=>Tot.ret ⟨y,λh=>absurd H h⟩
theorem vX (K:Nat)(s:ByteArray)(c:Int)(hs:s.size<=100000)(hK:1048577<K):Tot (Q133.f K (s,c,())) λr=>r.1.1.length<=s.size+1/\∀ p∈r.1.1,p.size<=s.size:=by
 have I:∀ i j:Nat,(s.extract i j).size<=s.size:=λi j=>by rw[Cm];omega
 refine Tot.iter (step:=λrec a=>Q133.s0 K (s,c,()) rec a) (λa=>0<=a.2.1/\a.2.1<=a.2.2/\a.2.2<=s.size/\a.1.length<=a.2.2/\∀ p∈a.1,p.size<=s.size) (λa=>s.size-a.2.2.toNat) ?_ K _ (by show s.size-BG 0<K;omega) ⟨by show (0:Int)<=0;omega,by show (0:Int)<=0;omega,by show (0:Int)<=_;omega,by show (0:Int)<=0;omega,λp M=>by cases M⟩;rintro rec ⟨u,from_,i⟩ ⟨z,J,X,Y,O⟩ R;simp only at z J X Y O R ⊢;simp only[Q133.s0];obtain⟨i,rfl⟩:=BI (Cs z J);have H:∀ x:ByteArray,x.size<=s.size->∀ p∈u++[x],p.size<=s.size:=λx Z p M=>by
  rcases CN.1 M with h|h
  ·exact O p h
  ·rw[CD.1 h];exact Z
 refine Tot.cnd (λh=>?_) λh=>?_
 ·have h:=of_decide_eq_true h;rw[ar i (by omega)];refine Tot.ix (Cs z J) (by rw[fO];exact h) λy _ _=>Tot.cnd (λ_=>Tot.must (by rw[decide_eq_true z,decide_eq_true J,decide_eq_true X];rfl) (Tot.fit (R _ ⟨?_,?_,?_,?_,H _ (I _ _)⟩ ?_) (by omega) (by simp only[BJ,BN];omega))) λ_=>R _ ⟨z,?_,?_,?_,O⟩ ?_
  ·show (0:Int)<=((i+1:Nat):Int);omega
  ·show ((i+1:Nat):Int)<=((i+1:Nat):Int);omega
  ·show ((i+1:Nat):Int)<=s.size;omega
  ·show ((u++[_]).length:Int)<=((i+1:Nat):Int);rw[BS,CZ];omega
  ·show s.size-BG ((i+1:Nat):Int)<s.size-BG (i:Int);omega
  ·show from_<=((i+1:Nat):Int);omega
  ·show ((i+1:Nat):Int)<=s.size;omega
  ·show (u.length:Int)<=((i+1:Nat):Int);omega
  ·show s.size-BG ((i+1:Nat):Int)<s.size-BG (i:Int);omega
 ·refine Tot.must (by rw[decide_eq_true z,decide_eq_true (by omega),decide_eq_true (CJ _)];rfl) (Tot.fit (Tot.ret ⟨?_,H _ (I _ _)⟩) (by omega) (by simp only[BJ,BN];omega));show (u++[_]).length<=_;rw[BS,CZ];omega
theorem ke (K:Nat)(s:ByteArray)(X:s.size<=100000)(R:1048577<K):Tot (Q135.f K (s,())) λ_=>True:=by
 simp only[Q135.f,Q135.pre];have r:((s.size:Int)<=6)->Tot (Q135.l0 K (s,()) (0,0)) λ_=>True:=λY=>by
  refine Tot.iter (step:=λrec a=>Q135.s0 K (s,()) rec a) (λa=>0<=a.2/\a.2<=s.size) (λa=>s.size-a.2.toNat) ?_ K _ (by show s.size-BG 0<K;omega) ⟨by show (0:Int)<=0;omega,by show (0:Int)<=_;omega⟩;rintro rec ⟨z,i⟩ ⟨H,O⟩ J;simp only at H O J ⊢;simp only[Q135.s0];obtain⟨i,rfl⟩:=BI H;refine Tot.cnd (λh=>?_) λ_=>Tot.ret trivial
  have h:=of_decide_eq_true h;have I:((i:Nat):Int)<s.data.toList.length:=by rw[fO];exact h
  rw[ar i (by omega)];exact Tot.ix H I λy _ _=>Tot.cnd (λ_=>Tot.ret trivial) λ_=>Tot.ix H I λy _ _=>Tot.cnd (λ_=>Tot.ret trivial) λ_=>Tot.ix H I λy _ _=>J _ ⟨by show (0:Int)<=((i+1:Nat):Int);omega,by show ((i+1:Nat):Int)<=_;omega⟩ (by show s.size-BG ((i+1:Nat):Int)<s.size-BG (i:Int);omega)
 refine Tot.bind (cB K _ _ _).tot λv M=>Tot.cnd (λ_=>Tot.ret trivial) λh=>?_
 have u:=M.1 (by simpa using h);exact Tot.cnd (λh=>Tot.ix (by omega) (by rw[fO];have:=of_decide_eq_true h;omega) λy _ _=>Tot.cnd (λ_=>Tot.ret trivial) λ_=>r u.2) λ_=>r u.2
theorem u5 (K:Nat)(s:ByteArray)(J:s.size<=100000)(I:1048577<K):Tot (Q136.f K (s,())) λ_=>True:=by
 simp only[Q136.f];refine Tot.cnd (λ_=>Tot.ret trivial) λh=>?_
 have h:=of_decide_eq_false h;have u:(0:Int)<s.data.toList.length:=by rw[fO];omega
 have r:Tot (bif decide ((0:Int)<=1)&&decide ((1:Int)<=(s.size:Int))&&decide ((s.size:Int)<=(s.size:Int)) then ((Q135.f K (s.extract (BG 1) (BG (s.size:Int)),())).bind λz=>bif decide (z.1.1<0) then (some (((-1),false,()),())) else (bif s.toList==(ByteArray.mk #[45,48]).toList then (some (((-1),false,()),())) else ((idx s.data.toList 0).bind λH=>bif (H.toNat:Int)==45 then (some ((wr .i64 (0-z.1.1),true,()),())) else (some ((z.1.1,true,()),()))))) else none) λ (_:(Int×Bool×Unit)×Unit)=>True :=
  Tot.must (by rw[decide_eq_true (by omega:(0:Int)<=1),decide_eq_true (by omega:(1:Int)<=s.size),decide_eq_true (CJ _)];rfl) (Tot.bind (ke K _ (by rw[Cm];omega) I) λv _=>Tot.cnd (λ_=>Tot.ret trivial) λ_=>Tot.cnd (λ_=>Tot.ret trivial) λ_=>Tot.ix (by omega) u λy _ _=>Tot.cnd (λ_=>Tot.ret trivial) λ_=>Tot.ret trivial)
 exact Tot.ix (by omega) u λy _ _=>Tot.cnd (λ_=>Tot.ix (by omega) u λy _ _=>Tot.cnd (λ_=>Tot.ret trivial) λ_=>r) λ_=>r
theorem Al (K:Nat)(s:ByteArray)(hs:s.size<=100000)(O:1048577<K):Tot (Q138.f K (s,())) λ_=>True:=by
 simp only[Q138.f,Q138.pre];have H:∀ (M:List ByteArray) (n1 n2:Int) (b:Bool),M.length=3->Tot (Q138.l0 K (s,()) (M,1,n1,n2,0,b)) λ_=>True:=λM n1 n2 b hx=>by
  refine Tot.iter (step:=λrec a=>Q138.s0 K (s,()) rec a) (λa=>a.1.length=3/\1<=a.2.1/\a.2.1<=5) (λa=>5-a.2.1.toNat) ?_ K _ (by show 5-BG 1<K;omega) ⟨hx,by show (1:Int)<=1;omega,by show (1:Int)<=5;omega⟩;rintro rec ⟨ys,i,m1,m2,m3,m4⟩ ⟨h0,h1,h2⟩ ih;simp only at h0 h1 h2 ih ⊢;simp only[Q138.s0];refine Tot.cnd (λh=>?_) λ_=>Tot.bind (oS K _).tot λ_ _=>Tot.ret trivial
  have h:=of_decide_eq_true h;rw[aG (n:=i+1) (by omega) (by omega)];have go:∀ m:Int,Tot (rec (ys,i+1,m1,m2,m,m4)) λ_=>True:=λm=>ih _ ⟨h0,by show 1<=i+1;omega,by show i+1<=5;omega⟩ (by show 5-BG (i+1)<5-BG i;omega)
  exact Tot.bind (tn K i (by omega) h) λv _=>Tot.ix2 (by omega) (by omega) λy _ _=>Tot.cnd (λ_=>go _) λ_=>go _
 have u:∀ (z:ByteArray) (b:Bool),z.size<=s.size->Tot ((Q133.f K (z,58,())).bind λr=>bif (BE r.1.1:Int) != 3 then (some (((0,(0,(0,b))),false,()),())) else ((idx r.1.1 0).bind λ_=>(idx r.1.1 (BG 0:Nat)).bind λX=>(Q135.f K (X,())).bind λR=>(idx r.1.1 1).bind λ_=>(idx r.1.1 (BG 1:Nat)).bind λI=>(Q135.f K (I,())).bind λJ=>Q138.l0 K (s,()) (r.1.1,1,R.1.1,J.1.1,0,b))) λ_=>True:=λz b hz =>
  Tot.bind (vX K z 58 (by omega) O) λv ⟨_,Z⟩=>Tot.cnd (λ_=>Tot.ret trivial) λh=>by
   have h3:(v.1.1.length:Int)=3:=by simpa using h
   exact Tot.ix2 (by omega) (by omega) λy Y _=>Tot.bind (ke K y (by have:=Z y Y;omega) O) λ_ _=>Tot.ix2 (by omega) (by omega) λy Y _=>Tot.bind (ke K y (by have:=Z y Y;omega) O) λ_ _=>H _ _ _ _ (by omega)
 refine Tot.cnd (λh=>?_) λ_=>u s false (BT _)
 have h:=of_decide_eq_true h;rw[aG (n:=(s.size:Int)-1) (by omega) (by omega)];exact Tot.ix (by omega) (by rw[fO];omega) λy _ _=>Tot.cnd (λ_=>Tot.must (by simp only[CK,decide_eq_true_eq];omega) (u _ true (by rw[Cm];omega))) λ_=>u s false (BT _)
theorem Am (K:Nat)(s:ByteArray)(O:s.size<=100000)(H:1048577<K):Tot (Q139.f K (s,())) λr=>r.1.1.length<=100001:=by
 simp only[Q139.f,Q139.pre];refine Tot.cnd (λ_=>Tot.ret (by show (0:Nat)<=_;omega)) λ_=>Tot.bind (vX K s 44 O H) ?_
 rintro⟨⟨xs,⟨⟩⟩,⟨⟩⟩ ⟨hl,hp⟩;dsimp only at hl hp ⊢;refine Tot.iter (step:=λrec a=>Q139.s0 K (s,()) rec a) (λa=>a.2.1=xs/\0<=a.2.2/\a.2.2<=xs.length/\(a.1.length:Int)<=a.2.2) (λa=>xs.length-a.2.2.toNat) ?_ K _ (by show xs.length-BG 0<K;omega) ⟨rfl,by show (0:Int)<=0;omega,by show (0:Int)<=_;omega,by show (0:Int)<=0;omega⟩;rintro rec ⟨u,I,i⟩ ⟨rfl,z,X,M⟩ J;simp only at z X M hl hp J ⊢;simp only[Q139.s0];obtain⟨i,rfl⟩:=BI z;refine Tot.cnd (λh=>?_) λ_=>Tot.ret (by show u.length<=_;omega)
 have h:=of_decide_eq_true h;rw[ar i (by omega)];exact Tot.ix2 z h λy R _=>Tot.bind (Al K y (by have:=hp y R;omega) H) λv _=>Tot.cnd (λ_=>Tot.ret (by show (0:Nat)<=_;omega)) λ_=>Tot.fit (J _ ⟨rfl,by show (0:Int)<=((i+1:Nat):Int);omega,by show ((i+1:Nat):Int)<=_;omega,by show ((u++[_]).length:Int)<=((i+1:Nat):Int);rw[BS,CZ];omega⟩ (by show I.length-BG ((i+1:Nat):Int)<I.length-BG (i:Int);omega)) (by omega) (by simp only[BJ,BN];omega)
theorem An (K:Nat)(s:ByteArray)(y:s.size<=100000)(u:1048577<K):Tot (Q142.f K (s,())) λr=>r.1.1.length<=100001:=by
 simp only[Q142.f];exact Tot.bind (Am K s y u) λv z=>Tot.cnd (λ_=>Tot.ret (by show (0:Nat)<=_;omega)) λ_=>Tot.bind (oj K _ (by omega) u) λx _=>Tot.cnd (λ_=>Tot.ret (by show (0:Nat)<=_;omega)) λ_=>Tot.ret z
theorem pP (K:Nat)(s:ByteArray)(Z:s.size<=100000)(H:1048577<K):Tot (Q150.f K (s,())) λr=>r.1.2.1=true->iQ r.1.1:=by
 simp only[Q150.f,Q150.pre];refine Tot.bind (vX K s 32 Z H) ?_;rintro⟨⟨xs,⟨⟩⟩,⟨⟩⟩ ⟨hl,hp⟩;dsimp only at hl hp ⊢;refine Tot.cnd (λ_=>Tot.ret λh=>by cases h) λ_=>Tot.cnd (λ_=>Tot.ret λh=>by cases h) λh=>?_
 have M:(xs.length:Int)=12:=by simpa using h
 have u:∀ y∈xs,y.size<=100000:=λy z=>BW (hp y z) Z
 have I:∀ p:Int,Tot (Q150.l0 K (s,()) (xs,1,p,0)) λr=>r.1.2.1=true->iQ r.1.1:=λp=>by
  refine Tot.iter (step:=λrec a=>Q150.s0 K (s,()) rec a) (λa=>a.1=xs/\1<=a.2.1/\a.2.1<=7) (λa=>7-a.2.1.toNat) ?_ K _ (by show 7-BG 1<K;omega) ⟨rfl,by show (1:Int)<=1;omega,by show (1:Int)<=7;omega⟩;rintro rec ⟨ys,i,p,k⟩ ⟨rfl,X,h2⟩ Y;simp only at X h2 hl M u Y ⊢;simp only[Q150.s0];refine Tot.cnd (λh=>?_) λ_=>?_
  ·have h:=of_decide_eq_true h;rw[aG (n:=i+1) (by omega) (by omega)];have R:∀ m:Int,Tot (rec (ys,i+1,p,m)) λr=>r.1.2.1=true->iQ r.1.1:=λm=>Y _ ⟨rfl,by show 1<=i+1;omega,by show i+1<=7;omega⟩ (by show 7-BG (i+1)<7-BG i;omega)
   exact Tot.bind (tp K i (by omega) h) λv _=>Tot.ix2 (by omega) (by omega) λy _ _=>Tot.cnd (λ_=>R _) λ_=>R _
  ·refine Tot.ix2 (by omega) (by omega) λy z _=>Tot.bind (ke K y (u y z) H) λ_ _=>Tot.ix2 (by omega) (by omega) λy z _=>Tot.bind (ke K y (u y z) H) λ_ _=>Tot.ix2 (by omega) (by omega) λy z _=>Tot.bind (ke K y (u y z) H) λ_ _=>Tot.ix2 (by omega) (by omega) λy z _=>Tot.bind (ke K y (u y z) H) λ_ _ =>
    Tot.ix2 (by omega) (by omega) λy z _=>Tot.bind (u5 K y (u y z) H) λ_ _=>Tot.ix2 (by omega) (by omega) λy z _=>Tot.bind (u5 K y (u y z) H) λ_ _=>Tot.ix2 (by omega) (by omega) λy z _=>Tot.bind (An K y (u y z) H) λt ht=>Tot.ix2 (by omega) (by omega) λy z _=>Tot.bind (ke K y (u y z) H) λ_ _=>Tot.ix2 (by omega) (by omega) λy z _=>Tot.bind (ke K y (u y z) H) λ_ _ =>
    Tot.cnd (λ_=>Tot.ret λh=>by cases h) λ_=>Tot.cnd (λ_=>Tot.ret λh=>by cases h) λ_=>Tot.cnd (λ_=>Tot.ret λh=>by cases h) λ_=>Tot.bind (ol K _ (by show t.1.1.length<=1048576;omega) H) λx ⟨_,hx⟩=>Tot.cnd (λ_=>Tot.ret λh=>by cases h) λJ=>Tot.ret λ_=>?_
   refine Classical.byContradiction λhn=>?_
   rw[hx hn]at J;have O:(ByteArray.mk #[]).toList=s.toList:=by
    have:((ByteArray.mk #[]).toList != s.toList)=false:=J;simpa using this
   rw[DD,DD]at O;have h0:=congrArg BE O;rw[fO,fO]at h0;have X:(ByteArray.mk #[]).size=0:=rfl;omega
 exact Tot.ix2 (by omega) (by omega) λy _ _=>Tot.cnd (λ_=>I 2) λ_=>I 1
def Rt (v r:Nat):Prop:=r*r<=v/\v<(r+1)*(r+1)
theorem Be (K:Nat)(v:Nat)(hv:v<1500000001*1500000001)(hK:1048577<K):∃ r,Rt v r/\Q173.f K ((v:Int),())=some (((r:Int),()),()):=by
 have z:∀ (e k l h:Nat),h-l<2 ^ e->e<k->l<=h->h<=1500000000->l*l<=v->v<(h+1)*(h+1)->∃ r,Rt v r/\ae (λrec a=>Q173.s0 K ((v:Int),()) rec a) k ((l:Int),(h:Int))=some (((r:Int),()),()):=by
  intro e;induction e with
  |zero =>
   intro k l h Y hk H J y u;obtain⟨k,rfl⟩:∃ I,k=I+1:=⟨k-1,by omega⟩;have:l=h:=by omega
   subst this;refine⟨l,⟨y,u⟩,?_⟩;show Q173.s0 K _ _ _=_;simp only[Q173.s0];rw[decide_eq_false (by omega)];rfl
  |succ e X =>
   intro k l h Y hk H J y u;obtain⟨k,rfl⟩:∃ I,k=I+1:=⟨k-1,by omega⟩;show ∃ r,Rt v r/\Q173.s0 K _ _ _=_;simp only[Q173.s0];by_cases hl:l<h
   ·rw[decide_eq_true (show (l:Int)<(h:Int) by omega)];have e1:wr .i64 ((l:Int)+(h:Int))=(l:Int)+h:=aG (by omega) (by omega);have e2:wr .i64 ((l:Int)+(h:Int)+1)=((l+h+1:Nat):Int):=(aG (by omega) (by omega)).trans (by omega);have e3:Cl ((l+h+1:Nat):Int) 2=(((l+h+1) / 2:Nat):Int):=by
     rw[CC (by omega)];omega
    rw[e1,e2,e3];have hm:l<(l+h+1) / 2/\(l+h+1) / 2<=h:=by omega
    have O:h-(l+h+1) / 2<2 ^ e/\(l+h+1) / 2-1-l<2 ^ e:=by
     rw[Nat.pow_succ]at Y;omega
    generalize (l+h+1) / 2=m at *;have e4:wr .i64 (m:Int)=m:=aG (by omega) (by omega);have e5:Cl (v:Int) (m:Int)=((v / m:Nat):Int):=by
     rw[CC (by omega)];rfl
    have Z:v / m<=v:=Nat.div_le_self _ _;have M:m<=v / m<->m*m<=v:=Nat.le_div_iff_mul_le (by omega);generalize v / m=q at *;have e6:wr .i64 (q:Int)=(q:Int):=aG (by omega) (by omega);rw[e4,e5,e6,decide_eq_false (show ¬ (m:Int)=0 by omega)];simp only[cond_true,cond_false];by_cases R:m<=q
    ·rw[decide_eq_true (by omega)];exact X k m h O.1 (by omega) (by omega) J (M.1 R) u
    ·rw[decide_eq_false (by omega)];have a0:¬ m*m<=v:=λh4=>R (M.2 h4)
     have e7:wr .i64 ((m:Int)-1)=((m-1:Nat):Int):=eY m (by omega) (by omega);rw[e7];exact X k l (m-1) O.2 (by omega) (by omega) (by omega) y (by rw[show m-1+1=m by omega];omega)
   ·have:l=h:=by omega
    subst this;refine⟨l,⟨y,u⟩,?_⟩;rw[decide_eq_false (by omega)];rfl
 exact z 31 K 0 1500000000 (by decide) (by omega) (by omega) (by omega) (by omega) hv
def iY (x:Int):Int:=if x< -1000000000 then -1000000000 else if x>1000000000 then 1000000000 else x
theorem qB (K:Nat)(x:Int):Q172.f K (x,())=some ((iY x,()),()):=by
 simp only[Q172.f,Q169.f,iY];by_cases h:x< -1000000000
 ·rw[decide_eq_true h,if_pos h];rfl
 ·rw[decide_eq_false h,if_neg h];by_cases r:x>1000000000
  ·rw[decide_eq_true r,if_pos r];rfl
  ·rw[decide_eq_false r,if_neg r];rfl
theorem tq (x:Int):-1000000000<=iY x/\iY x<=1000000000:=by
 unfold iY;split
 ·omega
 ·split <;> omega
theorem zK {a:Int}(h:-1000000000<=a/\a<=1000000000):0<=a*a/\a*a<=1000000000000000000:=by
 have e:∃ b:Nat,b<=1000000000/\a*a=((b*b:Nat):Int):=by
  refine⟨a.natAbs,by omega,?_⟩;exact (Int.natAbs_mul_self).symm
 obtain⟨b,r,u⟩:=e;have:=Ci r r;omega
theorem xF (K:Nat)(x y:Int)(I:1048577<K):Tot (Q174.f K (x,y,())) λ_=>True:=by
 simp only[Q174.f];rw[qB K x,qB K y];simp only[BD];have O:=zK (tq x);have M:=zK (tq y);generalize iY x*iY x=a at *;generalize iY y*iY y=b at *;have u:wr .i64 a=a:=aG (by omega) (by omega);have H:wr .i64 b=b:=aG (by omega) (by omega);have J:wr .i64 (a+b)=(((a+b).toNat:Nat):Int):=(aG (by omega) (by omega)).trans (by omega);rw[u,H,J];obtain⟨r,_,z⟩:=Be K (a+b).toNat (by omega) I;rw[z];simp only[BD];rw[qB K r];exact⟨_,rfl,trivial⟩
theorem Bf (K:Nat)(c d:dB)(r:1048577<K):Tot (Q175.f K (c,d,())) λ_=>True:=by
 simp only[Q175.f];exact Tot.bind (iB K c).tot λ_ _=>Tot.cnd (λ_=>Tot.ret trivial) λ_=>Tot.bind (iB K d).tot λ_ _=>Tot.cnd (λ_=>Tot.ret trivial) λ_=>Tot.bind (xF K _ _ r) λ_ _=>Tot.ret trivial
theorem kU (K:Nat)(n u y:Int)(h:u<=y):Tot (Q169.f K (n,u,y,())) λr=>InP r.1.1 u y:=by
 simp only[Q169.f];exact Tot.cnd (λ_=>Tot.ret ⟨CJ _,h⟩) λH=>Tot.cnd (λ_=>Tot.ret ⟨h,CJ _⟩) λz=>Tot.ret ⟨Int.not_lt.1 (of_decide_eq_false H),Int.not_lt.1 (of_decide_eq_false z)⟩
theorem Bg (K:Nat)(c b:dB)(t s:Int)(H:cD c)(R:1048577<K):Tot (Q180.f K (c,b,t,s,())) λr=>cD r.1.1:=by
 simp only[Q180.f];refine Tot.bind (iB K c).tot λv M=>Tot.cnd (λh=>?_) λ_=>Tot.bind (iB K b).tot λv M=>Tot.cnd (λ_=>Tot.ret H) λz=>Tot.bind (cB K _ _ _).tot λv' I=>Tot.cnd (λ_=>Tot.ret H) λu=>?_
 ·rw[M.2 H]at h;cases h
 have hb:=M.1 (by simpa using z);have Z:=I.1 (by simpa using u);obtain⟨_,_,_,⟨c1,c2⟩⟩:=H;obtain⟨_,_,_,⟨b1,b2⟩⟩:=hb;obtain⟨t1,t2⟩:=Z;have X:¬ wr .i64 (c.2.2.2+b.2.2.2)=0:=by rw[aG (by omega) (by omega)];omega
 have y:∀ w:Int,Tot (Q179.f K (c,b,w,t,())) λr=>InP r.1.1 1 1500:=λw=>by
  simp only[Q179.f,Q178.f];refine Tot.bind (P:=λ_=>True) (Tot.cnd (λ_=>Tot.ret trivial) λ_=>Tot.ret trivial) λ_ _=>Tot.not (decide_eq_false (show ¬ t=0 by omega)) (Tot.bind (kU K _ _ _ (by omega)) λ_ _=>Tot.not (decide_eq_false X) (Tot.bind (kU K _ _ _ (by omega)) λ_ h=>Tot.ret h))
 refine Tot.bind (Bf K c b R) λ_ _=>?_
 simp only[Q176.f];refine Tot.bind (P:=λ_=>True) (Tot.not (decide_eq_false X) (Tot.ret trivial)) λ_ _=>Tot.bind (xF K _ _ R) λn _=>Tot.cnd (λ_=>?_) λh=>?_
 ·simp only[Q177.f];refine Tot.bind (P:=λ_=>True) (Tot.cnd (λ_=>Tot.ret trivial) λ_=>Tot.cnd (λ_=>Tot.ret trivial) λ_=>Tot.cnd (λ_=>Tot.ret trivial) λ_=>Tot.ret trivial) λ_ _=>Tot.cnd (λ_=>?_) λ_=>?_ <;>
  exact Tot.bind (kU K _ _ _ (by omega)) λ_ O=>Tot.bind (kU K _ _ _ (by omega)) λ_ z=>Tot.bind (kU K _ _ _ (by omega)) λ_ u=>Tot.bind (y _) λ_ J=>Tot.ret ⟨O,z,u,J⟩
 ·have Y:¬ n.1.1=0:=by simpa using h
  refine Tot.cnd (λ_=>?_) λ_=>?_ <;>
  exact Tot.not (decide_eq_false Y) (Tot.bind (kU K _ _ _ (by omega)) λ_ O=>Tot.not (decide_eq_false Y) (Tot.bind (kU K _ _ _ (by omega)) λ_ z=>Tot.bind (kU K _ _ _ (by omega)) λ_ u=>Tot.bind (y _) λ_ J=>Tot.ret ⟨O,z,u,J⟩))
noncomputable def pQ (K:Nat)(c b:dB)(t s:Int):dB:=((Q180.f K (c,b,t,s,())).getD (((0,0,0,0),()),())).1.1
noncomputable def sl (K:Nat)(l:List Int):Int:=((Q181.f K (l,())).getD ((0,()),())).1.1
theorem xG (K:Nat)(c b:dB)(t s:Int)(u:cD c)(r:1048577<K):Q180.f K (c,b,t,s,())=some ((pQ K c b t s,()),())/\cD (pQ K c b t s):=by
 obtain⟨⟨⟨v,⟨⟩⟩,⟨⟩⟩,e,h⟩:=Bg K c b t s u r;unfold pQ;rw[e];exact⟨rfl,h⟩
theorem med_t (K:Nat)(l:List Int)(hl:l.length<=100)(hK:1048577<K):Tot (Q181.f K (l,())) λ_=>True:=by
 simp only[Q181.f,Q181.pre];have z:∀ J:List Int,J.length<=100->Tot (Q181.l0 K (l,()) (J,[],0)) λ_=>True:=λJ hx=>by
  refine Tot.iter (step:=λrec a=>Q181.s0 K (l,()) (Q181.l1 K (l,()) rec) rec a) (λa=>a.1=J/\0<=a.2.2/\a.2.2<=J.length/\(a.2.1.length:Int)=a.2.2) (λa=>J.length-a.2.2.toNat) ?_ K _ (by show J.length-BG 0<K;omega) ⟨rfl,by show (0:Int)<=0;omega,by show (0:Int)<=_;omega,rfl⟩;rintro rec ⟨ys,H,i⟩ ⟨rfl,X,h1,h2⟩ ih;simp only at X h1 h2 hx ih ⊢;simp only[Q181.s0];obtain⟨i,rfl⟩:=BI X;refine Tot.cnd (λh=>?_) λ_=>Tot.cnd (λ_=>Tot.ret trivial) λh=>?_
  ·have I:=of_decide_eq_true h;clear h;refine Tot.iter (step:=λu a=>Q181.s1 K (l,()) rec u a) (λa=>a.1=ys/\a.2.1=H/\a.2.2.1=i/\0<=a.2.2.2/\a.2.2.2<=H.length) (λa=>H.length-a.2.2.2.toNat) ?_ K _ (by show H.length-BG 0<K;omega) ⟨rfl,rfl,rfl,by show (0:Int)<=0;omega,by show (0:Int)<=_;omega⟩;rintro u ⟨R,r,j,k⟩ ⟨rfl,rfl,e,Z,k1⟩ O;simp only at e Z k1 I h1 h2 hx O ih ⊢;subst e;simp only[Q181.s1];obtain⟨k,rfl⟩:=BI Z;have a0:∀ y:Int,Tot (rec (R,(([]++((r.take (BG (k:Int))).drop (BG 0)))++([y]))++((r.take (BG (BE r:Int))).drop (BG (k:Int))),wr .i64 ((i:Int)+1))) λ_=>True:=λy=>by
    rw[ar i (by omega)];refine ih _ ⟨rfl,by show (0:Int)<=((i+1:Nat):Int);omega,by show ((i+1:Nat):Int)<=_;omega,?_⟩ (by show R.length-BG ((i+1:Nat):Int)<R.length-BG (i:Int);omega);simp only[BH,Ca,BY,BQ,BS,BV,CA,BJ,BN];omega
   have M:Tot (bif decide (0<=0)&&decide ((0:Int)<=(k:Int))&&decide ((k:Int)<=(BE r:Int))&&true then (bif decide ((BE ([]:List (Ty.den (.int .i64)))+BE ((r.take (BG (k:Int))).drop (BG 0)))*8<=ak) then ((idx R (i:Int)).bind λY=>bif decide ((BE ([]++((r.take (BG (k:Int))).drop (BG 0)))+BE ([Y]))*8<=ak) then (bif decide ((0:Int)<=(k:Int))&&decide ((k:Int)<=(BE r:Int))&&decide ((BE r:Int)<=(BE r:Int))&&true then (bif decide ((BE (([]++((r.take (BG (k:Int))).drop (BG 0)))++([Y]))+BE ((r.take (BG (BE r:Int))).drop (BG (k:Int))))*8<=ak) then (rec (R,(([]++((r.take (BG (k:Int))).drop (BG 0)))++([Y]))++((r.take (BG (BE r:Int))).drop (BG (k:Int))),wr .i64 ((i:Int)+1))) else none) else none) else none) else none) else none) λ_=>True:=by
    refine Tot.must (by simp only[CK,decide_eq_true_eq,Cy];omega) (Tot.fit (Tot.ix X I λy _ _=>Tot.fit (Tot.must (by simp only[CK,decide_eq_true_eq,Cy];omega) (Tot.fit (a0 y) (by omega) ?_)) (by omega) ?_) (by omega) ?_) <;>
    simp only[BH,Ca,BY,BQ,BS,BV,CA,BJ,BN] <;> omega
   refine Tot.cnd (λh4=>?_) λ_=>M
   have h4:=of_decide_eq_true h4;refine Tot.ix Z h4 λy1 _ _=>Tot.ix X I λy2 _ _=>Tot.cnd (λ_=>?_) λ_=>M
   rw[ar k (by omega)];exact O _ ⟨rfl,rfl,rfl,by show (0:Int)<=((k+1:Nat):Int);omega,by show ((k+1:Nat):Int)<=_;omega⟩ (by show r.length-BG ((k+1:Nat):Int)<r.length-BG (k:Int);omega)
  ·have h:¬ (H.length:Int)=0:=by simpa using h
   rw[aG (n:=(H.length:Int)-1) (by omega) (by omega)];have e:Cl ((H.length:Int)-1) 2=((H.length:Int)-1) / 2:=by rw[CC (by omega)]
   rw[e,aG (by omega) (by omega)];exact Tot.ix (by omega) (by omega) λy _ _=>Tot.ret trivial
 refine Tot.cnd (λh=>?_) λ_=>z l hl
 have h:=of_decide_eq_true h;rw[aG (n:=(l.length:Int)-3) (by omega) (by omega)];exact Tot.must (by simp only[CK,decide_eq_true_eq,Cy];omega) (z _ (by simp only[CA,BV];omega))
theorem med_s (K:Nat)(l:List Int)(r:l.length<=100)(u:1048577<K):Q181.f K (l,())=some ((sl K l,()),()):=by
 obtain⟨⟨⟨v,⟨⟩⟩,⟨⟩⟩,e,_⟩:=med_t K l r u;unfold sl;rw[e];rfl
end Go.Proofs.YtaegajachoklkaaGreatEv
