/- The marks that a law writes into what was answered, and the look whether they still stand. -/
import Derived.Test.YtadlacffdemoiaaGreatP1
import Derived.Test.YtadlacffdemoiaaGreatE0
import Derived.Laws.Strings
set_option linter.unusedVariables false
set_option linter.unusedSimpArgs false
open Bool renaming not_true->B6,not_false->CR,and_eq_true->Cc,true_and->Cj,and_self->Cm,false_and->Cr,eq_iff_iff->Cz,false_or->DH,and_true->DI,true_or->DM,and_false->Dh,or_true->Dj
open ByteArray renaming size_extract->C6
open Classical renaming not_not->Cp
open Eq renaming trans->DJ
open Go.ByteArray renaming toList_eq->DS
open Go.IntKind renaming wrap_i64->Dc
open Int renaming toNat->BY,eq_ofNat_of_zero_le->BZ,toNat_natCast->B3,tdiv_eq_ediv_of_nonneg->CV,fdiv->CY,le_refl->Cb,toNat_zero->Cq,tmod->Cu,tdiv->C4,le_trans->C5,tmod_eq_emod_of_nonneg->DD,le_of_lt->DL,tmod_lt_of_pos->DV,tdiv_le_self->Dd,tmod_nonneg->Df,tdiv_nonneg->Dg
open List renaming length->BW,getElem_mem->BX,length_cons->B4,mem_filter->B5,getElem_of_mem->B7,drop_eq_getElem_cons->B8,length_nil->B9,append_nil->CA,getElem?_eq_getElem->CB,nil_append->CC,length_append->CD,pairwise_cons->CE,filter_eq_self->CG,length_map->CH,filter_cons->CI,length_take->CJ,filter_eq_nil_iff->CK,mem_map->CM,drop_zero->CN,reverse_reverse->CO,pairwise_map->CQ,mem_singleton->CS,length_drop->CT,take_of_length_le->CU,mem_append->CW,filter_append->CX,append_assoc->CZ,mem_cons->Ca,length_filter_le->Ce,pairwise_iff_getElem->Cf,pairwise_append->Cg,take_succ_eq_append_getElem->Ch,reverse_cons->Ci,take_length->Ck,getElem?_eq_none->Cn,length_singleton->Co,replicate->Ct,ext_getElem->Cv,mem_of_find?_eq_some->Cw,length_take_le->Cx,length_reverse->Cy,getElem_take->C0,take_append_drop->C7,length_replicate->C8,drop_length->C9,not_mem_nil->DA,map_append->DB,length_pos_iff->DC,filter_congr->DF,map_cons->DG,pairwise_singleton->DK,find?_cons->DN,find?_some->DO,length_set->DP,set_append_right->DQ,mem_of_mem_take->DR,find?_eq_none->DT,mem_cons_self->DU,getElem_drop->DW,take_add_one->DX,perm_middle->DY,cons_append->DZ,getElem_set->Da,mem_range->Di,map_nil->Dk
open List.Pairwise renaming filter->Cs
open Nat renaming le_refl->CF,zero_le->CL,le_trans->CP,lt_or_eq_of_le->Cd,mul_le_mul->C3,lt_trichotomy->DE
open Option renaming bind_some->BV,bind->Cl,getD_some->Db,map_some->De
namespace Go.Proofs.YtadlacffdemoiaaGreatEv
open Go
theorem kY {α β R:Type}(t:List α)(p:α->Bool)(g:α->β)(n:Nat)(u:List β->Option R){step:(List β×Int->Option R)->List β×Int->Option R}
  (h:∀ (rec:List β×Int->Option R) (r:List β) (i:Nat) (J:i<t.length),r.length<=i->r.length<n->step rec (r,(i:Int))=rec (bif p t[i] then r++[g t[i]] else r,((i+1:Nat):Int)))
  (Z:∀ (rec:List β×Int->Option R) (r:List β) (i:Nat),i<t.length->r.length<=i->n<=r.length->step rec (r,(i:Int))=u r)
  (z:∀ (rec:List β×Int->Option R) (r:List β),r.length<=t.length->step rec (r,(t.length:Int))=u r) :
  ∀ (d i k:Nat) (r:List β),i+d=t.length->d<k->r.length<=i->r.length<=n->ae step k (r,(i:Int))=u (r++(((t.drop i).filter p).map g).take (n-r.length)):=by
 intro d;induction d with
 |zero =>
  intro i k r J X H _;obtain⟨k,rfl⟩:∃ I,k=I+1:=⟨k-1,by omega⟩;have:i=t.length:=by omega
  subst this;show step (ae step k) _=_;rw[z _ _ H];simp
 |succ d M =>
  intro i k r J X H Y;obtain⟨k,rfl⟩:∃ I,k=I+1:=⟨k-1,by omega⟩;have y:i<t.length:=by omega
  show step (ae step k) _=_;by_cases hc:r.length<n
  ·rw[h _ _ _ y H hc,B8 y,CI];cases hp:p t[i] with
   |true =>
    simp only[cond_true,if_true,DG];rw[M (i+1) k _ (by omega) (by omega) (by simp;omega) (by simp;omega)];congr 1;obtain⟨m,O⟩:∃ m,n-r.length=m+1:=⟨n-r.length-1,by omega⟩;rw[O,List.take_succ_cons,CZ];simp only[CD,B4,B9];rw[show n-(r.length+(0+1))=m by omega];rfl
   |false =>
    simp only[cond_false];rw[M (i+1) k _ (by omega) (by omega) (by omega) (by omega)];rfl
  ·rw[Z _ _ _ y H (by omega)];rw[show n-r.length=0 by omega];simp
theorem vQ {α β R:Type}(t:List α)(p:α->Bool)(g:α->β)(u:List β->Option R){step:(List β×Int->Option R)->List β×Int->Option R}
  (h:∀ (rec:List β×Int->Option R) (r:List β) (i:Nat) (z:i<t.length),r.length<=i->step rec (r,(i:Int))=rec (bif p t[i] then r++[g t[i]] else r,((i+1:Nat):Int)))
  (y:∀ (rec:List β×Int->Option R) (r:List β),r.length<=t.length->step rec (r,(t.length:Int))=u r) {k:Nat} (I:t.length<k) :
  ae step k ([],0)=u ((t.filter p).map g):=by
 have:=kY t p g (t.length+1) u (λrec r i z H _=>h rec r i z H) (λrec r i z H J=>by omega) y t.length 0 k [] (by omega) I (CF _) (by simp);refine this.trans ?_;congr 1;simp only[CC,B9,CN];exact CU (by have:=Ce p t;simp;omega)
theorem d5 {e:Ty}{b:Nat}{xs:List e.den}(h:xs.length*b<=140737488355328):fP e b xs=some ((xs,()),()):=by
 unfold fP;rw[decide_eq_true (by simpa[an]using h)];rfl
theorem Bi {α β:Type}{xs r:List α}{b:Nat}{x y:β}(h:(xs.length+r.length)*b<=140737488355328):(bif decide ((BW xs+BW r)*b<=an) then x else y)=x:=by
 rw[decide_eq_true (by simpa[an]using h)];rfl
theorem Ae (K:Nat)(xs:List Int)(n:Int)(H:xs.length<=1048576):Q189.f K (xs,n,())=some ((xs.take n.toNat,()),()):=by
 simp only[Q189.f,Q188.f,BV,Q9.f];obtain⟨c,z,u,y,r⟩:∃ c:Int,(bif decide (0<(bif decide ((xs.length:Int)<n) then (xs.length:Int) else n)) then bif decide ((xs.length:Int)<n) then (xs.length:Int) else n else 0)=c/\0<=c/\c<=xs.length/\xs.take c.toNat=xs.take n.toNat:=by
  by_cases h:(xs.length:Int)<n
  ·rw[decide_eq_true h];simp only[cond_true];by_cases r:0<(xs.length:Int)
   ·rw[decide_eq_true r];refine⟨_,rfl,by simp,by simp,?_⟩;simp only[cond_true];rw[CU (by omega),CU (by omega)]
   ·rw[decide_eq_false r];refine⟨_,rfl,by simp,by simp,?_⟩;have:xs=[]:=List.eq_nil_of_length_eq_zero (by omega);subst this;simp
  ·rw[decide_eq_false h];simp only[cond_false];by_cases r:0<n
   ·rw[decide_eq_true r];exact⟨_,rfl,by simp;omega,by simp;omega,rfl⟩
   ·rw[decide_eq_false r];refine⟨_,rfl,by simp,by simp,?_⟩;simp only[cond_false];rw[show n.toNat=0 by omega];rfl
 rw[z,decide_eq_true u,decide_eq_true y];simp only[Cq,CN,decide_true,Cm,cond_true];rw[d5 (by
  have:=Cx c.toNat xs;have I:(List.take c.toNat xs).length<=1048576:=by omega
  omega)]
 simp only[BV];rw[r];rfl
def mY (f:af):Bool:=f.2.2.2&&f.2.2.1==1
def fI (t:List af):List Int:=((t.filter mY).map (·.1)).take 2
theorem uZ (K:Nat)(t:List af)(J:t.length<=1048576)(I:1048577<K):Q99.f K (t,2,())=some ((fI t,()),()):=by
 have:=kY (step:=λrec a=>Q99.s0 K (t,2,()) rec a) t mY (λf=>f.1) 2 (λy=>some ((y,()),())) ?_ ?_ ?_ t.length 0 K [] (by omega) (by omega) (CF _) (by simp)
 ·exact this
 ·intro rec r i u H z;simp only[Q99.s0];rw[bj (by omega:(i:Int)<(BW t:Int)),ag u,ar i (by omega),decide_eq_true (by omega:(BW r:Int)<2)];simp only[cond_true,BV,mY];cases t[i].2.2.2 with
  |true =>
   simp only[cond_true,Cj];cases t[i].2.2.1==1 with
   |true=>simp only[cond_true];rw[Bi (by simp;omega)]
   |false=>rfl
  |false=>rfl
 ·intro rec r i u H z;simp only[Q99.s0];rw[bj (by omega:(i:Int)<(BW t:Int)),decide_eq_false (by omega:¬ (BW r:Int)<2)];rfl
 ·intro rec r _;simp only[Q99.s0,aP];rfl
theorem xt (t:List af):(fI t).length<=2:=by
 unfold fI;exact Cx _ _
def dk (l:List aY)(s:Int):List af:=((l.find? λx=>x.1==s).map (·.2)).getD []
theorem pQ {R:Type}(l:List aY)(s:Int)(r:List af->Option R){step:(Int->Option R)->Int->Option R}
  (h:∀ (rec:Int->Option R) (i:Nat) (H:i<l.length),step rec (i:Int)=bif l[i].1==s then r l[i].2 else rec ((i+1:Nat):Int))
  (u:∀ rec:Int->Option R,step rec (l.length:Int)=r []) :
  ∀ (d i k:Nat),i+d=l.length->d<k->ae step k (i:Int)=r (dk (l.drop i) s):=by
 intro d;induction d with
 |zero =>
  intro i k H J;obtain⟨k,rfl⟩:∃ z,k=z+1:=⟨k-1,by omega⟩;have:i=l.length:=by omega
  subst this;show step (ae step k) _=_;rw[u];simp[dk]
 |succ d I =>
  intro i k H J;obtain⟨k,rfl⟩:∃ z,k=z+1:=⟨k-1,by omega⟩;have y:i<l.length:=by omega
  show step (ae step k) _=_;rw[h _ _ y,B8 y];simp only[dk,DN];cases l[i].1==s with
  |true=>rfl
  |false=>exact I (i+1) k (by omega) (by omega)
theorem Af (K:Nat)(n:aa)(s:Int)(u:NB n)(z:1048577<K):Q182.f K (n,s,())=some ((dk (aa.others n) s,()),()):=by
 have y:=u.others;refine pQ (step:=λrec a=>Q182.s0 K (n,s,()) rec a) (aa.others n) s (λt=>some ((t,()),())) ?_ ?_ (aa.others n).length 0 K (by omega) (by omega)
 ·intro rec i r;simp only[Q182.s0];rw[bj (by omega:(i:Int)<(BW (aa.others n):Int)),ag r,ar i (by omega)];rfl
 ·intro rec;simp only[Q182.s0,aP];rfl
theorem ri {l:List aY}{s:Int}:dk l s=[]\/∃ x∈l,x.1=s/\dk l s=x.2:=by
 unfold dk;cases h:l.find? λx=>x.1==s with
 |none=>exact .inl rfl
 |some x=>exact .inr ⟨x,Cw h,by simpa using DO h,rfl⟩
def a7 {α:Type}(k:α->Int)(x:α)(xs:List α):List α:=xs.filter (λy=>decide (k y<k x))++x::xs.filter (λy=>decide (k x<k y))
theorem rj {α:Type}{k:α->Int}{xs:List α}{v:Int}{m:Nat}(J:m<=xs.length)(I:∀ i,(z:i<xs.length)->i<m->k xs[i]<v)(z:∀ i,(h:i<xs.length)->m<=i->v<=k xs[i]):xs.filter (λy=>decide (k y<v))=xs.take m:=by
 conv=>lhs;rw[<- C7 m xs]
 rw[CX];have r:(xs.take m).filter (λy=>decide (k y<v))=xs.take m:=by
  rw[CG];intro y u;obtain⟨i,r,rfl⟩:=B7 u;rw[CJ]at r;rw[C0];exact decide_eq_true (I i (by omega) (by omega))
 have H:(xs.drop m).filter (λy=>decide (k y<v))=[]:=by
  rw[CK];intro y u;obtain⟨i,r,rfl⟩:=B7 u;rw[CT]at r;rw[DW];have:=z (m+i) (by omega) (by omega);simp only[decide_eq_true_eq];omega
 rw[r,H,CA]
theorem rl {α:Type}{k:α->Int}{xs:List α}{v:Int}{m:Nat}(J:m<=xs.length)(I:∀ i,(z:i<xs.length)->i<m->k xs[i]<=v)(z:∀ i,(h:i<xs.length)->m<=i->v<k xs[i]):xs.filter (λy=>decide (v<k y))=xs.drop m:=by
 conv=>lhs;rw[<- C7 m xs]
 rw[CX];have r:(xs.take m).filter (λy=>decide (v<k y))=[]:=by
  rw[CK];intro y u;obtain⟨i,r,rfl⟩:=B7 u;rw[CJ]at r;rw[C0];have:=I i (by omega) (by omega);simp only[decide_eq_true_eq];omega
 have H:(xs.drop m).filter (λy=>decide (v<k y))=xs.drop m:=by
  rw[CG];intro y u;obtain⟨i,r,rfl⟩:=B7 u;rw[CT]at r;rw[DW];exact decide_eq_true (z (m+i) (by omega) (by omega))
 rw[r,H,CC]
theorem iq {α:Type}{k:α->Int}{xs:List α}{x:α}{m:Nat}(h:Asc k xs)(H:m<xs.length)(e:k xs[m]=k x):xs.set m x=a7 k x xs:=by
 have J:=ci.1 h;have I:∀ i,(u:i<xs.length)->i<m->k xs[i]<k x:=λi u y=>by rw[<- e];exact J i m u H y
 have M:∀ i,(u:i<xs.length)->m<i->k x<k xs[i]:=λi u y=>by rw[<- e];exact J m i H u y
 rw[a7,rj (m:=m) (by omega) I (λi u r=>by
   rcases Cd r with z|z
   ·exact DL (M i u z)
   ·subst z;omega),
  rl (m:=m+1) (by omega) (λi u r=>by
   rcases Cd (Nat.le_of_lt_succ r) with z|z
   ·exact DL (I i u z)
   ·subst z;omega) (λi u r=>M i u r),
  List.set_eq_take_append_cons_drop,if_pos H]
theorem gB {α:Type}{k:α->Int}{xs:List α}{x:α}{m:Nat}(z:m<=xs.length)(H:∀ i,(y:i<xs.length)->i<m->k xs[i]<k x)(y:∀ i,(h:i<xs.length)->m<=i->k x<k xs[i]):xs.take m++[x]++xs.drop m=a7 k x xs:=by
 rw[a7,rj z H (λi u r=>DL (y i u r)),rl z (λi u r=>DL (H i u r)) y,CZ];rfl
theorem aO {α:Type}{k:α->Int}{xs:List α}{x y:α}:y∈a7 k x xs<->y=x\/(y∈xs/\k y≠k x):=by
 simp only[a7,CW,Ca,B5,decide_eq_true_eq];constructor
 ·rintro (⟨r,u⟩|rfl|⟨r,u⟩)
  ·exact .inr ⟨r,by omega⟩
  ·exact .inl rfl
  ·exact .inr ⟨r,by omega⟩
 ·rintro (rfl|⟨r,u⟩)
  ·exact .inr (.inl rfl)
  ·rcases Int.lt_or_gt_of_ne u with z|z
   ·exact .inl ⟨r,z⟩
   ·exact .inr (.inr ⟨r,z⟩)
theorem eF {α:Type}{k:α->Int}{xs:List α}{x:α}(h:Asc k xs):Asc k (a7 k x xs):=by
 unfold Asc a7;rw[Cg,CE];refine⟨h.filter _,⟨λy r=>?_,h.filter _⟩,λy r z u=>?_⟩
 ·simpa using (B5.1 r).2
 ·have H:k y<k x:=by simpa using (B5.1 r).2
  rcases Ca.1 u with rfl|u
  ·exact H
  ·have I:k x<k z:=by simpa using (B5.1 u).2
   omega
theorem yO {α:Type}{k:α->Int}{xs:List α}{x:α}:(a7 k x xs).length<=xs.length+1:=by
 have:∀ l:List α,(l.filter (λy=>decide (k y<k x))).length+(l.filter (λy=>decide (k x<k y))).length<=l.length:=by
  intro l;induction l with
  |nil=>simp
  |cons y l u =>
   simp only[CI,B4];by_cases r:k y<k x
   ·rw[if_pos (decide_eq_true r),if_neg (by simp;omega)];simp only[B4];omega
   ·rw[if_neg (by simpa using r)];split <;> (try simp only[B4]) <;> omega
 have:=this xs;simp only[a7,CD,B4];omega
theorem md {α:Type}{k:α->Int}{xs:List α}(h:Asc k xs){i:Nat}(u:i<xs.length){v:Int}(e:k xs[i]=v):xs.find? (λy=>k y==v)=some xs[i]:=by
 cases r:xs.find? (λy=>k y==v) with
 |none =>
  have:=DT.1 r xs[i] (BX u);simp[e]at this
 |some y =>
  have z:k y=v:=by simpa using DO r
  obtain⟨j,H,rfl⟩:=B7 (Cw r);have:=o9 h H u (by rw[z,e]);subst this;rfl
theorem nY {α:Type}{k:α->Int}{xs:List α}{v:Int}(h:∀ y∈xs,k y≠v):xs.find? (λy=>k y==v)=none:=by
 rw[DT];intro y r;simpa using h y r
def jY {α:Type}(k:α->Int)(x:α):Bool->List α->List α
 |d,[]=>bif d then [] else [x]
 |d,y::r=>(bif !d&&decide (k x<=k y) then [x] else [])++((bif k y != k x then [y] else [])++jY k x (d||decide (k x<=k y)) r)
theorem pR {α:Type}{k:α->Int}{x:α}:∀ {r:List α},(∀ y∈r,k x<k y)->jY k x true r=r
 |[],_=>rfl
 |y::r,h=>by
  have H:=h y (by simp);simp only[jY,B6,Cr,cond_false,DM,CC];rw[pR (λz u=>h z (by simp[u])),show (k y != k x)=true by simp;omega];rfl
theorem kZ {α:Type}{k:α->Int}{x:α}:∀ {xs:List α},Asc k xs->jY k x false xs=a7 k x xs
 |[],_=>rfl
 |y::r,h=>by
  have R:Asc k r:=(CE.1 h).2;have H:∀ z∈r,k y<k z:=(CE.1 h).1;simp only[jY,CR,Cj,DH];by_cases J:k x<=k y
  ·rw[decide_eq_true J,pR (λz u=>by have:=H z u;omega)];simp only[cond_true,a7,CI];have O:r.filter (λz=>decide (k z<k x))=[]:=by
    rw[CK];intro z u;have:=H z u;simp;omega
   have M:r.filter (λz=>decide (k x<k z))=r:=by
    rw[CG];intro z u;have:=H z u;simp;omega
   rw[O,M,if_neg (by simp;omega)];by_cases I:k y=k x
   ·rw[if_neg (by simp;omega),show (k y != k x)=false by simpa using I];rfl
   ·rw[if_pos (by simp;omega),show (k y != k x)=true by simpa using I];rfl
  ·rw[decide_eq_false J,kZ R,show (k y != k x)=true by simp;omega];simp only[cond_false,cond_true,a7,CI,CC];rw[if_pos (by simp;omega),if_neg (by simp;omega)];rfl
theorem sW {α A R:Type}(k:α->Int)(x:α)(t:List α)(q:α->Bool)(Y:Option R)(y:List α->Option R)(S:List α->Bool->Nat->A){step:(A->Option R)->A->Option R}
  (h:∀ (rec:A->Option R) (r:List α) (d:Bool) (i:Nat) (O:i<t.length),r.length<=i+1->(d=false->r.length<=i)->step rec (S r d i)=bif q t[i] then Y else rec (S ((r++(bif !d&&decide (k x<=k t[i]) then [x] else []))++(bif k t[i] != k x then [t[i]] else [])) (d||decide (k x<=k t[i])) (i+1)))
  (z:∀ (rec:A->Option R) (r:List α) (d:Bool),r.length<=t.length+1->(d=false->r.length<=t.length)->step rec (S r d t.length)=y (r++(bif d then [] else [x]))) :
  ∀ (n i K:Nat) (r:List α) (d:Bool),i+n=t.length->n<K->r.length<=i+1->(d=false->r.length<=i)->ae step K (S r d i)=bif (t.drop i).any q then Y else y (r++jY k x d (t.drop i)):=by
 intro n;induction n with
 |zero =>
  intro i K r d O Z J H;obtain⟨K,rfl⟩:∃ M,K=M+1:=⟨K-1,by omega⟩;have:i=t.length:=by omega
  subst this;show step (ae step K) _=_;rw[z _ _ _ J H,C9];rfl
 |succ n ih =>
  intro i K r d O Z J H;obtain⟨K,rfl⟩:∃ M,K=M+1:=⟨K-1,by omega⟩;have I:i<t.length:=by omega
  show step (ae step K) _=_;rw[h _ _ _ _ I J H,B8 I,List.any_cons];cases hq:q t[i] with
  |true=>rfl
  |false =>
   simp only[cond_false,DH,jY];rw[ih (i+1) K _ _ (by omega) (by omega) ?_ ?_]
   ·simp only[CZ]
   ·cases d with
    |true =>
     simp only[B6,Cr,cond_false,CA];cases k t[i] != k x <;> simp <;> omega
    |false =>
     have:=H rfl;cases X:decide (k x<=k t[i]) <;> cases k t[i] != k x <;> simp <;> omega
   ·intro u;rw[Bool.or_eq_false_iff]at u;obtain⟨rfl,X⟩:=u;have:=H rfl;rw[X];cases k t[i] != k x <;> simp <;> omega
theorem uq (K:Nat)(n:aa)(y:NB n)(u:1048577<K):∃ b,Q221.f K (n,())=rb b/\Q166.f K (n,())=rb b/\(b=true<->fg n):=by
 obtain⟨b,H,r⟩:=pe K n y u;obtain⟨I,J,z⟩:=pf K n y u;have:b=I:=by rw[Cz,r,z]
 subst this;exact⟨b,H,J,r⟩
theorem fg.up {n:aa}(h:fg n)(r:n.2.1=true):UpP n:=by
 have:=h.2.2.2.2.2
 rwa [if_pos r]at this
abbrev aj:=Int×Int×Int×Int×Int×Int×dA×List af
abbrev aj.table (w:aj):List af:=w.2.2.2.2.2.2.2
abbrev aj.coord (w:aj):dA:=w.2.2.2.2.2.2.1
def kI:List af->Prop
 |[]=>False
 |f::l=>ca (f::l) (ak f.1)
def dB (w:aj):Prop:=InP w.1 1 2/\InP w.2.1 1 6/\InP w.2.2.1 0 7/\InP w.2.2.2.1 0 7/\InP w.2.2.2.2.1 0 999999/\InP w.2.2.2.2.2.1 0 7/\cG (aj.coord w)/\aw (aj.table w) /\
 (if w.2.1=6 then kI (aj.table w) else ca (aj.table w) (ak w.2.2.1))
theorem mf (K:Nat)(w:aj)(u:(aj.table w).length<=1048576)(r:1048577<K):Ret (Q22.f K (w,())) (dB w):=by
 refine Ret.nx (cF K _ _ _) λ_=>Ret.nx (cF K _ _ _) λ_=>Ret.nx (cF K _ _ _) λ_=>Ret.nx (cF K _ _ _) λ_=>Ret.nx (cF K _ _ _) λ_=>Ret.nx (cF K _ _ _) λ_=>Ret.nx (iH K _) λ_=>Ret.nx (gy K _ u r) λ_=>?_
 dsimp only;by_cases h:w.2.1=6
 ·rw[show (w.2.1==6)=true by simpa using h,if_pos h];obtain⟨w1,w2,w3,w4,H,y,z,t⟩:=w;cases t with
  |nil=>exact Ret.no (λh=>h)
  |cons f l =>
   rw[show decide ((BW (f::l):Int)>0)=true from decide_eq_true (by simp only[B4];omega)];simp only[cond_true];exact Ret.vl (ag (xs:=f::l) (i:=0) (by simp)) (d4 K _ _ u r).id
 ·rw[show (w.2.1==6)=false by simpa using h,if_neg h];exact (d4 K _ _ u r).id
theorem sX (K:Nat)(w:aj)(u:(aj.table w).length<=1048576)(r:1048577<K):Ret (Q167.f K (w,())) (dB w):=by
 refine Ret.iff (Q:=dB w) (Ret.nx (eO K _ _ _) λ_=>Ret.nx (eO K _ _ _) λ_=>Ret.nx (jg K _) λ_=>Ret.nx (jg K _) λ_=>Ret.nx (jg K _) λ_=>Ret.nx (eO K _ _ _) λ_=>Ret.nx (nX K _) λ_=>Ret.nx (gz K _ u r)
  (Q:=if w.2.1=6 then kI (aj.table w) else ca (aj.table w) (ak w.2.2.1)) λ_=>?_) ?_
 ·dsimp only;by_cases h:w.2.1=6
  ·rw[show (w.2.1==6)=true by simpa using h,if_pos h];obtain⟨w1,w2,w3,w4,H,y,z,t⟩:=w;cases t with
   |nil=>exact Ret.no (λh=>h)
   |cons f l =>
    rw[show decide ((BW (f::l):Int)>0)=true from decide_eq_true (by simp only[B4];omega)];simp only[cond_true];exact Ret.vl (ag (xs:=f::l) (i:=0) (by simp)) (Ret.vl (lC K _) (fH K _ _ u r).id)
  ·rw[show (w.2.1==6)=false by simpa using h,if_neg h];simp only[cond_false];exact Ret.vl (lC K _) (fH K _ _ u r).id
 ·unfold dB;constructor
  ·rintro⟨h1,h2,h3,h4,h5,h6,h7,h8,h9⟩;exact⟨h1,h2,h3,h4,h6,h5,h7,h8,h9⟩
  ·rintro⟨h1,h2,h3,h4,h6,h5,h7,h8,h9⟩;exact⟨h1,h2,h3,h4,h5,h6,h7,h8,h9⟩
theorem iJ {α A R:Type}(xs:List α)(S:List α->Nat->A)(r:Option R){step:(A->Option R)->A->Option R}
  (h:∀ (rec:A->Option R) (u:List α) (i:Nat) (z:i<xs.length),u.length=i->step rec (S u i)=rec (S (u++[xs[i]]) (i+1))) (y:∀ rec:A->Option R,step rec (S xs xs.length)=r) {k:Nat} (H:xs.length<k):ae step k (S [] 0)=r:=by
 refine dS (step:=step) xs.length (λi=>S (xs.take i) i) r ?_ ?_ H
 ·intro rec i z;show step rec (S (xs.take i) i)=rec (S (xs.take (i+1)) (i+1));rw[h rec (xs.take i) i z (by simp;omega),Ch z]
 ·intro rec;show step rec (S (xs.take xs.length) xs.length)=r;rw[Ck];exact y rec
theorem szb (a b c:Nat)(r:c<=64)(h:a+b<=2097152):decide ((a+b)*c<=an)=true:=by
 have:=C3 h r;exact decide_eq_true (by unfold an;omega)
theorem mZ (K:Nat)(n:aa)(u:NB n)(O:1048577<K):Q109.f K (n,())=some ((n,()),()):=by
 have M:=u.table;have R:=u.cast;have J:=u.doubts;have H:=u.places;have I:=u.others;simp only[Q109.f,Q109.pre];rw[szb _ _ _ (by omega) (by show (BW ([]:List af))+(aa.table n).length<=_;simp;omega),szb _ _ _ (by omega) (by show (BW ([]:List aL))+(aa.cast n).length<=_;simp;omega)];simp only[cond_true];refine iJ (aa.doubts n) (step:=λrec a=>Q109.s0 K (n,()) (Q109.l1 K (n,())) rec a) (λr i=>((i:Int),r)) _ ?_ ?_ (by omega)
 ·intro rec r i y z;have:=u.by_ _ (BX y);simp only[Q109.s0];rw[bj (by omega:(i:Int)<(BW (aa.doubts n):Int)),ag y,ar i (by omega)];simp only[cond_true,BV];rw[szb _ _ _ (by omega) (by simp;omega),szb _ _ _ (by omega) (by simp;omega)];rfl
 ·intro rec;simp only[Q109.s0,aP,cond_false];refine iJ (aa.places n) (step:=λrec a=>Q109.s1 K (n,()) (Q109.l2 K (n,())) rec a) (λr i=>((i:Int),aa.doubts n,r)) _ ?_ ?_ (by omega)
  ·intro rec r i y z;have:=u.trips _ (BX y);simp only[Q109.s1];rw[bj (by omega:(i:Int)<(BW (aa.places n):Int)),ag y,ar i (by omega)];simp only[cond_true,BV];rw[szb _ _ _ (by omega) (by simp;omega),szb _ _ _ (by omega) (by simp;omega)];rfl
  ·intro rec;simp only[Q109.s1,aP,cond_false];refine iJ (aa.others n) (step:=λrec a=>Q109.s2 K (n,()) rec a) (λr i=>((i:Int),aa.doubts n,aa.places n,r)) _ ?_ ?_ (by omega)
   ·intro rec r i y z;have:=u.facts _ (BX y);simp only[Q109.s2,zcp8];rw[bj (by omega:(i:Int)<(BW (aa.others n):Int)),ag y,ar i (by omega)];simp only[cond_true,BV];rw[szb _ _ _ (by omega) (by simp;omega),szb _ _ _ (by omega) (by simp;omega)];rfl
   ·intro rec;simp only[Q109.s2,zcp8,aP,cond_false];rfl
theorem yP (K:Nat)(n:aa)(u:NB n)(O:1048577<K):Q210.f K (n,())=some ((n,()),()):=by
 have M:=u.table;have R:=u.cast;have J:=u.doubts;have H:=u.places;have I:=u.others;simp only[Q210.f,Q210.pre];refine iJ (aa.doubts n) (step:=λrec a=>Q210.s0 K (n,()) (Q210.l1 K (n,())) rec a) (λr i=>(r,(i:Int))) _ ?_ ?_ (by omega)
 ·intro rec r i y z;have:=u.by_ _ (BX y);simp only[Q210.s0,Q9.f];rw[bj (by omega:(i:Int)<(BW (aa.doubts n):Int)),ag y,ar i (by omega)];simp only[cond_true,BV];rw[d5 (by omega)];simp only[BV];rw[szb _ _ _ (by omega) (by simp;omega)];rfl
 ·intro rec;simp only[Q210.s0,aP,cond_false];refine iJ (aa.places n) (step:=λrec a=>Q210.s1 K (n,()) (Q210.l2 K (n,())) rec a) (λr i=>(aa.doubts n,r,(i:Int))) _ ?_ ?_ (by omega)
  ·intro rec r i y z;have:=u.trips _ (BX y);simp only[Q210.s1,Q9.f];rw[bj (by omega:(i:Int)<(BW (aa.places n):Int)),ag y,ar i (by omega)];simp only[cond_true,BV];rw[d5 (by omega)];simp only[BV];rw[szb _ _ _ (by omega) (by simp;omega)];rfl
  ·intro rec;simp only[Q210.s1,aP,cond_false];refine iJ (aa.others n) (step:=λrec a=>Q210.s2 K (n,()) rec a) (λr i=>(aa.doubts n,aa.places n,r,(i:Int))) _ ?_ ?_ (by omega)
   ·intro rec r i y z;have:=u.facts _ (BX y);simp only[Q210.s2,zcp8,Q1.f];rw[bj (by omega:(i:Int)<(BW (aa.others n):Int)),ag y,ar i (by omega)];simp only[cond_true,BV];rw[d5 (by omega)];simp only[BV];rw[szb _ _ _ (by omega) (by simp;omega)];rfl
   ·intro rec;simp only[Q210.s2,zcp8,aP,cond_false,Q1.f,Q3.f];rw[d5 (by show (aa.table n).length*_<=_;omega),d5 (by show (aa.cast n).length*_<=_;omega)];rfl
instance (f g:af):Decidable (bD f g):=by unfold bD;infer_instance
theorem pS (K:Nat)(f g:af):Q26.f K (f,g,())=rb (decide (bD f g)):=by
 obtain⟨b,u,r⟩:=sU K f g;rw[u,show b=decide (bD f g) by rw[Cz,r];simp]
def bg (t:List af)(f:af):List af×Bool :=
 match t.find? (λg=>g.1==f.1) with
 |some g=>if bD f g then (a7 (λg=>g.1) f t,true) else (t,false)
 |none=>(a7 (λg=>g.1) f t,true)
theorem ir {t:List af}{f:af}(u:Asc (λg:af=>g.1) t){i:Nat}(r:i<t.length)(e:t[i].1=f.1):bg t f=if bD f t[i] then (a7 (λg=>g.1) f t,true) else (t,false):=by
 unfold bg;rw[show t.find? (λg=>g.1==f.1)=some t[i] from md u r e]
theorem fJ {t:List af}{f:af}(h:∀ g∈t,g.1≠f.1):bg t f=(a7 (λg=>g.1) f t,true):=by
 unfold bg;rw[show t.find? (λg=>g.1==f.1)=none from nY h]
theorem jC {e:Ty}{b:Nat}{xs:List e.den}{m:Nat}{v:e.den}(u:m<=xs.length)(r:b<=64)(y:xs.length<=1048576):fU e b xs (m:Int) [v]=some ((xs.take m++[v]++xs.drop m,()),()):=by
 unfold fU;have:(xs.length+[v].length)*b<=140737488355328:=CP (C3 (show xs.length+[v].length<=1048577 by simp;omega) r) (by decide);rw[if_pos ⟨by omega,by omega,by simp,by simpa only[an]using this⟩,B3]
theorem rm {e:Ty}{xs:List e.den}{u:e.den×Unit->Option Bool}(p:e.den->Bool)(z:xs.length<=1048576)(h:∀ x∈xs,u (x,())=some (p x)):gO e xs u=some ((xs.filter (λx=>!p x),()),()):=by
 have:∀ r:List e.den,(∀ x∈r,u (x,())=some (p x))->lZ u r=some (r.filter (λx=>!p x)):=by
  intro r;induction r with
  |nil=>intro _;rfl
  |cons y r H =>
   intro h;simp only[lZ,h y (by simp),BV,H (λx z=>h x (by simp[z])),De,CI];cases p y <;> rfl
 unfold gO;rw[if_pos z,this xs h];rfl
theorem put_s (K:Nat)(t:List af)(f:af)(ht:t.length<=1048576)(R:Asc (λg:af=>g.1) t)(hK:1048577<K):Q27.f K (t,f,())=some (((bg t f).1,(bg t f).2,()),()):=by
 simp only[Q27.f,Q27.pre];obtain⟨o,H,M⟩:=fq K t f.1 ht hK;rw[M];simp only[BV];cases H with
 |at_ i r e =>
  simp only;rw[ir R r e,decide_eq_true (by omega:((i:Nat):Int)>=0),ag r];simp only[cond_true,BV];rw[show Q26.f K (f,t[i],())=_ from pS K f t[i]];simp only[BV];by_cases H:bD f t[i]
  ·rw[decide_eq_true H,if_pos H];simp only[B6,cond_false];rw[szb _ _ _ (by omega) (by show (BW ([]:List af))+t.length<=_;simp;omega)];simp only[cond_true,CC,ag r,BV,B3];rw[iq (k:=λg:af=>g.1) R r e]
  ·rw[decide_eq_false H,if_neg H];rfl
 |no h =>
  simp only;rw[fJ h,decide_eq_false (by omega:¬ (-1:Int)>=0)];simp only[cond_false];have I:∀ m:Nat,m<=t.length->(bif decide ((0:Int)<=0)&&decide ((0:Int)<=(m:Int))&&decide ((m:Int)<=(BW t:Int))&&true then (bif decide ((BW ([]:List af)+BW ((t.take (BY (m:Int))).drop (BY 0)))*32<=an) then (bif decide ((BW ([]++((t.take (BY (m:Int))).drop (BY 0)))+BW ([f]))*32<=an) then (bif decide ((0:Int)<=(m:Int))&&decide ((m:Int)<=(BW t:Int))&&decide ((BW t:Int)<=(BW t:Int))&&true then (bif decide ((BW (([]++((t.take (BY (m:Int))).drop (BY 0)))++([f]))+BW ((t.take (BY (BW t:Int))).drop (BY (m:Int))))*32<=an) then (some (((([]++((t.take (BY (m:Int))).drop (BY 0)))++([f]))++((t.take (BY (BW t:Int))).drop (BY (m:Int))),true,()),())) else none) else none) else none) else none) else (none:Option ((List af×Bool×Unit)×Unit)))=some ((t.take m++[f]++t.drop m,true,()),()):=by
   intro m X;rw[decide_eq_true (by omega:(0:Int)<=0),decide_eq_true (by omega:(0:Int)<=(m:Int)),decide_eq_true (by omega:(m:Int)<=(BW t:Int)),decide_eq_true (by omega:(BW t:Int)<=(BW t:Int))];simp only[B3,Cq,CN,CC,Ck,Cm,cond_true];have M:(t.take m).length=m:=by rw[CJ];omega
   have z:(t.drop m).length=t.length-m:=CT;rw[szb _ _ _ (by omega) (by simp only[B9];omega),szb _ _ _ (by omega) (by simp only[B4,B9];omega),szb _ _ _ (by omega) (by simp only[CD,B4,B9];omega)];rfl
  have:=cq (step:=λrec a=>Q27.s0 K (t,f,()) rec a) t.length (λi=>(i:Int)) (λj=>∃ h:j<t.length,¬ t[j].1<f.1) (some ((t.take t.length++[f]++t.drop t.length,true,()),())) (λj=>some ((t.take j++[f]++t.drop j,true,()),())) ?_ ?_ t.length K 0 (by omega) (by omega)
  ·have J:∀ m,m<=t.length->(∀ i,(r:i<t.length)->i<m->t[i].1<f.1)->(∀ i,(r:i<t.length)->m<=i->f.1<t[i].1)->t.take m++[f]++t.drop m=a7 (λg=>g.1) f t:=λm X Y r=>gB (k:=λg:af=>g.1) X Y r
   rcases this with ⟨M,z⟩|⟨j,_,M,⟨Z,h4⟩,h5,z⟩
   ·rw[J t.length (CF _) (λi r _=>by
     have:=M i (CL _) r;exact Cp.1 λh=>this ⟨r,h⟩) (λi r h=>by omega)]at z
    exact z
   ·rw[J j (by omega) (λi r y=>by
     have:=h5 i (CL _) y;exact Cp.1 λh=>this ⟨r,h⟩) (λi r y=>by
     have a0:=h t[i] (BX r);rcases Cd y with O|O
     ·have:=ci.1 R j i Z r O;omega
     ·subst O;omega)]at z
    exact z
  ·intro rec i r;simp only[Q27.s0];rw[bj (by omega:(i:Int)<(BW t:Int)),ag r,ar i (by omega)];simp only[cond_true,BV];by_cases u:t[i].1<f.1
   ·exact .inl ⟨λ⟨_,h⟩=>h u,by rw[decide_eq_true u];rfl⟩
   ·exact .inr ⟨⟨r,u⟩,by rw[decide_eq_false u];exact I i (by omega)⟩
  ·intro rec;simp only[Q27.s0,aP,cond_false];exact I t.length (CF _)
theorem vR (K:Nat)(t:List af)(f:af)(R:t.length<=1048576)(H:Asc (λg:af=>g.1) t)(X:1048577<K):Q170.f K (t,f,())=some (((bg t f).1,(bg t f).2,()),()):=by
 simp only[Q170.f,Q1.f,Q2.f];rw[d5 (by omega)];simp only[BV];obtain⟨m,r,Z⟩:=sS K t f.1 R H X;rw[Z];simp only[BV];by_cases O:∃ h:m<t.length,t[m].1=f.1
 ·obtain⟨I,z⟩:=O;rw[decide_eq_true ⟨I,z⟩,ir H I z];simp only[B6,cond_false,ag I,BV,B3];rw[mW K f t[m] X];simp only[BV];by_cases M:bD f t[m]
  ·rw[decide_eq_true ((jB z.symm).2 M),if_pos M,iq (k:=λg:af=>g.1) H I z];rfl
  ·rw[decide_eq_false (λh=>M ((jB z.symm).1 h)),if_neg M];rfl
 ·rw[decide_eq_false O,fJ (λg Y e=>by
   obtain⟨i,u,rfl⟩:=B7 Y;rcases DE i m with h|h|h
   ·have:=r.lo i u h;omega
   ·subst h;exact O ⟨u,e⟩
   ·have h5:=r.hi m (by omega) (CF _);have J:=ci.1 H m i (by omega) u h;omega)]
  simp only[CR,cond_true];rw[jC r.le (by omega) R];simp only[BV];rw[gB (k:=λg:af=>g.1) r.le r.lo (λi u y=>by
   have:=r.hi i u y;rcases Cd y with J|J
   ·have h5:=r.hi m (by omega) (CF _);have h7:=ci.1 H m i (by omega) u J;omega
   ·subst J;have:t[m].1≠f.1:=λe=>O ⟨u,e⟩
    omega)]
def dr (l:List aL)(f:af):List aL:=if ∃ x∈l,x.1.1=f.1/\¬ bD f x.1 then l else a7 (λx=>x.1.1) (f,4) l
theorem ur {l:List aL}{f:af}:dr l f=bif l.any (λx=>x.1.1==f.1&&!decide (bD f x.1)) then l else a7 (λx=>x.1.1) (f,4) l:=by
 unfold dr;have:(∃ x∈l,x.1.1=f.1/\¬ bD f x.1)<->l.any (λx=>x.1.1==f.1&&!decide (bD f x.1))=true:=by
  rw[List.any_eq_true];simp
 by_cases h:∃ x∈l,x.1.1=f.1/\¬ bD f x.1
 ·rw[if_pos h,this.1 h];rfl
 ·rw[if_neg h,show l.any (λx=>x.1.1==f.1&&!decide (bD f x.1))=false by rw[Bool.eq_false_iff];exact λr=>h (this.2 r)];rfl
theorem Ag (K:Nat)(l:List aL)(f:af)(X:l.length<=1048576)(O:Asc (λx:aL=>x.1.1) l)(Y:1048577<K):Q28.f K (l,f,())=some ((dr l f,()),()):=by
 have:=sW (step:=λrec a=>Q28.s0 K (l,f,()) rec a) (λx:aL=>x.1.1) (f,4) l (λx=>x.1.1==f.1&&!decide (bD f x.1)) (some ((l,()),())) (λR=>some ((R,()),())) (λr d i=>(r,d,(i:Int))) ?_ ?_ l.length 0 K [] false (by omega) (by omega) (by simp) (by simp)
 ·refine DJ (this:Q28.f K (l,f,())=_) ?_;rw[CN,ur,kZ O];cases l.any (λx=>x.1.1==f.1&&!decide (bD f x.1)) <;> rfl
 ·intro rec r d i I J z;simp only[Q28.s0];rw[bj (by omega:(i:Int)<(BW l:Int)),ag I,ar i (by omega)];simp only[cond_true,BV];have u:decide ((r.length+[((f,4):af×Nat)].length)*40<=an)=true:=szb _ _ _ (by omega) (by simp;omega);have M:decide (((r++[((f,4):aL)]).length+[l[i]].length)*40<=an)=true:=szb _ _ _ (by omega) (by simp;omega);have H:decide ((r.length+[l[i]].length)*40<=an)=true:=szb _ _ _ (by omega) (by simp;omega);by_cases y:l[i].1.1=f.1
  ·rw[show (l[i].1.1==f.1)=true by simpa using y,show (l[i].1.1 != f.1)=false by simpa using y,show decide (f.1<=l[i].1.1)=true from decide_eq_true (by omega)];simp only[cond_true,cond_false,Cj,DI,Dj,CA];rw[show Q26.f K (f,l[i].1,())=_ from pS K f l[i].1];simp only[BV];cases decide (bD f l[i].1) with
   |false=>rfl
   |true =>
    simp only[B6,cond_false];cases d with
    |true=>simp only[B6,cond_false,CA]
    |false =>
     simp only[CR,cond_true];rw[u];rfl
  ·rw[show (l[i].1.1==f.1)=false by simpa using y,show (l[i].1.1 != f.1)=true by simpa using y];simp only[cond_true,cond_false,Cr];cases d with
   |true =>
    simp only[B6,cond_false,Cr,CA,DM];rw[H];rfl
   |false =>
    simp only[CR,cond_true,Cj,DH];cases decide (f.1<=l[i].1.1) with
    |true =>
     simp only[cond_true];rw[u];simp only[cond_true];rw[M];rfl
    |false =>
     simp only[cond_false,CA];rw[H];rfl
 ·intro rec r d J z;simp only[Q28.s0,aP];cases d with
  |true=>simp only[B6,cond_false,cond_true,CA]
  |false =>
   have:=z rfl;have u:decide ((r.length+[((f,4):af×Nat)].length)*40<=an)=true:=szb _ _ _ (by omega) (by simp;omega);simp only[CR,cond_true,cond_false];rw[u];rfl
theorem xu (K:Nat)(l:List aL)(f:af)(Y:l.length<=1048576)(R:cQ l)(hf:aV f)(hK:1048577<K):Q172.f K (l,f,())=some ((dr l f,()),()):=by
 simp only[Q172.f,Q3.f,Q4.f];obtain⟨b1,e1,e2⟩:=pc K l Y hK;have a1:=e2.2 R;subst a1;obtain⟨b2,e3,e4⟩:=mb K f;have a3:=e4.2 hf;subst a3;rw[e1];simp only[BV,B6,cond_false];rw[e3];simp only[BV,B6,cond_false];rw[d5 (by omega)];simp only[BV];rw[uY K l Y hK];simp only[BV];have hA:Asc (λg:af=>g.1) (l.map (·.1)):=by
  have:=R.2;unfold Asc at this ⊢;rw[CQ];exact this
 have r:(l.map (·.1)).length=l.length:=CH _;obtain⟨m,hm,h1⟩:=sS K (l.map (·.1)) f.1 (by rw[r];exact Y) hA hK;rw[h1];simp only[BV];have y:∀ i (h:i<l.length),(l.map (·.1))[i]'(by rw[r];exact h)=l[i].1:=λi h=>List.getElem_map _
 have M:=hm.le;rw[r]at M;have lo:∀ i,(u:i<l.length)->i<m->l[i].1.1<f.1:=λi u I=>by have:=hm.lo i (by rw[r];exact u) I;rwa [y i u]at this
 have X:∀ i,(u:i<l.length)->m<=i->f.1<=l[i].1.1:=λi u I=>by have:=hm.hi i (by rw[r];exact u) I;rwa [y i u]at this
 by_cases he:∃ h:m<l.length,l[m].1.1=f.1
 ·obtain⟨z,H⟩:=he;rw[decide_eq_true ⟨by rw[r];exact z,by rw[y m z];exact H⟩];simp only[B6,cond_false,ag z,BV,B3];rw[show Q152.f K (f,l[m].1,())=_ from mW K f l[m].1 hK];simp only[BV];have a2:∀ x∈l,x.1.1=f.1->x=l[m]:=λx J e=>by
   obtain⟨i,u,rfl⟩:=B7 J;have:=o9 R.2 u z (by show l[i].1.1=l[m].1.1;rw[e,H]);subst this;rfl
  by_cases Z:bD f l[m].1
  ·rw[decide_eq_true ((jB H.symm).2 Z),dr,if_neg (λ⟨x,J,e,hn⟩=>hn (by rw[a2 x J e];exact Z)),iq (k:=λx:aL=>x.1.1) (x:=(f,4)) R.2 z H];rfl
  ·rw[decide_eq_false (λh=>Z ((jB H.symm).1 h)),dr,if_pos ⟨l[m],BX z,H,Z⟩];rfl
 ·have O:∀ x∈l,x.1.1≠f.1:=λx J e=>by
   obtain⟨i,u,rfl⟩:=B7 J;rcases DE i m with h|h|h
   ·have:=lo i u h;omega
   ·subst h;exact he ⟨u,e⟩
   ·have h5:=X m (by omega) (CF _);have h6:l[m].1.1<l[i].1.1:=ci.1 R.2 m i (by omega) u h;omega
  rw[decide_eq_false (λ⟨z,H⟩=>he ⟨by rw[r]at z;exact z,by rw[y m (by rw[r]at z;exact z)]at H;exact H⟩),dr,if_neg (λ⟨x,J,e,_⟩=>O x J e)];simp only[CR,cond_true];rw[jC M (by omega) Y];simp only[BV];rw[gB (k:=λx:aL=>x.1.1) (x:=(f,4)) M lo (λi u a0=>by
   have h1:=X i u a0;have z:=O l[i] (BX u);show f.1<l[i].1.1;omega)]
theorem oy {α:Type}{k:α->Int}{x:α}:∀ {r:List α},jY k x true r=r.filter (λy=>k y != k x)
 |[]=>rfl
 |y::r=>by
  simp only[jY,B6,Cr,cond_false,DM,CC,CI];rw[oy];cases k y != k x <;> rfl
theorem ut {α:Type}{k:α->Int}{x:α}{xs:List α}:a7 k x (xs.filter λy=>!(k y==k x))=a7 k x xs:=by
 simp only[a7,List.filter_filter];congr 1
 ·refine DF λy _=>?_
  by_cases h:k y<k x
  ·rw[decide_eq_true h];simp;omega
  ·rw[decide_eq_false h];rfl
 ·congr 1;refine DF λy _=>?_
  by_cases h:k x<k y
  ·rw[decide_eq_true h];simp;omega
  ·rw[decide_eq_false h];rfl
def mkD (r:Int)(f:af)(b:Int):bQ:=(f.1,f.2.1,r,[b])
def cN (r:Int)(ds:List bQ)(f:af)(b:Int):List bQ:=if f.2.2.1=2 then a7 (λd=>d.1) (mkD r f b) ds else ds.filter (λd=>!(d.1==f.1))
theorem Ah (K:Nat)(n:aa)(f:af)(b:Int)(X:(aa.doubts n).length<=1048576)(O:Asc (λd:bQ=>d.1) (aa.doubts n))(Y:1048577<K) :
  Q29.f K (n,f,b,())=some ((cN n.2.2.2.2.2.1 (aa.doubts n) f b,()),()):=by
 have:=sW (step:=λrec a=>Q29.s0 K (n,f,b,()) rec a) (λd:bQ=>d.1) (mkD n.2.2.2.2.2.1 f b) (aa.doubts n) (λ_=>false) none (λR=>some ((R,()),())) (λr d i=>(r,d,(i:Int))) ?_ ?_ (aa.doubts n).length 0 K [] (f.2.2.1 != 2) (by omega) (by omega) (by simp) (by simp)
 ·refine DJ (this:Q29.f K (n,f,b,())=_) ?_;rw[CN,show (aa.doubts n).any (λ_=>false)=false by simp,cN];by_cases u:f.2.2.1=2
  ·rw[if_pos u,show (f.2.2.1 != 2)=false by simpa using u,kZ O];rfl
  ·rw[if_neg u,show (f.2.2.1 != 2)=true by simpa using u,oy];rfl
 ·intro rec r d i H I z;simp only[Q29.s0];rw[bj (by omega:(i:Int)<(BW (aa.doubts n):Int)),ag H,ar i (by omega)];simp only[cond_true,cond_false,BV];have y:decide ((r.length+[mkD n.2.2.2.2.2.1 f b].length)*48<=an)=true:=szb _ _ _ (by omega) (by simp;omega);have J:decide (((r++[mkD n.2.2.2.2.2.1 f b]).length+[(aa.doubts n)[i]].length)*48<=an)=true:=szb _ _ _ (by omega) (by simp;omega);have M:decide ((r.length+[(aa.doubts n)[i]].length)*48<=an)=true:=szb _ _ _ (by omega) (by simp;omega);show (bif !d then (bif decide (f.1<=(aa.doubts n)[i].1) then (bif decide ((r.length+[mkD n.2.2.2.2.2.1 f b].length)*48<=an) then (bif (aa.doubts n)[i].1 != f.1 then (bif decide (((r++[mkD n.2.2.2.2.2.1 f b]).length+[(aa.doubts n)[i]].length)*48<=an) then (rec ((r++[mkD n.2.2.2.2.2.1 f b])++[(aa.doubts n)[i]],true,((i+1:Nat):Int))) else none) else (rec (r++[mkD n.2.2.2.2.2.1 f b],true,((i+1:Nat):Int)))) else none) else (bif (aa.doubts n)[i].1 != f.1 then (bif decide ((r.length+[(aa.doubts n)[i]].length)*48<=an) then (rec (r++[(aa.doubts n)[i]],d,((i+1:Nat):Int))) else none) else (rec (r,d,((i+1:Nat):Int))))) else (bif (aa.doubts n)[i].1 != f.1 then (bif decide ((r.length+[(aa.doubts n)[i]].length)*48<=an) then (rec (r++[(aa.doubts n)[i]],d,((i+1:Nat):Int))) else none) else (rec (r,d,((i+1:Nat):Int)))))=rec ((r++(bif !d&&decide (f.1<=(aa.doubts n)[i].1) then [mkD n.2.2.2.2.2.1 f b] else []))++(bif (aa.doubts n)[i].1 != f.1 then [(aa.doubts n)[i]] else []),d||decide (f.1<=(aa.doubts n)[i].1),((i+1:Nat):Int));rw[y,J,M];cases d <;> cases decide (f.1<=(aa.doubts n)[i].1) <;> cases (aa.doubts n)[i].1 != f.1 <;> simp only[B6,CR,Cj,Cr,DM,DH,cond_true,cond_false,CA]
 ·intro rec r d I z;simp only[Q29.s0,aP];cases d with
  |true=>simp only[B6,cond_false,cond_true,CA]
  |false =>
   have:=z rfl;have y:decide ((r.length+[mkD n.2.2.2.2.2.1 f b].length)*48<=an)=true:=szb _ _ _ (by omega) (by simp;omega);show (bif decide ((r.length+[mkD n.2.2.2.2.2.1 f b].length)*48<=an) then some ((r++[mkD n.2.2.2.2.2.1 f b],()),()) else none)=some ((r++[mkD n.2.2.2.2.2.1 f b],()),());rw[y];rfl
theorem Ai (K:Nat)(t:List bQ)(r:Int)(ht:t.length<=1048576)(J:Asc (λd:bQ=>d.1) t)(h7:∀ d∈t,InP d.1 0 7)(Y:InP r 0 7)(hK:1048577<K) :
  ∃ m,m<=t.length/\(∀ i,(h:i<t.length)->i<m->t[i].1<r)/\(∀ i,(h:i<t.length)->m<=i->r<=t[i].1)/\∃ b,Q175.f K (t,r,(λI=>(Q176.f K (I.1,I.2.1,())).map λy=>y.1.1),())=some ((((m:Nat):Int),b,()),()):=by
 let ks:Nat->Int:=λi=>if h:i<t.length then t[i].1 else 0
 have u:∀ i (h:i<t.length),ks i=t[i].1:=λi h=>by simp[ks,h]
 let z:Nat->Option ((Int×Bool×Unit)×Unit):=λm=>some ((((m:Nat):Int),decide (∃ h:m<t.length,t[m].1=r),()),())
 have X:∀ d∈t,((Q176.f K (d,r,())).map λy=>y.1.1)=some (d.1-r):=λd hd=>by
  obtain⟨a1,a2⟩:=h7 d hd;obtain⟨a3,a4⟩:=Y;simp only[Q176.f];rw[aJ (by omega) (by omega)];rfl
 have:=pO (step:=λrec a=>Q175.s0 K (t,r,(λI=>(Q176.f K (I.1,I.2.1,())).map λy=>y.1.1),()) rec a) (ks:=ks) (n:=t.length) (t:=r) z ht
  (λi j O R=>by
   rw[u i (by omega),u j R];exact ci.1 J i j (by omega) R O) ?_ ?_ t.length K 0 t.length (by omega) (CL _) (CF _) (by omega) (λi H=>by omega) (λi H Y=>by omega)
 ·obtain⟨m,h1,Z,h3,h4⟩:=this;exact⟨m,h1,λi h H=>by rw[<- u i h];exact Z i H,λi h H=>by rw[<- u i h];exact h3 i H h,_,h4⟩
 ·intro rec a b a0 hb;have M:(a+b) / 2<t.length:=by omega
  simp only[Q175.s0];rw[decide_eq_true (by omega:(a:Int)<(b:Int)),nV (by omega)];simp only[cond_true];rw[ag M];simp only[BV,X _ (BX M)];rw[u _ M,ar _ (by omega)];by_cases h:t[(a+b) / 2].1<r
  ·rw[if_pos h,decide_eq_true (by omega:t[(a+b) / 2].1-r<0)];rfl
  ·rw[if_neg h,decide_eq_false (by omega:¬ t[(a+b) / 2].1-r<0)];rfl
 ·intro rec a ha;simp only[Q175.s0];rw[decide_eq_false (by omega)];simp only[cond_false];by_cases h:a<t.length
  ·rw[decide_eq_true (by omega:(a:Int)<(BW t:Int)),ag h];simp only[cond_true,BV,X _ (BX h)];have:(t[a].1-r==0)=decide (∃ h:a<t.length,t[a].1=r):=by
    rw[Cz];simp only[beq_iff_eq,decide_eq_true_eq];exact⟨λe=>⟨h,by omega⟩,λ⟨_,e⟩=>by omega⟩
   rw[this]
  ·rw[decide_eq_false (by omega:¬ (a:Int)<(BW t:Int))];simp only[cond_false,z];rw[decide_eq_false (λ⟨h',_⟩=>h h')]
def f9 (n:aa)(t:List af)(c:List aL)(ds:List bQ):aa :=
 (n.1,n.2.1,n.2.2.1,n.2.2.2.1,n.2.2.2.2.1,n.2.2.2.2.2.1,n.2.2.2.2.2.2.1,n.2.2.2.2.2.2.2.1,t,c,n.2.2.2.2.2.2.2.2.2.2.1,ds,n.2.2.2.2.2.2.2.2.2.2.2.2)
def jZ (n:aa)(f:af):Bool:=decide (∃ g∈aa.table n,g.1=f.1/\g.2.1=f.2.1/\g.2.2.1=f.2.2.1)
def sayOf (n:aa)(f:af)(b:Int):aa :=
 bif (bg (aa.table n) f).2 then f9 n (bg (aa.table n) f).1 (dr (aa.cast n) f) (bif jZ n f then aa.doubts n else cN n.2.2.2.2.2.1 (aa.doubts n) f b) else n
structure cr (n:aa):Prop where
 table:aw (aa.table n)
 cast:cQ (aa.cast n)
 asc:Asc (λd:bQ=>d.1) (aa.doubts n)
 inp:∀ d∈aa.doubts n,InP d.1 0 7
 lt:(aa.table n).length<=1048576
 lc:(aa.cast n).length<=1048576
 ld:(aa.doubts n).length<=1048576
theorem sY {n:aa}{f g:af}(u:Asc (λg:af=>g.1) (aa.table n))(r:g∈aa.table n)(e:g.1=f.1):jZ n f=(g.2.1==f.2.1&&g.2.2.1==f.2.2.1):=by
 rw[Cz,jZ,decide_eq_true_eq,Cc,beq_iff_eq,beq_iff_eq];constructor
 ·rintro⟨x,hx,h1,h2,h3⟩;have:=fb u hx r (by rw[h1,e]);subst this;exact⟨h2,h3⟩
 ·rintro⟨h1,h2⟩;exact⟨g,r,e,h1,h2⟩
theorem sZ {n:aa}{f:af}(h:∀ g∈aa.table n,g.1≠f.1):jZ n f=false :=
 decide_eq_false λ⟨g,r,e,_⟩=>h g r e
theorem pT (K:Nat)(n:aa)(f:af)(b:Int)(h:cr n)(r:1048577<K):Q90.f K (n,f,b,())=some ((sayOf n f b,()),()):=by
 simp only[Q90.f,zcp8];rw[show Q27.f K (n.2.2.2.2.2.2.2.2.1,f,())=_ from put_s K (aa.table n) f h.lt h.table.2 r];simp only[BV];cases I:(bg (aa.table n) f).2 with
 |false =>
  simp only[sayOf,I];rfl
 |true =>
  simp only[sayOf,I,B6,cond_false,cond_true];obtain⟨o,J,M⟩:=fq K (aa.table n) f.1 h.lt r;rw[show Q25.f K (n.2.2.2.2.2.2.2.2.1,f.1,())=_ from M];simp only[BV];have y:=Ah K (n.1,n.2.1,n.2.2.1,n.2.2.2.1,n.2.2.2.2.1,n.2.2.2.2.2.1,n.2.2.2.2.2.2.1,n.2.2.2.2.2.2.2.1,(bg (aa.table n) f).1,dr (aa.cast n) f,n.2.2.2.2.2.2.2.2.2.2) f b h.ld h.asc r;have H:=Ag K (aa.cast n) f h.lc h.cast.2 r;cases J with
  |at_ i z e =>
   simp only;rw[sY h.table.2 (BX z) e,decide_eq_true (by omega:((i:Nat):Int)>=0)];simp only[cond_true];rw[show idx n.2.2.2.2.2.2.2.2.1 (i:Int)=some (aa.table n)[i] from ag z];simp only[BV];rw[show Q28.f K (n.2.2.2.2.2.2.2.2.2.1,f,())=_ from H];simp only[BV];rw[y];cases (aa.table n)[i].2.1==f.2.1 with
   |true =>
    cases (aa.table n)[i].2.2.1==f.2.2.1 <;> rfl
   |false=>rfl
  |no u =>
   simp only;rw[sZ u,decide_eq_false (by omega:¬ (-1:Int)>=0)];simp only[cond_false];rw[show Q28.f K (n.2.2.2.2.2.2.2.2.2.1,f,())=_ from H];simp only[BV];rw[y];rfl
theorem mg {α:Type}{k:α->Int}{xs:List α}(h:Asc k xs)(p:α->Bool):Asc k (xs.filter p):=Cs p h
theorem Aj {R:Type}(K:Nat)(r:Int)(ds:List bQ)(f:af)(b:Int)(G:List bQ->Option R)(O:ds.length<=1048576)(hA:Asc (λd:bQ=>d.1) ds)(h7:∀ d∈ds,InP d.1 0 7)(hf:aV f)(hK:1048577<K) :
  ((Q5.f K (ds,(λJ=>(Q174.f K (J.1,f,())).map λy=>y.1.1),())).bind λI=>bif f.2.2.1==2 then ((Q175.f K (I.1.1,f.1,(λX=>(Q176.f K (X.1,X.2.1,())).map λy=>y.1.1),())).bind λy7=>(Q6.f K (I.1.1,y7.1.1,[mkD r f b],())).bind λy8=>G y8.1.1) else G I.1.1)=G (cN r ds f b):=by
 rw[show Q5.f K (ds,(λJ=>(Q174.f K (J.1,f,())).map λy=>y.1.1),())=some ((ds.filter (λd=>!(d.1==f.1)),()),()) by
  simp only[Q5.f];exact rm _ O (λd _=>rfl)]
 simp only[BV,cN];by_cases z:f.2.2.1=2
 ·rw[if_pos z,show (f.2.2.1==2)=true by simpa using z];simp only[cond_true];have u:(ds.filter (λd=>!(d.1==f.1))).length<=1048576:=CP (Ce _ _) O;obtain⟨m,M,Y,hi,b',e⟩:=Ai K (ds.filter (λd=>!(d.1==f.1))) f.1 u (mg hA _) (λd hd=>h7 d (B5.1 hd).1) hf.1 hK;rw[e];simp only[BV];rw[show Q6.f K (ds.filter (λd=>!(d.1==f.1)),(m:Int),[mkD r f b],())=some (((ds.filter (λd=>!(d.1==f.1))).take m++[mkD r f b]++(ds.filter (λd=>!(d.1==f.1))).drop m,()),()) by
   simp only[Q6.f];exact jC M (by omega) u]
  simp only[BV];have:=gB (k:=λd:bQ=>d.1) (x:=mkD r f b) M Y (λi h H=>by
   have h1:=hi i h H;have Z:(!((ds.filter (λd=>!(d.1==f.1)))[i].1==f.1))=true:=(B5.1 (BX h)).2;have h4:(ds.filter (λd=>!(d.1==f.1)))[i].1≠f.1:=by simpa using Z
   show f.1<_;omega)
  rw[this];exact congrArg G (ut (k:=λd:bQ=>d.1) (x:=mkD r f b))
 ·rw[if_neg z,show (f.2.2.1==2)=false by simpa using z];rfl
theorem zP (K:Nat)(n:aa)(f:af)(b:Int)(h:cr n)(y:aV f)(u:1048577<K):Q177.f K (n,f,b,())=some ((),(sayOf n f b,())):=by
 simp only[Q177.f,zcp8];have R:∃ g:af,∃ H,Q139.f K (aa.table n,f.1,())=some ((g,H,()),())/\jZ n f=(g.2.2.1==f.2.2.1&&g.2.1==f.2.1):=by
  rcases iG K (aa.table n) f.1 h.lt u with ⟨r,_⟩|⟨_,⟨g,O,e,r⟩|⟨X,r⟩⟩
  ·exact absurd h.table r
  ·exact⟨g,_,r,by rw[sY h.table.2 O e,Bool.and_comm]⟩
  ·refine⟨_,_,r,?_⟩;rw[sZ X,show ((0:Int)==f.2.2.1)=false by have:=y.2.2.1;simp;omega];rfl
 obtain⟨g,H,r,J⟩:=R;rw[show Q139.f K (n.2.2.2.2.2.2.2.2.1,f.1,())=_ from r];simp only[BV];rw[show Q170.f K (n.2.2.2.2.2.2.2.2.1,f,())=_ from vR K (aa.table n) f h.lt h.table.2 u];simp only[BV];cases z:(bg (aa.table n) f).2 with
 |false =>
  simp only[sayOf,z];rfl
 |true =>
  simp only[sayOf,z,B6,cond_false,cond_true];rw[show Q172.f K (n.2.2.2.2.2.2.2.2.2.1,f,())=_ from xu K (aa.cast n) f h.lc h.cast y u];simp only[BV];have I:=Aj K n.2.2.2.2.2.1 (aa.doubts n) f b (λM=>some ((),(f9 n (bg (aa.table n) f).1 (dr (aa.cast n) f) M,()))) h.ld h.asc h.inp y u;rw[J];cases g.2.2.1==f.2.2.1 with
  |true =>
   cases g.2.1==f.2.1 with
   |true=>rfl
   |false=>exact I
  |false=>exact I
theorem iU {α:Type}{k:α->Int}{xs:List α}(h:Asc k xs)(u:∀ x∈xs,InP (k x) 0 7):xs.length<=8:=by
 have:=(jf (xs.map k) [0,1,2,3,4,5,6,7] (by unfold Asc at h;rw[CQ];exact h) (by decide) (λy z=>by
  obtain⟨x,r,rfl⟩:=CM.1 z;obtain⟨I,H⟩:=u x r;simp only[Ca,DA,or_false];omega)).1
 rw[CH]at this;exact this
theorem gZ (t:List af)(f:af):(bg t f).1=t\/(bg t f).1=a7 (λg=>g.1) f t:=by
 unfold bg;split
 ·split
  ·exact .inr rfl
  ·exact .inl rfl
 ·exact .inr rfl
theorem fK {t:List af}{f:af}(h:aw t)(u:aV f):aw (bg t f).1:=by
 rcases gZ t f with e|e
 ·rw[e];exact h
 ·rw[e];refine⟨λg r=>?_,eF h.2⟩;rcases aO.1 r with rfl|⟨y,_⟩
  ·exact u
  ·exact h.1 g y
theorem pU {l:List aL}{f:af}(h:cQ l)(u:aV f):cQ (dr l f):=by
 unfold dr;split
 ·exact h
 ·refine⟨λx r=>?_,eF h.2⟩;rcases aO.1 r with rfl|⟨y,_⟩
  ·exact⟨u,show (1:Int)<=4 by omega,show (4:Int)<=4 by omega⟩
  ·exact h.1 x y
theorem kp {r:Int}{ds:List bQ}{f:af}{b:Int}{d:bQ}(h:d∈cN r ds f b):d=mkD r f b\/d∈ds:=by
 unfold cN at h;split at h
 ·rcases aO.1 h with h|h
  ·exact .inl h
  ·exact .inr h.1
 ·exact .inr (B5.1 h).1
theorem ta {r:Int}{ds:List bQ}{f:af}{b:Int}(h:Asc (λd:bQ=>d.1) ds):Asc (λd:bQ=>d.1) (cN r ds f b):=by
 unfold cN;split
 ·exact eF h
 ·exact mg h _
theorem iK (n:aa)(f:af)(b:Int):∃ t c r,sayOf n f b=f9 n t c r/\(t=aa.table n\/t=(bg (aa.table n) f).1)/\(c=aa.cast n\/c=dr (aa.cast n) f)/\(r=aa.doubts n\/r=cN n.2.2.2.2.2.1 (aa.doubts n) f b):=by
 unfold sayOf;cases (bg (aa.table n) f).2 with
 |false=>exact⟨aa.table n,aa.cast n,aa.doubts n,rfl,.inl rfl,.inl rfl,.inl rfl⟩
 |true =>
  cases jZ n f with
  |true=>exact⟨_,_,_,rfl,.inr rfl,.inr rfl,.inl rfl⟩
  |false=>exact⟨_,_,_,rfl,.inr rfl,.inr rfl,.inr rfl⟩
theorem cr.mk' {n:aa}(u:aw (aa.table n))(r:cQ (aa.cast n))(z:Asc (λd:bQ=>d.1) (aa.doubts n))(y:∀ d∈aa.doubts n,InP d.1 0 7):cr n where
 table:=u
 cast:=r
 asc:=z
 inp:=y
 lt:=CP (iU u.2 (λg I=>(u.1 g I).1)) (by decide)
 lc:=CP (iU r.2 (λx H=>(r.1 x H).1.1)) (by decide)
 ld:=CP (iU z y) (by decide)
theorem is {n:aa}{f:af}{b:Int}(h:cr n)(u:aV f):cr (sayOf n f b):=by
 obtain⟨t,c,y,e,I,H,z⟩:=iK n f b;rw[e];refine cr.mk' ?_ ?_ ?_ ?_
 ·show aw t;rcases I with rfl|rfl
  ·exact h.table
  ·exact fK h.table u
 ·show cQ c;rcases H with rfl|rfl
  ·exact h.cast
  ·exact pU h.cast u
 ·show Asc _ y;rcases z with rfl|rfl
  ·exact h.asc
  ·exact ta h.asc
 ·show ∀ d∈y,InP d.1 0 7;rcases z with rfl|rfl
  ·exact h.inp
  ·intro d r;rcases kp r with rfl|r
   ·exact u.1
   ·exact h.inp d r
theorem yQ {n:aa}{f:af}{b:Int}(h:∀ d∈aa.doubts n,d.2.2.2.length<=1048576):∀ d∈aa.doubts (sayOf n f b),d.2.2.2.length<=1048576:=by
 obtain⟨t,c,u,e,_,_,y⟩:=iK n f b;rw[e];show ∀ d∈u,_;rcases y with rfl|rfl
 ·exact h
 ·intro d r;rcases kp r with rfl|r
  ·exact Nat.succ_le_of_lt (by decide)
  ·exact h d r
theorem UpP.say {n:aa}(h:UpP n):cr n:=by
 obtain⟨u,_,_,⟨y,_⟩,_,r,_⟩:=h;refine cr.mk' u y r.2.1 λd z=>?_
 obtain⟨f,H,e,_⟩:=(r.1 d z).1;rw[<- e];exact (u.1 f H).1
theorem qE {α β A R:Type}(t:List α)(p:α->Bool)(g:α->β)(S:List β->Nat->A)(u:List β->Option R){step:(A->Option R)->A->Option R}
  (h:∀ (rec:A->Option R) (r:List β) (i:Nat) (M:i<t.length),r.length<=i->step rec (S r i)=rec (S (bif p t[i] then r++[g t[i]] else r) (i+1)))
  (y:∀ (rec:A->Option R) (r:List β),r.length<=t.length->step rec (S r t.length)=u r) {k:Nat} (H:t.length<k) :
  ae step k (S [] 0)=u ((t.filter p).map g):=by
 have:∀ (d i k:Nat) (r:List β),i+d=t.length->d<k->r.length<=i->ae step k (S r i)=u (r++((t.drop i).filter p).map g):=by
  intro d;induction d with
  |zero =>
   intro i k r M H I;obtain⟨k,rfl⟩:∃ J,k=J+1:=⟨k-1,by omega⟩;have:i=t.length:=by omega
   subst this;show step (ae step k) _=_;rw[y _ _ I];simp
  |succ d O =>
   intro i k r M H I;obtain⟨k,rfl⟩:∃ J,k=J+1:=⟨k-1,by omega⟩;have z:i<t.length:=by omega
   show step (ae step k) _=_;rw[h _ _ _ z I,B8 z,CI];cases p t[i] with
   |true =>
    simp only[cond_true,if_true,DG];rw[O (i+1) k _ (by omega) (by omega) (by simp;omega),CZ];rfl
   |false =>
    simp only[cond_false];rw[O (i+1) k _ (by omega) (by omega) (by omega)];rfl
 have:=this t.length 0 k [] (by omega) H (CF _)
 rwa [CN,CC]at this
def tc:aa:=(0,false,false,false,0,0,0,0,[],[],(0,0,0,false),[],(0,0,0,0),[],[])
theorem uu:NB tc where
 table:=CL _
 cast:=CL _
 doubts:=CL _
 by_:=λd r=>absurd r DA
 places:=CL _
 trips:=λd r=>absurd r DA
 others:=CL _
 facts:=λd r=>absurd r DA
theorem szw (a b c:Nat)(r:c<=128)(h:a+b<=2097152):decide ((a+b)*c<=an)=true:=by
 have:=C3 h r;exact decide_eq_true (by unfold an;omega)
def kJ (n:aa):aa:=(n.1,n.2.1,true,n.2.2.2)
def nZ (r:Int)(n:aa)(to:Int):aj:=(1,r,n.1,to,0,n.1,aa.coord n,aa.table n)
theorem Ak (K:Nat)(n:aa)(r to:Int)(u:(aa.table n).length<=1048576):Q207.f K (n,r,to,())=some ((nZ r n to,()),()):=by
 simp only[Q207.f,zcp4,Q186.f,BV,Q1.f];rw[d5 (by show (aa.table n).length*_<=_;omega)];rfl
theorem n9 (K:Nat)(n:aa)(r to:Int)(u:(aa.table n).length<=1048576):Q39.f K (n,r,to,0,n.1,aa.table n,())=some ((nZ r n to,()),()):=by
 simp only[Q39.f];rw[szb _ _ _ (by omega) (by show (BW ([]:List af))+(aa.table n).length<=_;simp;omega)];rfl
def eG (f:af):Bool:=f.2.2.1==1||f.2.2.1==2
theorem u5 (K:Nat)(t:List af)(f:af)(I:aw t)(J:t.length<=1048576)(r:f∈t)(H:1048577<K):Q92.f K (t,f.1,())=rb (eG f):=by
 simp only[Q92.f];obtain⟨o,y,z⟩:=fq K t f.1 J H;rw[z];simp only[BV];cases y with
 |at_ i u e =>
  simp only;rw[decide_eq_true (by omega:((i:Nat):Int)>=0),ag u];simp only[cond_true,BV];rw[fb I.2 (BX u) r e,eG];cases f.2.2.1==1 <;> rfl
 |no h=>exact absurd rfl (h f r)
def td (n:aa)(f:af):Bool:=f.1 != n.1&&eG f
def lF (n:aa):List aj:=((aa.table n).filter (td n)).map λf=>nZ 5 n f.1
def m7 (n:aa):aa:=kJ (sayOf n (n.1,n.2.2.2.2.1,4,n.2.2.2.1) n.1)
theorem te (K:Nat)(x:ab Q105.ps)(m:aa)(I:aw (aa.table m))(y:(aa.table m).length<=1048576)(H:1048577<K) :
  Q105.l0 K x ([],0,m.1,m.2.1,m.2.2.2.1,m.2.2.2.2.1,m.2.2.2.2.2.1,m.2.2.2.2.2.2.1,m.2.2.2.2.2.2.2.1,m.2.2.2.2.2.2.2.2.1,m.2.2.2.2.2.2.2.2.2.1,m.2.2.2.2.2.2.2.2.2.2.1.1,m.2.2.2.2.2.2.2.2.2.2.1.2.1,m.2.2.2.2.2.2.2.2.2.2.1.2.2.1,m.2.2.2.2.2.2.2.2.2.2.1.2.2.2,m.2.2.2.2.2.2.2.2.2.2.2.1,m.2.2.2.2.2.2.2.2.2.2.2.2.1.1,m.2.2.2.2.2.2.2.2.2.2.2.2.1.2.1,m.2.2.2.2.2.2.2.2.2.2.2.2.1.2.2.1,m.2.2.2.2.2.2.2.2.2.2.2.2.1.2.2.2,m.2.2.2.2.2.2.2.2.2.2.2.2.2.1,m.2.2.2.2.2.2.2.2.2.2.2.2.2.2)=some ((kJ m,lF (kJ m),()),()):=by
 refine qE (step:=λrec a=>Q105.s0 K x rec a) (aa.table m) (td (kJ m)) (λf=>nZ 5 (kJ m) f.1) (λr i=>(r,(i:Int),m.1,m.2.1,m.2.2.2.1,m.2.2.2.2.1,m.2.2.2.2.2.1,m.2.2.2.2.2.2.1,m.2.2.2.2.2.2.2.1,m.2.2.2.2.2.2.2.2.1,m.2.2.2.2.2.2.2.2.2.1,m.2.2.2.2.2.2.2.2.2.2.1.1,m.2.2.2.2.2.2.2.2.2.2.1.2.1,m.2.2.2.2.2.2.2.2.2.2.1.2.2.1,m.2.2.2.2.2.2.2.2.2.2.1.2.2.2,m.2.2.2.2.2.2.2.2.2.2.2.1,m.2.2.2.2.2.2.2.2.2.2.2.2.1.1,m.2.2.2.2.2.2.2.2.2.2.2.2.1.2.1,m.2.2.2.2.2.2.2.2.2.2.2.2.1.2.2.1,m.2.2.2.2.2.2.2.2.2.2.2.2.1.2.2.2,m.2.2.2.2.2.2.2.2.2.2.2.2.2.1,m.2.2.2.2.2.2.2.2.2.2.2.2.2.2)) (λz=>some ((kJ m,z,()),())) ?_ ?_ (by omega)
 ·intro rec r i u J;simp only[Q105.s0,zceae5f];rw[show decide ((i:Int)<(BW m.2.2.2.2.2.2.2.2.1:Int))=true from bj (by omega:(i:Int)<(BW (aa.table m):Int)),show idx m.2.2.2.2.2.2.2.2.1 (i:Int)=some (aa.table m)[i] from ag u,ar i (by omega)];simp only[cond_true,BV,td];rw[show (kJ m).1=m.1 from rfl];cases M:(aa.table m)[i].1 != m.1 with
  |false=>rfl
  |true =>
   simp only[cond_true,Cj];rw[show Q92.f K (m.2.2.2.2.2.2.2.2.1,(aa.table m)[i].1,())=_ from u5 K (aa.table m) _ I y (BX u) H];simp only[BV];cases eG (aa.table m)[i] with
   |false=>rfl
   |true =>
    simp only[cond_true];refine (congrArg (λo=>Cl o _) (n9 K (kJ m) 5 (aa.table m)[i].1 y)).trans ?_;simp only[BV];rw[szw _ _ _ (by omega) (by simp;omega)];rfl
 ·intro rec r J;simp only[Q105.s0,zceae5f];rw[show decide ((BW (aa.table m):Int)<(BW m.2.2.2.2.2.2.2.2.1:Int))=false from aP _];rfl
theorem vS {n:aa}(r:fg n):aV (n.1,n.2.2.2.2.1,4,n.2.2.2.1):=⟨r.1,r.2.2.2.2.1,show (1:Int)<=4 by omega,show (4:Int)<=4 by omega⟩
theorem Al (K:Nat)(n:aa)(J:NB n)(y:fg n)(u:n.2.1=true)(I:n.2.2.1=false)(H:1048577<K):Q105.f K (n,())=some ((m7 n,lF (m7 n),()),()):=by
 have z:=(y.up u).say;have r:=is (b:=n.1) z (vS y);simp only[Q105.f,Q105.pre];rw[u,I];simp only[B6,cond_false];rw[pT K n _ n.1 z H];exact te K _ _ r.table r.lt H
theorem kK {α r A R:Type}(ds:List α)(st:r->α->r)(Inv:r->Prop)(S:r->Nat->A)(u:r->Option R){step:(A->Option R)->A->Option R}(n:r)(Y:Inv n)
  (h:∀ (rec:A->Option R) (m:r) (i:Nat) (M:i<ds.length),Inv m->step rec (S m i)=rec (S (st m ds[i]) (i+1))/\Inv (st m ds[i]))
  (y:∀ (rec:A->Option R) (m:r),Inv m->step rec (S m ds.length)=u m) {k:Nat} (I:ds.length<k):ae step k (S n 0)=u (ds.foldl st n):=by
 have:∀ (d i k:Nat) (m:r),i+d=ds.length->d<k->Inv m->ae step k (S m i)=u ((ds.drop i).foldl st m):=by
  intro d;induction d with
  |zero =>
   intro i k m M I H;obtain⟨k,rfl⟩:∃ J,k=J+1:=⟨k-1,by omega⟩;have:i=ds.length:=by omega
   subst this;show step (ae step k) _=_;rw[y _ _ H,C9];rfl
  |succ d Z =>
   intro i k m M I H;obtain⟨k,rfl⟩:∃ J,k=J+1:=⟨k-1,by omega⟩;have z:i<ds.length:=by omega
   show step (ae step k) _=_;obtain⟨X,O⟩:=h (ae step k) m i z H;rw[X,B8 z];exact Z (i+1) k _ (by omega) (by omega) O
 have:=this ds.length 0 k n (by omega) I Y
 rwa [CN]at this
theorem mh {α r:Type}{st:r->α->r}{Inv:r->Prop}:∀ {ds:List α} {n:r},Inv n->(∀ m,∀ d∈ds,Inv m->Inv (st m d))->Inv (ds.foldl st n)
 |[],_,h,_=>h
 |d::ds,n,h,y=>mh (ds:=ds) (y n d (by simp) h) (λm z u=>y m z (by simp[u]))
def aR (t:List af)(r:Int):af:=(t.find? λg=>g.1==r).getD (0,0,0,false)
theorem jD {t:List af}(y:Asc (λg:af=>g.1) t){f:af}(u:f∈t):aR t f.1=f:=by
 obtain⟨i,r,e⟩:=B7 u;unfold aR;rw[show t.find? (λg=>g.1==f.1)=some t[i] from md y r (by rw[e]),e];rfl
theorem jE {t:List af}{r:Int}(h:∀ g∈t,g.1≠r):aR t r=(0,0,0,false):=by
 unfold aR;rw[show t.find? (λg=>g.1==r)=none from nY h];rfl
theorem m8 (K:Nat)(t:List af)(r:Int)(y:aw t)(J:t.length<=1048576)(I:1048577<K):∃ b,Q139.f K (t,r,())=some ((aR t r,b,()),()):=by
 rcases iG K t r J I with ⟨u,_⟩|⟨_,⟨g,H,e,u⟩|⟨z,u⟩⟩
 ·exact absurd y u
 ·refine⟨true,?_⟩;rw[u,<- e,jD y.2 H]
 ·refine⟨false,?_⟩;rw[u,jE z]
theorem tf (K:Nat)(t:List af)(r:Int)(I:aw t)(u:t.length<=1048576)(y:1048577<K):Q92.f K (t,r,())=rb (eG (aR t r)):=by
 by_cases h:∃ f∈t,f.1=r
 ·obtain⟨f,z,rfl⟩:=h;rw[u5 K t f I u z y,jD I.2 z]
 ·have H:∀ g∈t,g.1≠r:=λg O e=>h ⟨g,O,e⟩
  simp only[Q92.f];obtain⟨o,M,R⟩:=fq K t r u y;rw[R,jE H];cases M with
  |at_ i J e=>exact absurd e (H _ (BX J))
  |no _=>rfl
theorem iV (n:aa)(f:af)(b:Int):(sayOf n f b).1=n.1/\(sayOf n f b).2.1=n.2.1/\(sayOf n f b).2.2.1=n.2.2.1/\(sayOf n f b).2.2.2.1=n.2.2.2.1/\(sayOf n f b).2.2.2.2.1=n.2.2.2.2.1/\(sayOf n f b).2.2.2.2.2.1=n.2.2.2.2.2.1/\(sayOf n f b).2.2.2.2.2.2.1=n.2.2.2.2.2.2.1/\(sayOf n f b).2.2.2.2.2.2.2.1=n.2.2.2.2.2.2.2.1/\aa.probe (sayOf n f b)=aa.probe n/\(sayOf n f b).2.2.2.2.2.2.2.2.2.2.2.2=n.2.2.2.2.2.2.2.2.2.2.2.2:=by
 obtain⟨t,c,r,e,_⟩:=iK n f b;rw[e];exact⟨rfl,rfl,rfl,rfl,rfl,rfl,rfl,rfl,rfl,rfl⟩
theorem m9 {t:List af}{f g:af}(r:g∈t):∃ u∈(bg t f).1,u.1=g.1:=by
 rcases gZ t f with e|e
 ·rw[e];exact⟨g,r,rfl⟩
 ·rw[e];by_cases h:g.1=f.1
  ·exact⟨f,aO.2 (.inl rfl),h.symm⟩
  ·exact⟨g,aO.2 (.inr ⟨r,h⟩),rfl⟩
theorem jF {n:aa}{f:af}{b:Int}{g:af}(r:g∈aa.table n):∃ y∈aa.table (sayOf n f b),y.1=g.1:=by
 obtain⟨t,c,z,e,u,_⟩:=iK n f b;rw[e];rcases u with rfl|rfl
 ·exact⟨g,r,rfl⟩
 ·exact m9 r
def qF (u r:Int)(len:Nat):Bool:=decide (u-r>=if 6-(len:Int)+1<3 then 3 else 6-(len:Int)+1)
def kL (f:af):af:=(f.1,f.2.1,3,f.2.2.2)
def it (n:aa)(d:bQ):aa:=bif qF n.2.2.2.2.2.1 d.2.2.1 d.2.2.2.length then sayOf n (kL (aR (aa.table n) d.1)) n.1 else n
def kq (n:aa):aa:=(aa.doubts n).foldl it n
theorem due_s (K:Nat)(r:Int)(d:bQ)(u:0<=d.2.2.1)(y:d.2.2.1<=r)(z:r<=1000000)(H:d.2.2.2.length<=1048576):Q89.f K (r,d,())=rb (qF r d.2.2.1 d.2.2.2.length):=by
 simp only[Q89.f];rw[aJ (n:=6-(BW d.2.2.2:Int)) (by omega) (by omega),aJ (n:=6-(BW d.2.2.2:Int)+1) (by omega) (by omega),aJ (n:=r-d.2.2.1) (by omega) (by omega)];unfold qF;by_cases h:6-(BW d.2.2.2:Int)+1<3
 ·rw[decide_eq_true h,if_pos h];rfl
 ·rw[decide_eq_false h,if_neg h];rfl
structure pV (ds:List bQ) (now:Int) (n:aa):Prop where
 ok:cr n
 key:∀ d∈ds,∃ f∈aa.table n,f.1=d.1
 now_:n.2.2.2.2.2.1=now
theorem u6 {f:af}(h:aV f):aV (kL f):=⟨h.1,h.2.1,show (1:Int)<=3 by omega,show (3:Int)<=4 by omega⟩
theorem er {t:List af}{r:Int}(y:aw t)(h:∃ f∈t,f.1=r):aV (aR t r)/\(aR t r).1=r/\aR t r∈t:=by
 obtain⟨f,u,rfl⟩:=h;rw[jD y.2 u];exact⟨y.1 f u,rfl,u⟩
theorem uv {ds:List bQ}{r:Int}{n:aa}{d:bQ}(h:pV ds r n)(z:d∈ds):pV ds r (it n d):=by
 unfold it;cases qF n.2.2.2.2.2.1 d.2.2.1 d.2.2.2.length with
 |false=>exact h
 |true =>
  have M:=u6 (er h.ok.table (h.key d z)).1;refine⟨is h.ok M,λH y=>?_,(iV n _ _).2.2.2.2.2.1.trans h.now_⟩;obtain⟨g,J,e⟩:=h.key H y;obtain⟨O,u,I⟩:=jF (f:=kL (aR (aa.table n) d.1)) (b:=n.1) J;exact⟨O,u,I.trans e⟩
theorem Bj (K:Nat)(n:aa)(h:pV (aa.doubts n) n.2.2.2.2.2.1 n)(Z:∀ d∈aa.doubts n,0<=d.2.2.1/\d.2.2.1<=n.2.2.2.2.2.1/\d.2.2.2.length<=1048576)(y:n.2.2.2.2.2.1<=1000000)(O:1048577<K):Q91.f K (n,())=some ((kq n,()),()):=by
 have hl:=h.ok.ld;refine kK (step:=λrec a=>Q91.s0 K (n,()) rec a) (aa.doubts n) it (pV (aa.doubts n) n.2.2.2.2.2.1) (λm i=>((i:Int),m.1,m.2.1,m.2.2.1,m.2.2.2.1,m.2.2.2.2.1,m.2.2.2.2.2.1,m.2.2.2.2.2.2.1,m.2.2.2.2.2.2.2.1,m.2.2.2.2.2.2.2.2.1,m.2.2.2.2.2.2.2.2.2.1,m.2.2.2.2.2.2.2.2.2.2.1.1,m.2.2.2.2.2.2.2.2.2.2.1.2.1,m.2.2.2.2.2.2.2.2.2.2.1.2.2.1,m.2.2.2.2.2.2.2.2.2.2.1.2.2.2,m.2.2.2.2.2.2.2.2.2.2.2.1,m.2.2.2.2.2.2.2.2.2.2.2.2.1.1,m.2.2.2.2.2.2.2.2.2.2.2.2.1.2.1,m.2.2.2.2.2.2.2.2.2.2.2.2.1.2.2.1,m.2.2.2.2.2.2.2.2.2.2.2.2.1.2.2.2,m.2.2.2.2.2.2.2.2.2.2.2.2.2.1,m.2.2.2.2.2.2.2.2.2.2.2.2.2.2)) (λm=>some ((m,()),())) n h ?_ ?_ (by omega)
 ·intro rec m i H u;refine⟨?_,uv u (BX H)⟩;simp only[Q91.s0,zc286a0,zc3ec45];obtain⟨I,M,R⟩:=Z _ (BX H);rw[show decide ((i:Int)<(BW n.2.2.2.2.2.2.2.2.2.2.2.1:Int))=true from bj (by omega:(i:Int)<(BW (aa.doubts n):Int)),show idx n.2.2.2.2.2.2.2.2.2.2.2.1 (i:Int)=some (aa.doubts n)[i] from ag H,ar i (by omega)];simp only[cond_true,BV];rw[due_s K m.2.2.2.2.2.1 (aa.doubts n)[i] I (by rw[u.now_];exact M) (by rw[u.now_];exact y) R];simp only[BV];have r:=u.key _ (BX H);generalize (aa.doubts n)[i]=d at r I M R ⊢;unfold it;cases qF m.2.2.2.2.2.1 d.2.2.1 d.2.2.2.length with
  |false=>rfl
  |true =>
   simp only[cond_true];have z:=er u.ok.table r;obtain⟨o,X,Y⟩:=fq K (aa.table m) d.1 u.ok.lt O;rw[show Q25.f K (m.2.2.2.2.2.2.2.2.1,d.1,())=_ from Y];simp only[BV];cases X with
   |no h=>exact absurd r (λ⟨f,hf,e⟩=>h f hf e)
   |at_ j J e =>
    simp only;rw[show idx m.2.2.2.2.2.2.2.2.1 ((j:Nat):Int)=some (aa.table m)[j] from ag J,fb u.ok.table.2 (BX J) z.2.2 (by rw[e,z.2.1])];simp only[BV];refine (congrArg (λo=>Cl o _) (pT K m (kL (aR (aa.table m) d.1)) m.1 u.ok O)).trans ?_;rfl
 ·intro rec m u;simp only[Q91.s0,zc286a0,zc3ec45];rw[show decide ((BW (aa.doubts n):Int)<(BW n.2.2.2.2.2.2.2.2.2.2.2.1:Int))=false from aP _];rfl
def setP (n:aa)(p:af):aa:=(n.1,n.2.1,n.2.2.1,n.2.2.2.1,n.2.2.2.2.1,n.2.2.2.2.2.1,n.2.2.2.2.2.2.1,n.2.2.2.2.2.2.2.1,n.2.2.2.2.2.2.2.2.1,n.2.2.2.2.2.2.2.2.2.1,p,n.2.2.2.2.2.2.2.2.2.2.2)
def noP:af:=(-1,0,0,false)
def pW (f:af):af:=(f.1,f.2.1,2,f.2.2.2)
def vT (n:aa)(f:af):Bool:=f.2.2.1==1&&f.1 != n.1&&f.1 != (aa.probe n).1
def fD (n:aa):List Int:=(((aa.table n).filter (vT n)).map (·.1)).take 2
def askW (n:aa)(to:Int):aj:=(1,3,n.1,to,(aa.probe n).2.2.1,(aa.probe n).1,aa.coord n,[])
def lG (n:aa):aa:=setP n ((aa.probe n).1,(aa.probe n).2.1,(aa.probe n).2.2.1,true)
def dl (n:aa):aa×List aj :=
 bif (aa.probe n).1==-1 then (n,[]) else
 bif !eG (aR (aa.table n) (aa.probe n).1) then (setP n noP,[]) else
 bif decide (n.2.2.2.2.2.1-(aa.probe n).2.1>=4) then (bif (aR (aa.table n) (aa.probe n).1).2.2.1==1 then sayOf (setP n noP) (pW (aR (aa.table n) (aa.probe n).1)) n.1 else setP n noP,[]) else
 bif decide (n.2.2.2.2.2.1-(aa.probe n).2.1>=2) then (bif !(aa.probe n).2.2.2 then (lG n,(fD n).map (askW n)) else (n,[])) else (n,[])
theorem cr.setP {n:aa}(h:cr n)(p:af):cr (setP n p):=⟨h.table,h.cast,h.asc,h.inp,h.lt,h.lc,h.ld⟩
theorem Am {f:af}(h:aV f):aV (pW f):=⟨h.1,h.2.1,show (1:Int)<=2 by omega,show (2:Int)<=4 by omega⟩
theorem hH {t:List af}{r:Int}(h:eG (aR t r)=true):∃ f∈t,f.1=r:=by
 by_cases u:∃ f∈t,f.1=r
 ·exact u
 ·rw[jE (λg y e=>u ⟨g,y,e⟩)]at h;simp[eG]at h
theorem xv (K:Nat)(n:aa)(J:(aa.table n).length<=1048576)(I:1048577<K):Q93.f K (n,())=some ((fD n,()),()):=by
 have:=kY (step:=λrec a=>Q93.s0 K (n,()) rec a) (aa.table n) (vT n) (λf=>f.1) 2 (λy=>some ((y,()),())) ?_ ?_ ?_ (aa.table n).length 0 K [] (by omega) (by omega) (CF _) (by simp)
 ·exact this
 ·intro rec r i u H z;simp only[Q93.s0];rw[show decide ((i:Int)<(BW n.2.2.2.2.2.2.2.2.1:Int))=true from bj (by omega:(i:Int)<(BW (aa.table n):Int)),show idx n.2.2.2.2.2.2.2.2.1 (i:Int)=some (aa.table n)[i] from ag u,ar i (by omega),decide_eq_true (by omega:(BW r:Int)<2)];simp only[cond_true,BV,vT];show (bif (aa.table n)[i].1 != n.1 then (bif (aa.table n)[i].1 != (aa.probe n).1 then (bif (aa.table n)[i].2.2.1==1 then (bif decide ((BW r+BW ([(aa.table n)[i].1]))*8<=an) then (rec (r++([(aa.table n)[i].1]),((i+1:Nat):Int))) else none) else (rec (r,((i+1:Nat):Int)))) else (rec (r,((i+1:Nat):Int)))) else (rec (r,((i+1:Nat):Int))))=_;rw[szb _ _ _ (by omega) (by simp;omega)];cases (aa.table n)[i].1 != n.1 <;> cases (aa.table n)[i].1 != (aa.probe n).1 <;> cases (aa.table n)[i].2.2.1==1 <;> rfl
 ·intro rec r i u H z;simp only[Q93.s0];rw[show decide ((i:Int)<(BW n.2.2.2.2.2.2.2.2.1:Int))=true from bj (by omega:(i:Int)<(BW (aa.table n):Int)),decide_eq_false (by omega:¬ (BW r:Int)<2)];rfl
 ·intro rec r _;simp only[Q93.s0];rw[show decide ((BW (aa.table n):Int)<(BW n.2.2.2.2.2.2.2.2.1:Int))=false from aP _];rfl
theorem Bk (K:Nat)(n:aa)(h:cr n)(Z:(aa.probe n).1≠-1)(h0:0<=(aa.probe n).2.1)(h1:(aa.probe n).2.1<=1000000)(a0:0<=n.2.2.2.2.2.1)(R:n.2.2.2.2.2.1<=1000000)(u:1048577<K) :
  Q94.f K (n,())=some (((dl n).1,(dl n).2,()),()):=by
 simp only[Q94.f,Q94.pre,zcp8,dl];rw[show ((aa.probe n).1==-1)=false by simpa using Z];simp only[cond_false];rw[show Q92.f K (n.2.2.2.2.2.2.2.2.1,n.2.2.2.2.2.2.2.2.2.2.1.1,())=_ from tf K (aa.table n) (aa.probe n).1 h.table h.lt u];simp only[BV];cases I:eG (aR (aa.table n) (aa.probe n).1) with
 |false=>rfl
 |true =>
  have y:=er h.table (hH I);simp only[B6,cond_false];rw[aJ (n:=n.2.2.2.2.2.1-n.2.2.2.2.2.2.2.2.2.2.1.2.1) (by show -9223372036854775808<=n.2.2.2.2.2.1-(aa.probe n).2.1;omega) (by show n.2.2.2.2.2.1-(aa.probe n).2.1<=9223372036854775807;omega)];show (bif decide (n.2.2.2.2.2.1-(aa.probe n).2.1>=4) then _ else _)=_;cases decide (n.2.2.2.2.2.1-(aa.probe n).2.1>=4) with
  |true =>
   simp only[cond_true];obtain⟨o,Y,X⟩:=fq K (aa.table n) (aa.probe n).1 h.lt u;rw[show Q25.f K (n.2.2.2.2.2.2.2.2.1,n.2.2.2.2.2.2.2.2.2.2.1.1,())=_ from X];simp only[BV];cases Y with
   |no z=>exact absurd (hH I) (λ⟨f,y,e⟩=>z f y e)
   |at_ j H e =>
    simp only;rw[show idx n.2.2.2.2.2.2.2.2.1 ((j:Nat):Int)=some (aa.table n)[j] from ag H,fb h.table.2 (BX H) y.2.2 (by rw[e,y.2.1])];simp only[BV];cases (aR (aa.table n) (aa.probe n).1).2.2.1==1 with
    |true =>
     simp only[cond_true];refine (congrArg (λo=>Cl o _) (pT K (setP n noP) (pW (aR (aa.table n) (aa.probe n).1)) n.1 (h.setP noP) u)).trans ?_;rfl
    |false=>rfl
  |false =>
   simp only[cond_false];show (bif decide (n.2.2.2.2.2.1-(aa.probe n).2.1>=2) then _ else _)=_;cases decide (n.2.2.2.2.2.1-(aa.probe n).2.1>=2) with
   |false=>rfl
   |true =>
    simp only[cond_true];show (bif !(aa.probe n).2.2.2 then _ else _)=_;cases M:(aa.probe n).2.2.2 with
    |true=>rfl
    |false =>
     simp only[CR,cond_true];refine (congrArg (λo=>Cl o _) (xv K (lG n) h.lt u)).trans ?_;simp only[BV];rw[show fD (lG n)=fD n from rfl];have O:(fD n).length<=2:=Cx _ _;refine DJ (qE (step:=λrec a=>Q94.s0 K (n,()) rec a) (fD n) (λ_=>true) (askW n) (λr i=>(r,fD n,(i:Int))) (λws=>some ((lG n,ws,()),())) ?_ ?_ (by omega)) (by rw[CG.2 (λ_ _=>rfl)])
     ·intro rec r i J ha;simp only[Q94.s0,zcp8];rw[bj (by omega:(i:Int)<(BW (fD n):Int)),ag J,ar i (by omega),B3,ag J];simp only[cond_true,BV,Q39.f];rw[szb _ _ _ (by omega) (by simp)];simp only[cond_true,BV];rw[szw _ _ _ (by omega) (by simp;omega)];rfl
     ·intro rec r ha;simp only[Q94.s0,zcp8,aP];rfl
def gb (n:aa)(i:Int):aa:=(n.1,n.2.1,n.2.2.1,n.2.2.2.1,i,n.2.2.2.2.2)
def dH (n:aa)(f:af):aa:=bif decide (bD f (aR (aa.table n) n.1))&&decide (f.2.1<999) then sayOf (gb n (f.2.1+1)) (n.1,f.2.1+1,1,n.2.2.2.1) n.1 else n
def dM (f:af)(b:Int)(d:bQ):bQ:=bif d.1==f.1&&d.2.1==f.2.1&&f.2.2.1==2 then (d.1,d.2.1,d.2.2.1,a7 (λx:Int=>x) b d.2.2.2) else d
def jG (n:aa)(f:af)(b:Int):aa:=f9 n (aa.table n) (aa.cast n) ((aa.doubts n).map (dM f b))
def cR (b:Int)(n:aa)(f:af):aa:=bif f.1==n.1 then dH n f else jG (sayOf n f b) f b
def eV (n:aa)(t:List af)(b:Int):aa:=t.foldl (cR b) n
def k6 (l:List Int):Prop:=Asc (λx:Int=>x) l/\∀ x∈l,InP x 0 7
theorem k6.len {l:List Int}(h:k6 l):l.length<=8:=iU h.1 h.2
theorem k6.put {l:List Int}{b:Int}(h:k6 l)(u:InP b 0 7):k6 (a7 (λx:Int=>x) b l) :=
 ⟨eF h.1,λx r=>by
  rcases aO.1 r with rfl|⟨r,_⟩
  ·exact u
  ·exact h.2 x r⟩
structure dt (n:aa):Prop where
 say:cr n
 me:InP n.1 0 7
 has:∃ g∈aa.table n,g.1=n.1
 by_:∀ d∈aa.doubts n,k6 d.2.2.2
theorem cr.inc {n:aa}(h:cr n)(i:Int):cr (gb n i):=⟨h.table,h.cast,h.asc,h.inp,h.lt,h.lc,h.ld⟩
theorem j0 {n:aa}{f:af}{b:Int}(y:InP b 0 7)(h:∀ d∈aa.doubts n,k6 d.2.2.2):∀ d∈aa.doubts (sayOf n f b),k6 d.2.2.2:=by
 obtain⟨t,c,z,e,_,_,H⟩:=iK n f b;rw[e];intro d r;have r:d∈z:=r;rcases H with rfl|rfl
 ·exact h d r
 ·rcases kp r with rfl|r
  ·exact⟨DK _ _,λx u=>by rw[CS.1 u];exact y⟩
  ·exact h d r
theorem oa {n:aa}{f:af}(r:InP n.1 0 7)(u:aV f)(h:f.2.1<999):aV (n.1,f.2.1+1,1,n.2.2.2.1):=by
 obtain⟨_,⟨z,y⟩,_⟩:=u;exact⟨r,⟨show (0:Int)<=f.2.1+1 by omega,show f.2.1+1<=999 by omega⟩,show (1:Int)<=1 by omega,show (1:Int)<=4 by omega⟩
theorem dt.refute {n:aa}{f:af}(h:dt n)(M:aV f):dt (dH n f):=by
 unfold dH;cases y:decide (bD f (aR (aa.table n) n.1))&&decide (f.2.1<999) with
 |false=>exact h
 |true =>
  have I:f.2.1<999:=by
   rw[Cc]at y;exact of_decide_eq_true y.2
  obtain⟨u,_⟩:=iV (gb n (f.2.1+1)) (n.1,f.2.1+1,1,n.2.2.2.1) n.1;refine⟨is (h.say.inc _) (oa h.me M I),?_,?_,j0 h.me h.by_⟩
  ·show InP (sayOf (gb n (f.2.1+1)) (n.1,f.2.1+1,1,n.2.2.2.1) n.1).1 0 7;rw[u];exact h.me
  ·obtain⟨g,J,e⟩:=h.has;obtain⟨z,r,H⟩:=jF (n:=gb n (f.2.1+1)) (f:=(n.1,f.2.1+1,1,n.2.2.2.1)) (b:=n.1) (g:=g) J;refine⟨z,r,?_⟩;show z.1=(sayOf (gb n (f.2.1+1)) (n.1,f.2.1+1,1,n.2.2.2.1) n.1).1;rw[u,H,e];rfl
theorem dt.confirm {n:aa}{f:af}{b:Int}(h:dt n)(Z:aV f)(M:InP b 0 7):dt (jG (sayOf n f b) f b):=by
 have u:=is (b:=b) h.say Z;obtain⟨O,_⟩:=iV n f b;have z:=j0 (f:=f) M h.by_;obtain⟨g,Y,e⟩:=h.has;obtain⟨R,J,X⟩:=jF (n:=n) (f:=f) (b:=b) Y;have H:∀ d,(dM f b d).1=d.1:=λd=>by unfold dM;cases d.1==f.1&&d.2.1==f.2.1&&f.2.2.1==2 <;> rfl
 refine⟨⟨u.table,u.cast,?_,λd I=>?_,u.lt,u.lc,?_⟩,?_,⟨R,J,?_⟩,λd I=>?_⟩
 ·show Asc (λd:bQ=>d.1) ((aa.doubts (sayOf n f b)).map (dM f b));unfold Asc;rw[CQ];exact u.asc.imp λ {a c} h=>by show (dM f b a).1<(dM f b c).1;rw[H,H];exact h
 ·obtain⟨y,r,rfl⟩:=CM.1 I;rw[H];exact u.inp y r
 ·show ((aa.doubts (sayOf n f b)).map (dM f b)).length<=_;rw[CH];exact u.ld
 ·show InP (sayOf n f b).1 0 7;rw[O];exact h.me
 ·show R.1=(sayOf n f b).1;rw[O,X,e]
 ·obtain⟨y,r,rfl⟩:=CM.1 I;unfold dM;cases y.1==f.1&&y.2.1==f.2.1&&f.2.2.1==2 with
  |false=>exact z y r
  |true=>exact (z y r).put M
theorem dt.step {n:aa}{f:af}{b:Int}(h:dt n)(r:aV f)(u:InP b 0 7):dt (cR b n f):=by
 unfold cR;cases f.1==n.1 with
 |true=>exact h.refute r
 |false=>exact h.confirm r u
theorem tg {α A R:Type}(ds:List α)(g:α->α)(S:List α->Nat->A)(u:List α->Option R){step:(A->Option R)->A->Option R}
  (h:∀ (rec:A->Option R) (cur:List α) (i:Nat) (O:i<ds.length),cur.length=ds.length->cur[i]?=some ds[i]->step rec (S cur i)=rec (S (cur.set i (g ds[i])) (i+1)))
  (y:∀ (rec:A->Option R) (cur:List α),cur.length=ds.length->step rec (S cur ds.length)=u cur) {k:Nat} (J:ds.length<k):ae step k (S ds 0)=u (ds.map g):=by
 have:∀ (d i k:Nat) (cur:List α),i+d=ds.length->d<k->cur.length=ds.length->(∀ j,(r:j<ds.length)->cur[j]?=some (if j<i then g ds[j] else ds[j]))->ae step k (S cur i)=u (ds.map g):=by
  intro d;induction d with
  |zero =>
   intro i k cur O J H I;obtain⟨k,rfl⟩:∃ M,k=M+1:=⟨k-1,by omega⟩;have:i=ds.length:=by omega
   subst this;show step (ae step k) _=_;rw[y _ _ H];congr 1;refine List.ext_getElem? λj=>?_
   rw[List.getElem?_map];by_cases r:j<ds.length
   ·rw[I j r,if_pos r,CB r];rfl
   ·rw[Cn (by omega),Cn (by omega)];rfl
  |succ d Y =>
   intro i k cur O J H I;obtain⟨k,rfl⟩:∃ M,k=M+1:=⟨k-1,by omega⟩;have z:i<ds.length:=by omega
   show step (ae step k) _=_;rw[h (ae step k) cur i z H (by rw[I i z,if_neg (by omega)])];refine Y (i+1) k _ (by omega) (by omega) (by rw[DP,H]) λj r=>?_
   rw[List.getElem?_set];by_cases e:i=j
   ·subst e;rw[if_pos rfl,if_pos (by omega),if_pos (by omega)]
   ·rw[if_neg e,I j r];by_cases X:j<i
    ·rw[if_pos X,if_pos (by omega)]
    ·rw[if_neg X,if_neg (by omega)]
 exact this ds.length 0 k ds (by omega) J rfl (λj r=>by rw[if_neg (by omega),CB r])
theorem mi {α:Type}{cur:List α}{i:Nat}{x:α}(h:cur[i]?=some x):cur.set i x=cur:=by
 obtain⟨r,e⟩:=List.getElem?_eq_some_iff.1 h;rw[<- e,List.set_getElem_self]
theorem th {by_:List Int}{b:Int}{m:Nat}(r:m<=by_.length)(y:by_.length<=8){R:Type}(G:List Int->Option R) :
  (bif decide ((0:Int)<=0)&&decide ((0:Int)<=(m:Int))&&decide ((m:Int)<=(BW by_:Int))&&true then (bif decide ((BW ([]:List Int)+BW ((by_.take (BY (m:Int))).drop (BY 0)))*8<=an) then (bif decide ((BW ([]++((by_.take (BY (m:Int))).drop (BY 0)))+BW ([b]))*8<=an) then (bif decide ((0:Int)<=(m:Int))&&decide ((m:Int)<=(BW by_:Int))&&decide ((BW by_:Int)<=(BW by_:Int))&&true then (bif decide ((BW (([]++((by_.take (BY (m:Int))).drop (BY 0)))++([b]))+BW ((by_.take (BY (BW by_:Int))).drop (BY (m:Int))))*8<=an) then G ((([]++((by_.take (BY (m:Int))).drop (BY 0)))++([b]))++((by_.take (BY (BW by_:Int))).drop (BY (m:Int)))) else none) else none) else none) else none) else none)=G (by_.take m++[b]++by_.drop m):=by
 rw[decide_eq_true (by omega:(0:Int)<=0),decide_eq_true (by omega:(0:Int)<=(m:Int)),decide_eq_true (by omega:(m:Int)<=(BW by_:Int)),decide_eq_true (by omega:(BW by_:Int)<=(BW by_:Int))];simp only[B3,Cq,CN,CC,Ck,Cm,cond_true];have z:(by_.take m).length=m:=by rw[CJ];omega
 have u:(by_.drop m).length=by_.length-m:=CT;rw[szb _ _ _ (by omega) (by simp only[B9];omega),szb _ _ _ (by omega) (by simp only[B4,B9];omega),szb _ _ _ (by omega) (by simp only[CD,B4,B9];omega)];rfl
theorem xw (K:Nat)(n:aa)(f:af)(b:Int)(hd:∀ d∈aa.doubts n,k6 d.2.2.2)(hl:(aa.doubts n).length<=1048576)(hK:1048577<K):Q32.f K (n,f,b,())=some ((jG n f b,()),()):=by
 simp only[Q32.f,Q32.pre];refine tg (step:=λrec a=>Q32.s0 K (n,f,b,()) (Q32.l1 K (n,f,b,()) rec) rec a) (aa.doubts n) (dM f b) (λu i=>((i:Int),u)) (λu=>some ((f9 n (aa.table n) (aa.cast n) u,()),())) ?_ ?_ (by omega)
 ·intro rec u i hi X I;have M:i<u.length:=by omega
  have a0:u[i]=(aa.doubts n)[i]:=by
   rw[CB M]at I;exact Option.some.inj I
  have R:=hd _ (BX hi);simp only[Q32.s0,zcp8];rw[bj (by omega:(i:Int)<(BW u:Int)),ag M,ar i (by omega),B3,ag M,a0];simp only[cond_true,BV];generalize a9:(aa.doubts n)[i]=d at R I ⊢;have y:rec (((i+1:Nat):Int),u)=rec (((i+1:Nat):Int),u.set i d):=by rw[mi I]
  unfold dM;by_cases h1:d.1=f.1
  case neg =>
   rw[show (d.1 != f.1)=true by simpa using h1,show (d.1==f.1)=false by simpa using h1];exact y
  by_cases h2:d.2.1=f.2.1
  case neg =>
   rw[show (d.1 != f.1)=false by simpa using h1,show (d.2.1 != f.2.1)=true by simpa using h2,show (d.2.1==f.2.1)=false by simpa using h2,Dh];exact y
  by_cases h3:f.2.2.1=2
  case neg =>
   rw[show (d.1 != f.1)=false by simpa using h1,show (d.2.1 != f.2.1)=false by simpa using h2,show (f.2.2.1 != 2)=true by simpa using h3,show (f.2.2.1==2)=false by simpa using h3,Dh];exact y
  rw[show (d.1 != f.1)=false by simpa using h1,show (d.2.1 != f.2.1)=false by simpa using h2,show (f.2.2.1 != 2)=false by simpa using h3,show (d.1==f.1)=true by simpa using h1,show (d.2.1==f.2.1)=true by simpa using h2,show (f.2.2.1==2)=true by simpa using h3];simp only[cond_false,Cm,cond_true];have a2:=R.len;have a1:∀ m:Nat,m<=d.2.2.2.length->(∀ j,(J:j<d.2.2.2.length)->j<m->d.2.2.2[j]<b)->(∀ j,(J:j<d.2.2.2.length)->m<=j->b<d.2.2.2[j])->d.2.2.2.take m++[b]++d.2.2.2.drop m=a7 (λx:Int=>x) b d.2.2.2:=λm Y lo hi=>gB (k:=λx:Int=>x) Y lo hi
  have:=cq (step:=λr a=>Q32.s1 K (n,f,b,()) rec r a) d.2.2.2.length (λj=>((i:Int),(j:Int),u,d.1,d.2.1,d.2.2.1,d.2.2.2)) (λj=>∃ h:j<d.2.2.2.length,¬ d.2.2.2[j]<b)
   (rec (((i+1:Nat):Int),u.set i (d.1,d.2.1,d.2.2.1,d.2.2.2.take d.2.2.2.length++[b]++d.2.2.2.drop d.2.2.2.length)))
   (λj=>if h:j<d.2.2.2.length then (if d.2.2.2[j]=b then rec (((i+1:Nat):Int),u) else rec (((i+1:Nat):Int),u.set i (d.1,d.2.1,d.2.2.1,d.2.2.2.take j++[b]++d.2.2.2.drop j))) else none) ?_ ?_ d.2.2.2.length K 0 (by omega) (by omega)
  ·rcases this with ⟨a5,he⟩|⟨j,_,J,⟨Z,ad⟩,a6,he⟩
   ·refine DJ he ?_;rw[a1 _ (CF _) (λj J _=>by
     by_cases O:d.2.2.2[j]<b
     ·exact O
     ·exact absurd ⟨J,O⟩ (a5 j (CL _) J)) (λj J Y=>by omega)]
   ·refine DJ he ?_;rw[dif_pos Z];have lo:∀ m,(Y:m<d.2.2.2.length)->m<j->d.2.2.2[m]<b:=λm Y a3=>by
     by_cases O:d.2.2.2[m]<b
     ·exact O
     ·exact absurd ⟨Y,O⟩ (a6 m (CL _) a3)
    by_cases H:d.2.2.2[j]=b
    ·rw[if_pos H,<- iq (k:=λx:Int=>x) R.1 Z H];rw[show d.2.2.2.set j b=d.2.2.2 from mi (by rw[CB Z,H])];exact y
    ·rw[if_neg H,a1 j (by omega) lo (λm Y a4=>by
      rcases Cd a4 with h4|rfl
      ·have:=ci.1 R.1 j m (by omega) Y h4;omega
      ·omega)]
  ·intro r j J;simp only[Q32.s1];rw[bj (by omega:(j:Int)<(BW d.2.2.2:Int)),ag J,ar j (by omega)];simp only[cond_true,BV];by_cases O:d.2.2.2[j]<b
   ·left;refine⟨λ⟨_,h⟩=>h O,?_⟩;rw[decide_eq_true O];rfl
   ·right;refine⟨⟨J,O⟩,?_⟩;rw[decide_eq_false O,show ((j:Int)==(BW d.2.2.2:Int))=false by simp;omega,dif_pos J];simp only[cond_false];by_cases H:d.2.2.2[j]=b
    ·rw[if_pos H,show (d.2.2.2[j] != b)=false by simpa using H,ar i (by omega)];rfl
    ·rw[if_neg H,show (d.2.2.2[j] != b)=true by simpa using H];simp only[cond_true];refine (th (m:=j) (b:=b) (Nat.le_of_lt J) a2 (λz=>(idx u (i:Int)).bind λ_=>(idx u (BY (i:Int):Nat)).bind λ_=>rec (wr .i64 ((i:Int)+1),u.set (BY (i:Int)) (d.1,(d.2.1,(d.2.2.1,z)))))).trans ?_;rw[B3,ag M,ar i (by omega)];rfl
  ·intro r;simp only[Q32.s1];rw[aP];simp only[cond_false,beq_self_eq_true,cond_true];refine (th (b:=b) (CF _) a2 (λz=>(idx u (i:Int)).bind λ_=>(idx u (BY (i:Int):Nat)).bind λ_=>rec (wr .i64 ((i:Int)+1),u.set (BY (i:Int)) (d.1,(d.2.1,(d.2.2.1,z)))))).trans ?_;rw[B3,ag M,ar i (by omega)];rfl
 ·intro rec u X;simp only[Q32.s0,zcp8];rw[<- X,aP];rfl
theorem yR (K:Nat)(n:aa)(f:af)(h:dt n)(O:aV f)(H:1048577<K):Q31.f K (n,f,())=some ((dH n f,()),()):=by
 simp only[Q31.f,zcp4];have r:=er h.say.table h.has;obtain⟨o,I,M⟩:=fq K (aa.table n) n.1 h.say.lt H;rw[show Q25.f K (n.2.2.2.2.2.2.2.2.1,n.1,())=_ from M];simp only[BV];cases I with
 |no u=>exact absurd h.has (λ⟨g,J,e⟩=>u g J e)
 |at_ j y e =>
  simp only;rw[show idx n.2.2.2.2.2.2.2.2.1 ((j:Nat):Int)=some (aa.table n)[j] from ag y,fb h.say.table.2 (BX y) r.2.2 (by rw[e,r.2.1])];simp only[BV];rw[pS];obtain⟨_,⟨R,X⟩,_⟩:=O;simp only[rb,BV,dH];cases decide (bD f (aR (aa.table n) n.1)) with
  |false=>rfl
  |true =>
   simp only[B6,cond_false,Cj];by_cases z:f.2.1<999
   ·rw[decide_eq_false (by omega:¬ f.2.1>=999),decide_eq_true z,aJ (by omega) (by omega)];simp only[cond_false,cond_true];refine (congrArg (λo=>Cl o _) (pT K (gb n (f.2.1+1)) (n.1,f.2.1+1,1,n.2.2.2.1) n.1 (h.say.inc _) H)).trans ?_;rfl
   ·rw[decide_eq_true (by omega:f.2.1>=999),decide_eq_false z];rfl
theorem u7 (K:Nat)(n:aa)(t:List af)(b:Int)(h:dt n)(I:∀ f∈t,aV f)(J:t.length<=1048576)(H:InP b 0 7)(y:1048577<K):Q33.f K (n,t,b,())=some ((eV n t b,()),()):=by
 refine kK (step:=λrec a=>Q33.s0 K (n,t,b,()) rec a) t (cR b) dt (λm i=>((i:Int),m.1,m.2.1,m.2.2.1,m.2.2.2.1,m.2.2.2.2.1,m.2.2.2.2.2.1,m.2.2.2.2.2.2.1,m.2.2.2.2.2.2.2.1,m.2.2.2.2.2.2.2.2.1,m.2.2.2.2.2.2.2.2.2.1,m.2.2.2.2.2.2.2.2.2.2.1.1,m.2.2.2.2.2.2.2.2.2.2.1.2.1,m.2.2.2.2.2.2.2.2.2.2.1.2.2.1,m.2.2.2.2.2.2.2.2.2.2.1.2.2.2,m.2.2.2.2.2.2.2.2.2.2.2.1,m.2.2.2.2.2.2.2.2.2.2.2.2.1.1,m.2.2.2.2.2.2.2.2.2.2.2.2.1.2.1,m.2.2.2.2.2.2.2.2.2.2.2.2.1.2.2.1,m.2.2.2.2.2.2.2.2.2.2.2.2.1.2.2.2,m.2.2.2.2.2.2.2.2.2.2.2.2.2.1,m.2.2.2.2.2.2.2.2.2.2.2.2.2.2)) (λm=>some ((m,()),())) n h ?_ ?_ (by omega)
 ·intro rec m i z r;have u:=I _ (BX z);refine⟨?_,r.step u H⟩;simp only[Q33.s0,zc286a0,zc3ec45];rw[bj (by omega:(i:Int)<(BW t:Int)),ag z,ar i (by omega)];simp only[cond_true,BV];generalize t[i]=f at u ⊢;unfold cR;cases f.1==m.1 with
  |true =>
   simp only[cond_true];refine (congrArg (λo=>Cl o _) (yR K m f r u y)).trans ?_;rfl
  |false =>
   simp only[cond_false];refine (congrArg (λo=>Cl o _) (pT K m f b r.say y)).trans ?_;simp only[BV];rw[xw K (sayOf m f b) f b (j0 H r.by_) (is r.say u).ld y];rfl
 ·intro rec m r;simp only[Q33.s0,zc286a0,zc3ec45];rw[aP];rfl
def dz {α:Type}(r:α->α->Bool)(x:α):List α->List α->List α
 |[],B=>x::B
 |y::A,B=>bif r x y then dz r x A (y::B) else (y::A).reverse++x::B
def cS {α:Type}(r:α->α->Bool):List α->List α->List α
 |done,[]=>done
 |done,x::u=>cS r (dz r x done.reverse []) u
theorem pg {α:Type}(r:α->α->Bool)(x:α):∀ (A B C:List α),dz r x A (B++C)=dz r x A B++C
 |[],B,C=>rfl
 |y::A,B,C=>by
  simp only[dz];cases r x y with
  |true=>exact pg r x A (y::B) C
  |false=>simp
theorem ph {α:Type}(r:α->α->Bool)(x:α):∀ (A B:List α),(dz r x A B).length=A.length+B.length+1
 |[],B=>by simp[dz]
 |y::A,B=>by
  simp only[dz];cases r x y with
  |true=>simp only[cond_true];rw[ph r x A (y::B)];simp;omega
  |false=>simp;omega
theorem na {α:Type}(r:α->α->Bool)(x:α):∀ (A B:List α),(dz r x A B).Perm (x::(A.reverse++B))
 |[],B=>by simp[dz]
 |y::A,B=>by
  simp only[dz];cases r x y with
  |true=>exact (na r x A (y::B)).trans (by simp)
  |false=>simp only[cond_false];exact DY
theorem mj {α:Type}(r:α->α->Bool):∀ (xs done:List α),(cS r done xs).Perm (done++xs)
 |[],done=>by simp[cS]
 |x::xs,done=>by
  simp only[cS];refine (mj r xs _).trans ?_;have:=na r x done.reverse [];simp only[CO,CA]at this;exact (this.append_right xs).trans (by simpa using (DY (a:=x) (l₁:=done) (l₂:=xs)).symm)
def jM {α:Type}(r:α->α->Bool)(xs:List α):Prop:=xs.Pairwise λa b=>r b a=false
theorem k7 {α:Type}(r:α->α->Bool)(I:∀ a b c,r a b=false->r b c=false->r a c=false)(x:α) :
  ∀ (A B:List α),jM r A.reverse->dz r x A B=(A.reverse.filter λy=>!r x y)++x::((A.reverse.filter λy=>r x y)++B)
 |[],B,_=>rfl
 |y::A,B,h=>by
  simp only[dz];have O:jM r A.reverse:=by
   unfold jM at h ⊢;rw[Ci,Cg]at h;exact h.1
  cases z:r x y with
  |true =>
   simp only[cond_true];rw[k7 r I x A (y::B) O];simp[z,CX]
  |false =>
   have H:∀ a∈A.reverse,r x a=false:=λa u=>by
    unfold jM at h;rw[Ci,Cg]at h;exact I x y a z (h.2.2 a u y (by simp))
   simp only[cond_false];have M:(y::A).reverse.filter (λy=>!r x y)=(y::A).reverse:=CG.2 λa u=>by
    rw[Ci,CW,CS]at u;rcases u with u|rfl
    ·rw[H a u];rfl
    ·rw[z];rfl
   have J:(y::A).reverse.filter (λy=>r x y)=[]:=CK.2 λa u=>by
    rw[Ci,CW,CS]at u;rcases u with u|rfl
    ·rw[H a u];simp
    ·rw[z];simp
   rw[M,J];rfl
theorem vU {α:Type}(r:α->α->Bool)(I:∀ a b c,r a b=false->r b c=false->r a c=false)(u:∀ a b,r a b=true->r b a=false)(x:α)(A:List α)(h:jM r A):jM r (dz r x A.reverse []):=by
 rw[k7 r I x A.reverse [] (by rwa [CO])];unfold jM at h ⊢;simp only[CO,CA];rw[Cg];refine⟨h.filter _,?_,?_⟩
 ·rw[CE];refine⟨λa z=>?_,h.filter _⟩;exact u _ _ (by simpa using (B5.1 z).2)
 ·intro a z b y;have H:r x a=false:=by simpa using (B5.1 z).2
  rcases Ca.1 y with rfl|y
  ·exact H
  ·have J:r x b=true:=by simpa using (B5.1 y).2
   exact I b x a (u _ _ J) H
theorem nc {α:Type}(r:α->α->Bool)(y:∀ a b c,r a b=false->r b c=false->r a c=false)(u:∀ a b,r a b=true->r b a=false):∀ (xs done:List α),jM r done->jM r (cS r done xs)
 |[],done,h=>h
 |x::xs,done,h=>nc r y u xs _ (vU r y u x done h)
theorem oz {α:Type}(O:α->α->Bool):∀ {u H:List α},u.Perm H->jM O u->H.Pairwise (λa b=>O a b=true)->u=H
 |u,[],r,_,_=>r.eq_nil
 |[],z::H,r,_,_=>absurd r.symm.eq_nil (by simp)
 |y::u,z::H,r,I,M=>by
  unfold jM at I;rw[CE]at I M;have e:y=z:=by
   rcases Ca.1 (r.mem_iff.1 (DU ..)) with h|h
   ·exact h
   ·have R:=M.1 y h;rcases Ca.1 (r.symm.mem_iff.1 (DU ..)) with J|J
    ·exact J.symm
    ·rw[I.1 z J]at R;cases R
  subst e;rw[oz O r.cons_inv I.2 M.2]
abbrev SoR (α:Type):=Unit×(List α×Unit)
theorem vV {α R:Type}(z:α->α->Bool)(i:Int)(r:List α×Int->Option R){step:(List α×Int×Int->Option R)->List α×Int×Int->Option R}
  (h:∀ (rec:List α×Int×Int->Option R) (A:List α) (y x:α) (B:List α),A.length+B.length<=1048576->step rec (A++y::x::B,i,((A.length+1:Nat):Int))=bif z x y then rec (A++x::y::B,i,(A.length:Int)) else r (A++y::x::B,wr .i64 (i+1)))
  (O:∀ (rec:List α×Int×Int->Option R) (M:List α),step rec (M,i,0)=r (M,wr .i64 (i+1))) :
  ∀ (A B:List α) (x:α) (k:Nat),A.length+B.length<=1048576->A.length<k->ae step k (A.reverse++x::B,i,(A.length:Int))=r (dz z x A B,wr .i64 (i+1)):=by
 intro A;induction A with
 |nil =>
  intro B x k I u;obtain⟨k,rfl⟩:∃ H,k=H+1:=⟨k-1,by simp at u;omega⟩;exact O (ae step k) (x::B)
 |cons y A X =>
  intro B x k I u;simp only[B4]at u I;obtain⟨k,rfl⟩:∃ H,k=H+1:=⟨k-1,by omega⟩;have J:=h (ae step k) A.reverse y x B (by simp;omega);simp only[Cy]at J;show step (ae step k) _=_;rw[Ci,CZ];simp only[B4,DZ,CC,dz];rw[J];cases z x y with
  |true=>exact X (y::B) x k (by simp;omega) (by omega)
  |false=>simp
theorem uw {α:Type}(r:α->α->Bool){step:(List α×Int->Option (SoR α))->List α×Int->Option (SoR α)}(n:Nat)(O:n<=1048576)
  (h:∀ (rec:List α×Int->Option (SoR α)) (done:List α) (x:α) (xs:List α),done.length+1+xs.length=n->step rec (done++x::xs,(done.length:Int))=rec (dz r x done.reverse xs,wr .i64 ((done.length:Int)+1)))
  (J:∀ (rec:List α×Int->Option (SoR α)) (I:List α) (i:Int),(n:Int)<=i->step rec (I,i)=some ((),(I,()))) :
  ∀ (xs done:List α) (k:Nat),done.length+xs.length=n->xs.length<k->ae step k (done++xs,(done.length:Int))=some ((),(cS r done xs,())):=by
 intro xs;induction xs with
 |nil =>
  intro done k u H;obtain⟨k,rfl⟩:∃ y,k=y+1:=⟨k-1,by omega⟩;show step (ae step k) _=_;rw[J _ _ _ (by simp at u;omega)];simp[cS]
 |cons x xs M =>
  intro done k u H;simp only[B4]at H u;obtain⟨k,rfl⟩:∃ y,k=y+1:=⟨k-1,by omega⟩;show step (ae step k) _=_;rw[h _ _ _ _ (by omega),ar _ (by omega)];have e:dz r x done.reverse xs=dz r x done.reverse []++xs:=pg r x done.reverse [] xs;have z:(dz r x done.reverse []).length=done.length+1:=by rw[ph];simp
  rw[e,<- z];exact M _ k (by rw[z];omega) (by omega)
theorem yS {α:Type}(u:α->α->Bool){step:(List α×Int->Option (SoR α))->List α×Int->Option (SoR α)}(xs:List α)(J:xs.length<=1048576)
  (h:∀ (rec:List α×Int->Option (SoR α)) (done:List α) (x:α) (r:List α),done.length+1+r.length=xs.length->step rec (done++x::r,(done.length:Int))=rec (dz u x done.reverse r,wr .i64 ((done.length:Int)+1)))
  (y:∀ (rec:List α×Int->Option (SoR α)) (z:List α) (i:Int),(xs.length:Int)<=i->step rec (z,i)=some ((),(z,()))) {k:Nat} (H:xs.length<k) :
  ae step k (xs,1)=some ((),(cS u [] xs,())):=by
 cases xs with
 |nil =>
  obtain⟨k,rfl⟩:∃ I,k=I+1:=⟨k-1,by simp at H;omega⟩;exact y (ae step k) [] 1 (by simp)
 |cons x xs =>
  simp only[B4]at H;have:=uw u (xs.length+1) (by simpa using J) h y xs [x] k (by simp;omega) (by omega);exact this
theorem u9 {α:Type}(A B:List α)(x:α):idx (A++x::B) (A.length:Int)=some x:=by
 rw[qB];simp
theorem tj {α:Type}(A B:List α)(y x:α):idx (A++y::x::B) ((A.length+1:Nat):Int)=some x:=by
 rw[qB];simp[List.getElem?_append_right]
theorem va {α:Type}(A B:List α)(x v:α):(A++x::B).set A.length v=A++v::B:=by simp
theorem tk {α:Type}(A B:List α)(y x v:α):(A++y::x::B).set (A.length+1) v=A++y::v::B:=by
 simp[DQ]
theorem ux {α R:Type}(P:α->Prop)(H:α->α->Bool)(i:Int)(r:List α×Int->Option R){step:(List α×Int×Int->Option R)->List α×Int×Int->Option R}
  (h:∀ (rec:List α×Int×Int->Option R) (A:List α) (y x:α) (B:List α),P y->P x->A.length+B.length<=1048576->step rec (A++y::x::B,i,((A.length+1:Nat):Int))=bif H x y then rec (A++x::y::B,i,(A.length:Int)) else r (A++y::x::B,wr .i64 (i+1)))
  (h0:∀ (rec:List α×Int×Int->Option R) (Y:List α),step rec (Y,i,0)=r (Y,wr .i64 (i+1))) :
  ∀ (A B:List α) (x:α) (k:Nat),(∀ y∈A,P y)->P x->A.length+B.length<=1048576->A.length<k->ae step k (A.reverse++x::B,i,(A.length:Int))=r (dz H x A B,wr .i64 (i+1)):=by
 intro A;induction A with
 |nil =>
  intro B x k M I O u;obtain⟨k,rfl⟩:∃ J,k=J+1:=⟨k-1,by simp at u;omega⟩;exact h0 (ae step k) (x::B)
 |cons y A ih =>
  intro B x k M I O u;simp only[B4]at u O;obtain⟨k,rfl⟩:∃ J,k=J+1:=⟨k-1,by omega⟩;have X:=h (ae step k) A.reverse y x B (M y (by simp)) I (by simp;omega);simp only[Cy]at X;show step (ae step k) _=_;rw[Ci,CZ];simp only[B4,DZ,CC,dz];rw[X];cases H x y with
  |true=>exact ih (y::B) x k (λz Z=>M z (by simp[Z])) I (by simp;omega) (by omega)
  |false=>simp
theorem tm {α:Type}(P:α->Prop)(r:α->α->Bool){step:(List α×Int->Option (SoR α))->List α×Int->Option (SoR α)}(n:Nat)(hn:n<=1048576)
  (h:∀ (rec:List α×Int->Option (SoR α)) (done:List α) (x:α) (xs:List α),(∀ y∈done,P y)->P x->done.length+1+xs.length=n->step rec (done++x::xs,(done.length:Int))=rec (dz r x done.reverse xs,wr .i64 ((done.length:Int)+1)))
  (Z:∀ (rec:List α×Int->Option (SoR α)) (Y:List α) (i:Int),(n:Int)<=i->step rec (Y,i)=some ((),(Y,()))) :
  ∀ (xs done:List α) (k:Nat),(∀ y∈done,P y)->(∀ y∈xs,P y)->done.length+xs.length=n->xs.length<k->ae step k (done++xs,(done.length:Int))=some ((),(cS r done xs,())):=by
 intro xs;induction xs with
 |nil =>
  intro done k O H J X;obtain⟨k,rfl⟩:∃ M,k=M+1:=⟨k-1,by omega⟩;show step (ae step k) _=_;rw[Z _ _ _ (by simp at J;omega)];simp[cS]
 |cons x xs ih =>
  intro done k O H J X;simp only[B4]at X J;obtain⟨k,rfl⟩:∃ M,k=M+1:=⟨k-1,by omega⟩;show step (ae step k) _=_;rw[h _ _ _ _ O (H x (by simp)) (by omega),ar _ (by omega)];have e:dz r x done.reverse xs=dz r x done.reverse []++xs:=pg r x done.reverse [] xs;have R:(dz r x done.reverse []).length=done.length+1:=by rw[ph];simp
  rw[e,<- R];refine ih _ k (λz I=>?_) (λz I=>H z (by simp[I])) (by rw[R];omega) (by omega);have u:=(na r x done.reverse []).mem_iff.1 I;simp only[CO,CA,Ca]at u;rcases u with rfl|u
  ·exact H z (by simp)
  ·exact O z u
theorem xx {α:Type}(P:α->Prop)(z:α->α->Bool){step:(List α×Int->Option (SoR α))->List α×Int->Option (SoR α)}(xs:List α)(H:∀ y∈xs,P y)(R:xs.length<=1048576)
  (h:∀ (rec:List α×Int->Option (SoR α)) (done:List α) (x:α) (r:List α),(∀ y∈done,P y)->P x->done.length+1+r.length=xs.length->step rec (done++x::r,(done.length:Int))=rec (dz z x done.reverse r,wr .i64 ((done.length:Int)+1)))
  (J:∀ (rec:List α×Int->Option (SoR α)) (M:List α) (i:Int),(xs.length:Int)<=i->step rec (M,i)=some ((),(M,()))) {k:Nat} (I:xs.length<k) :
  ae step k (xs,1)=some ((),(cS z [] xs,())):=by
 cases xs with
 |nil =>
  obtain⟨k,rfl⟩:∃ O,k=O+1:=⟨k-1,by simp at I;omega⟩;exact J (ae step k) [] 1 (by simp)
 |cons x xs =>
  simp only[B4]at I;have:=tm P z (xs.length+1) (by simpa using R) h J xs [x] k (λy u=>H y (by simpa using .inl (by simpa using u))) (λy u=>H y (by simp[u])) (by simp;omega) (by omega);exact this
def ltZ (a b:Int):Bool:=decide (a<b)
theorem Bl (K:Nat)(a b:Int):Q178.f K (a,b,())=some ((ltZ a b,()),()):=by
 simp only[Q178.f,Q135.f,ltZ];simp
theorem yT (K:Nat)(xs:List Int)(H:Int×Int×Unit->Option Int)(I:Int->Int->Bool)(P:Int->Prop)(X:∀ y∈xs,P y)(hφ:∀ y z,P y->P z->∃ c,H (y,z,())=some c/\decide (c<0)=I y z)(hx:xs.length<=1048576)(hK:1048577<K) :
  Q190.f K (xs,0,(xs.length:Int),H,())=some ((),(cS I [] xs,())):=by
 refine xx P (step:=λrec a=>Q190.s0 K (xs,0,(xs.length:Int),H,()) (Q190.l1 K (xs,0,(xs.length:Int),H,()) rec) rec a) I xs X hx ?_ ?_ (by omega)
 ·intro rec done x r O J hl;simp only[Q190.s0];rw[decide_eq_true (by omega:((done.length:Int))<(xs.length:Int))];simp only[cond_true];have:=ux P I (done.length:Int) rec (step:=λu a=>Q190.s1 K (xs,0,(xs.length:Int),H,()) rec u a) ?_ ?_ done.reverse r x K (λy M=>O y (by simpa using M)) J (by simp;omega) (by simp;omega)
  ·rw[CO,Cy]at this;exact this
  ·intro u A y z B M Y Z;simp only[Q190.s1];have R:wr .i64 (((A.length+1:Nat):Int)-1)=(A.length:Int):=(aJ (by omega) (by omega)).trans (by omega);rw[decide_eq_true (by omega:((A.length+1:Nat):Int)>0)];obtain⟨c,hc,O⟩:=hφ z y Y M;simp only[cond_true,R,B3,tj,u9,BV,hc,O,tk,va]
  ·intro u ys;simp only[Q190.s1];rw[decide_eq_false (by omega:¬ (0:Int)>0)];rfl
 ·intro rec ys i hi;simp only[Q190.s0];rw[decide_eq_false (by omega:¬ i<(xs.length:Int))];rfl
theorem yU (K:Nat)(xs:List Int)(u:Int×Int×Unit->Option Int)(H:Int->Int->Bool)(P:Int->Prop)(I:∀ y∈xs,P y)(hφ:∀ y z,P y->P z->∃ c,u (y,z,())=some c/\decide (c<0)=H y z)(R:xs.length<=19)(O:1048577<K) :
  Q192.f K (xs,u,())=some ((),(cS H [] xs,())):=by
 simp only[Q192.f];have:Q191.f K (xs,(xs.length:Int),u,())=some ((),(cS H [] xs,())):=by
  obtain⟨k,rfl⟩:∃ J,K=J+1:=⟨K-1,by omega⟩;show Q191.s0 _ _ _ _ _=_;simp only[Q191.s0];rw[decide_eq_false (by omega:¬ (20:Int)<=(xs.length:Int))];simp only[cond_false];rw[yT (k+1) xs u H P I hφ (by omega) O];simp only[BV];have M:∀ (r:Q191.A1->Option Q191.Res),Q191.s1 (k+1) (xs,(xs.length:Int),u,()) (Q191.l2 (k+1) (xs,(xs.length:Int),u,()) r) r (cS H [] xs,20)=some ((),(cS H [] xs,())):=by
   intro r;simp only[Q191.s1];rw[decide_eq_false (by omega:¬ (20:Int)<(xs.length:Int))];rfl
  exact M _
 rw[this];rfl
theorem yV (K:Nat)(xs:List Int)(J:xs.length<=1048576)(X:1048577<K) :
  Q194.f K (xs,0,(xs.length:Int),())=some ((),(cS ltZ [] xs,())):=by
 refine yS (step:=λrec a=>Q194.s0 K (xs,0,(xs.length:Int),()) (Q194.l1 K (xs,0,(xs.length:Int),()) rec) rec a) ltZ xs J ?_ ?_ (by omega)
 ·intro rec done x r O;simp only[Q194.s0];rw[decide_eq_true (by omega:((done.length:Int))<(xs.length:Int))];simp only[cond_true];have:=vV ltZ (done.length:Int) rec (step:=λu a=>Q194.s1 K (xs,0,(xs.length:Int),()) rec u a) ?_ ?_ done.reverse r x K (by simp;omega) (by simp;omega)
  ·rw[CO,Cy]at this;exact this
  ·intro u A y z B I;simp only[Q194.s1];have H:wr .i64 (((A.length+1:Nat):Int)-1)=(A.length:Int):=(aJ (by omega) (by omega)).trans (by omega);rw[decide_eq_true (by omega:((A.length+1:Nat):Int)>0)];simp only[cond_true,H,B3,tj,u9,BV,tk,va];rw[show Q178.f K (z,y,())=_ from Bl K z y];rfl
  ·intro u M;simp only[Q194.s1];rw[decide_eq_false (by omega:¬ (0:Int)>0)];rfl
 ·intro rec M i R;simp only[Q194.s0];rw[decide_eq_false (by omega:¬ i<(xs.length:Int))];rfl
theorem yW (K:Nat)(xs:List Int)(u:xs.length<=12)(H:1048577<K) :
  Q202.f K (xs,())=some ((),(cS ltZ [] xs,())):=by
 simp only[Q202.f,Q201.f];obtain⟨l,r⟩:∃ l:Int,Q200.f K (wr .u64 (xs.length:Int),())=some ((l,()),()):=by
  have e:wr .u64 (xs.length:Int)=(xs.length:Int):=by
   show IntKind.u64.wrap _=_;have I:IntKind.u64.wrap (xs.length:Int)=(xs.length:Int) % 18446744073709551616:=by simp[IntKind.wrap,IntKind.bits,IntKind.signed]
   rw[I];omega
  rw[e];generalize J:xs.length=n at u;have:n=0\/n=1\/n=2\/n=3\/n=4\/n=5\/n=6\/n=7\/n=8\/n=9\/n=10\/n=11\/n=12:=by omega
  rcases this with rfl|rfl|rfl|rfl|rfl|rfl|rfl|rfl|rfl|rfl|rfl|rfl|rfl
  ·exact⟨0,by kernel_rfl⟩
  ·exact⟨1,by kernel_rfl⟩
  ·exact⟨2,by kernel_rfl⟩
  ·exact⟨2,by kernel_rfl⟩
  ·exact⟨3,by kernel_rfl⟩
  ·exact⟨3,by kernel_rfl⟩
  ·exact⟨3,by kernel_rfl⟩
  ·exact⟨3,by kernel_rfl⟩
  ·exact⟨4,by kernel_rfl⟩
  ·exact⟨4,by kernel_rfl⟩
  ·exact⟨4,by kernel_rfl⟩
  ·exact⟨4,by kernel_rfl⟩
  ·exact⟨4,by kernel_rfl⟩
 rw[r];simp only[BV];have:Q199.f K (xs,0,(xs.length:Int),l,())=some ((),(cS ltZ [] xs,())):=by
  obtain⟨k,rfl⟩:∃ y,K=y+1:=⟨K-1,by omega⟩;have z:∀ (rec:Q199.A0->Option Q199.Res) (a:Q199.A0),Q199.s0 (k+1) (xs,0,(xs.length:Int),l,()) rec a=some ((),(cS ltZ [] xs,())):=by
   intro rec a;simp only[Q199.s0];have e:wr .i64 ((xs.length:Int)-0)=(xs.length:Int):=(aJ (by omega) (by omega)).trans (by omega);rw[e,decide_eq_true (by omega:(xs.length:Int)<=12)];simp only[cond_true];rw[yV (k+1) xs (by omega) H];rfl
  exact z (λ_=>none) ()
 rw[this];rfl
def d8 (l:List aL)(i:Int):Int:=((l[i.toNat]?).map (·.2)).getD 0
def ltL (l:List aL)(a b:Int):Bool:=decide (d8 l b<d8 l a)
def lt2 (l:List aL)(a b:Int):Prop:=d8 l b<d8 l a\/(d8 l a=d8 l b/\a<b)
def cz (n:Nat):List Int:=(List.range n).map λ (i:Nat)=>(i:Int)
def bA (l:List aL):List Int:=cS (ltL l) [] (cz l.length)
theorem iu {n:Nat}{i:Int}:i∈cz n<->0<=i/\i<n:=by
 unfold cz;rw[CM];constructor
 ·rintro⟨j,hj,rfl⟩;have:=Di.1 hj;omega
 ·rintro⟨h0,h1⟩;exact⟨i.toNat,Di.2 (by omega),by omega⟩
theorem jh (n:Nat):(cz n).Pairwise (·<·):=by
 unfold cz;rw[CQ];exact List.pairwise_lt_range.imp λh=>by omega
theorem dN {l:List aL}{i:Nat}(h:i<l.length):d8 l (i:Int)=l[i].2:=by
 unfold d8;rw[B3,CB h];rfl
theorem tn (l:List aL):∀ (xs done:List Int),done.Pairwise (lt2 l)->(∀ a∈done,∀ b∈xs,a<b)->xs.Pairwise (·<·)->(cS (ltL l) done xs).Pairwise (lt2 l)
 |[],done,h,_,_=>h
 |x::xs,done,h,H,R=>by
  have z:=CE.1 R;have O:jM (ltL l) done:=h.imp λ {a b} J=>by
   unfold ltL;rw[decide_eq_false_iff_not];rcases J with y|⟨y,_⟩ <;> omega
  have e:=k7 (ltL l) (λa b c y I=>by
   unfold ltL at y I ⊢;rw[decide_eq_false_iff_not]at y I ⊢;omega) x done.reverse [] (by rw[CO];exact O)
  rw[CO,CA]at e;simp only[cS];rw[e];refine tn l xs _ ?_ ?_ z.2
  ·rw[Cg,CE];refine⟨h.filter _,⟨λb u=>?_,h.filter _⟩,λa r b u=>?_⟩
   ·have y:ltL l x b=true:=by simpa using (B5.1 u).2
    exact .inl (by simpa[ltL]using y)
   ·have y:ltL l x a=false:=by simpa using (B5.1 r).2
    have X:¬ d8 l a<d8 l x:=by simpa[ltL]using y
    have M:=H a (B5.1 r).1 x (by simp);rcases Ca.1 u with rfl|u
    ·by_cases I:d8 l b<d8 l a
     ·exact .inl I
     ·exact .inr ⟨by omega,M⟩
    ·have I:ltL l x b=true:=by simpa using (B5.1 u).2
     have Y:d8 l b<d8 l x:=by simpa[ltL]using I
     exact .inl (by omega)
  ·intro a r b u;rcases CW.1 r with r|r
   ·exact H a (B5.1 r).1 b (by simp[u])
   ·rcases Ca.1 r with rfl|r
    ·exact z.1 b u
    ·exact H a (B5.1 r).1 b (by simp[u])
theorem pX (l:List aL):(bA l).Pairwise (lt2 l):=tn l _ [] List.Pairwise.nil (by simp) (jh _)
theorem ml (l:List aL):(bA l).Perm (cz l.length):=by
 unfold bA;simpa using mj (ltL l) (cz l.length) []
theorem iL {l:List aL}{i:Int}:i∈bA l<->0<=i/\i<l.length:=by rw[(ml l).mem_iff,iu]
theorem xy (l:List aL):(bA l).length=l.length:=by rw[(ml l).length_eq];simp[cz]
theorem uy (l:List aL):(bA l).Nodup:=(ml l).nodup_iff.2 ((jh _).imp λh=>by omega)
def dm (T:List Int)(n:Nat):List Bool:=(cz n).map λi=>decide (i∈T)
theorem e9 (T:List Int)(n:Nat):(dm T n).length=n:=by simp[dm,cz]
theorem iM (T:List Int){n i:Nat}(h:i<n):(dm T n)[i]'(by rw[e9];exact h)=decide ((i:Int)∈T):=by
 simp[dm,cz]
theorem xz {T:List Int}{n b:Nat}(u:b<n):(dm T n).set b true=dm (T++[(b:Int)]) n:=by
 refine Cv (by rw[DP,e9,e9]) λi y r=>?_
 rw[e9]at r;rw[Da,iM _ r];by_cases h:b=i
 ·subst h;rw[if_pos rfl,iM _ r];simp
 ·rw[if_neg h,iM _ r];have:¬ (i:Int)=(b:Int):=by omega
  simp[this]
def pY (l:List aL)(T:List Int)(i:Nat)(r:Int):Prop :=
 (r=-1/\∀ j:Nat,j<i->(j:Int)∈T)\/(0<=r/\r<i/\r∉T/\∀ j:Nat,j<i->(j:Int)∉T->(j:Int)≠r->lt2 l r (j:Int))
theorem An (K:Nat)(l:List aL)(T:List Int)(hl:l.length<=1048576):∀ (d i k:Nat) (r:Int),i+d=l.length->d<k->pY l T i r ->
  ∃ b:Int,ae (λrec a=>Q41.s0 K (l,dm T l.length,()) rec a) k (r,(i:Int))=some ((b,()),())/\pY l T l.length b:=by
 intro d;induction d with
 |zero =>
  intro i k r hi hk Z;obtain⟨k,rfl⟩:∃ k',k=k'+1:=⟨k-1,by omega⟩;have:i=l.length:=by omega
  subst this;refine⟨r,?_,Z⟩;show Q41.s0 K (l,dm T l.length,()) _ _=_;simp only[Q41.s0,aP];rfl
 |succ d ih =>
  intro i k r hi hk Z;obtain⟨k,rfl⟩:∃ k',k=k'+1:=⟨k-1,by omega⟩;have z:i<l.length:=by omega
  have H:∀ r,pY l T (i+1) r->∃ b:Int,ae (λrec a=>Q41.s0 K (l,dm T l.length,()) rec a) k (r,((i+1:Nat):Int))=some ((b,()),())/\pY l T l.length b:=λr h=>ih (i+1) k r (by omega) (by omega) h
  show ∃ b:Int,Q41.s0 K (l,dm T l.length,()) (ae (λrec a=>Q41.s0 K (l,dm T l.length,()) rec a) k) (r,(i:Int))=_/\_;generalize ae (λrec a=>Q41.s0 K (l,dm T l.length,()) rec a) k=REC at H ⊢;simp only[Q41.s0];rw[bj (by omega:(i:Int)<(BW l:Int)),ag (show i<(dm T l.length).length by rw[e9];exact z),iM T z,ar i (by omega)];simp only[cond_true,BV];by_cases O:(i:Int)∈T
  ·rw[decide_eq_true O];simp only[B6,cond_false];refine H r ?_;rcases Z with ⟨rfl,h⟩|⟨h0,h1,h2,Y⟩
   ·refine .inl ⟨rfl,λj X=>?_⟩;by_cases y:j=i
    ·subst y;exact O
    ·exact h j (by omega)
   ·refine .inr ⟨h0,by omega,h2,λj X u I=>?_⟩;by_cases y:j=i
    ·subst y;exact absurd O u
    ·exact Y j (by omega) u I
  ·rw[decide_eq_false O];simp only[CR,cond_true];rcases Z with ⟨rfl,h⟩|⟨h0,h1,h2,Y⟩
   ·rw[show decide ((-1:Int)<0)=true from rfl];refine H (i:Int) (.inr ⟨by omega,by omega,O,λj X u I=>?_⟩);exact absurd (h j (by omega)) u
   ·rw[decide_eq_false (by omega:¬ r<0)];obtain⟨b,rfl⟩:=BZ h0;have J:b<l.length:=by omega
    simp only[cond_false];rw[ag z,ag J];simp only[BV];by_cases M:l[i].2>l[b].2
    ·rw[decide_eq_true M];refine H (i:Int) (.inr ⟨by omega,by omega,O,λj X u I=>?_⟩);have y:j<i:=by omega
     have a1:j<l.length:=by omega
     by_cases R:(j:Int)=(b:Int)
     ·rw[R];exact .inl (by rw[dN z,dN J];exact M)
     ·have:=Y j y u R;rcases this with h4|⟨h4,_⟩
      ·exact .inl (by rw[dN J]at h4;rw[dN z];omega)
      ·exact .inl (by rw[dN J]at h4;rw[dN z];omega)
    ·rw[decide_eq_false M];refine H (b:Int) (.inr ⟨by omega,by omega,h2,λj X u I=>?_⟩);by_cases y:j=i
     ·subst y;by_cases a0:d8 l (b:Int)=d8 l (j:Int)
      ·exact .inr ⟨a0,h1⟩
      ·refine .inl ?_;rw[dN z,dN J]at *;omega
     ·exact Y j (by omega) u I
theorem Bm (K:Nat)(l:List aL)(n:Nat)(hl:l.length<=1048576)(hK:1048577<K):Q41.f K (l,dm ((bA l).take n) l.length,())=some ((((bA l)[n]?).getD (-1),()),()):=by
  obtain⟨b,e,hb⟩:=An K l ((bA l).take n) hl l.length 0 K (-1) (by omega) (by omega) (.inl ⟨rfl,λj z=>by omega⟩);have:b=((bA l)[n]?).getD (-1):=by
    by_cases I:n<(bA l).length
    · rw[CB I]
      show b=(bA l)[n];have Z:(bA l)[n]∉(bA l).take n:=λh=>by
        obtain⟨j,z,e⟩:=B7 h;rw[CJ]at z;rw[C0]at e;have:=Cf.1 (pX l) j n (by omega) I (by omega);rw[e]at this;rcases this with u|⟨_,u⟩ <;> omega
      have hr:=iL.1 (BX I);obtain⟨m,r⟩:=BZ hr.1;rcases hb with ⟨rfl,h⟩|⟨X,O,y,h3⟩
      · have:=h m (by omega)
        rw[<- r]at this;exact absurd this Z
      · by_cases Y:b=(bA l)[n]
        · exact Y
        · exfalso
          have H:=h3 m (by omega) (by rw[<- r];exact Z) (by rw[<- r];exact λh=>Y h.symm);rw[<- r]at H;have R:b∈bA l:=iL.2 ⟨X,O⟩;obtain⟨j,z,J⟩:=B7 R;have M:n<j:=by
            rcases DE j n with h|h|h
            · exact absurd (List.mem_take_iff_getElem.2 ⟨j,by omega,J⟩) y
            · subst h;exact absurd J.symm Y
            · exact h
          have u:=Cf.1 (pX l) n j I z M;rw[J]at u;rcases H with H|⟨H,h6⟩ <;> rcases u with u|⟨u,h7⟩ <;> omega
    · rw[Cn (by omega)]
      show b=-1;rcases hb with ⟨rfl,_⟩|⟨X,O,y,_⟩
      · rfl
      · exfalso
        rw[CU (by omega)]at y;exact y (iL.2 ⟨X,O⟩)
  rw[<- this];exact e
def bZ (l:List aL):List Int:=(bA l).take 3
def gC (l:List aL)(i:Int):aL:=(l[i.toNat]?).getD ((0,0,0,false),0)
def dO (l:List aL)(T:List Int)(i:Int):aL:=bif decide (i∈T) then ((gC l i).1,(gC l i).2-1) else gC l i
def ek (l:List aL)(T:List Int)(n:Nat):List af:=((cz n).filter λi=>decide (i∈T)).map λi=>(gC l i).1
def ge (l:List aL)(T:List Int)(n:Nat):List aL:=(cz n).map (dO l T)
def dC (l:List aL)(T:List Int)(n:Nat):List aL:=(ge l T n).filter λx=>decide (x.2>0)
theorem ct {l:List aL}{i:Nat}(h:i<l.length):gC l (i:Int)=l[i]:=by
 unfold gC;rw[B3,CB h];rfl
theorem nd (n:Nat):cz (n+1)=cz n++[(n:Int)]:=by
 unfold cz;rw[List.range_succ,DB];rfl
theorem vW (l:List aL)(T:List Int)(n:Nat):ek l T (n+1)=ek l T n++(bif decide ((n:Int)∈T) then [(gC l (n:Int)).1] else []):=by
 unfold ek;rw[nd,CX,DB,CI];cases decide ((n:Int)∈T) <;> rfl
theorem vX (l:List aL)(T:List Int)(n:Nat):dC l T (n+1)=dC l T n++(bif decide ((dO l T (n:Int)).2>0) then [dO l T (n:Int)] else []):=by
 unfold dC ge;rw[nd,DB,CX,DG,CI];cases decide ((dO l T (n:Int)).2>0) <;> rfl
theorem xA (l:List aL)(T:List Int)(n:Nat):(ek l T n).length<=n:=by
 unfold ek;rw[CH];refine CP (Ce _ _) ?_;simp[cz]
theorem xB (l:List aL)(T:List Int)(n:Nat):(dC l T n).length<=n:=by
 unfold dC;refine CP (Ce _ _) ?_;simp[ge,cz]
theorem Ao (K:Nat)(l:List aL)(m:Int)(T:List Int)(M:l.length<=1048576)(H:cQ l)(R:1048577<K) :
  Q42.l1 K (l,m,()) (dm T l.length,[],[],0)=some ((ek l T l.length,dC l T l.length,()),()):=by
 refine dS (step:=λrec a=>Q42.s1 K (l,m,()) rec a) l.length (λi=>(dm T l.length,ek l T i,dC l T i,(i:Int))) (some ((ek l T l.length,dC l T l.length,()),())) ?_ ?_ (by omega)
 ·intro rec i r;simp only[Q42.s1];have u:i<(dm T l.length).length:=by rw[e9];exact r
  have O:=xA l T i;have I:=xB l T i;obtain⟨X,J⟩:=(H.1 l[i] (BX r)).2;rw[bj (by omega:(i:Int)<(BW l:Int)),ag r,ag u,ar i (by omega),B3,ag u,iM T r,vW,vX,ct r];simp only[cond_true,BV];cases z:decide ((i:Int)∈T) with
  |true =>
   have y:dO l T (i:Int)=(l[i].1,l[i].2-1):=by unfold dO;rw[z,ct r];rfl
   rw[y];simp only[cond_true];rw[szb _ _ _ (by omega) (by simp;omega),aJ (n:=l[i].2-1) (by omega) (by omega)];simp only[cond_true];cases decide (l[i].2-1>0) with
   |true =>
    simp only[cond_true];rw[szb _ _ _ (by omega) (by simp;omega)];rfl
   |false =>
    simp only[cond_false,CA]
  |false =>
   have y:dO l T (i:Int)=l[i]:=by unfold dO;rw[z,ct r];rfl
   rw[y];simp only[cond_false,CA];cases decide (l[i].2>0) with
   |true =>
    simp only[cond_true];rw[szb _ _ _ (by omega) (by simp;omega)];rfl
   |false =>
    simp only[cond_false,CA]
 ·intro rec;simp only[Q42.s1,aP];rfl
theorem Bn (K:Nat)(l:List aL)(M:l.length<=1048576)(hC:cQ l)(X:1048577<K):Q42.f K (l,3,())=some ((ek l (bZ l) l.length,dC l (bZ l) l.length,()),()):=by
 have r:∀ T,Q42.l1 K (l,3,()) (dm T l.length,[],[],0)=some ((ek l T l.length,dC l T l.length,()),()):=λT=>Ao K l 3 T M hC X
 have Z:∀ (d n k:Nat),n+d=3->d<k->ae (λrec a=>Q42.s0 K (l,3,()) (Q42.l1 K (l,3,())) rec a) k (dm ((bA l).take n) l.length,(n:Int))=some ((ek l (bZ l) l.length,dC l (bZ l) l.length,()),()):=by
  intro d;induction d with
  |zero =>
   intro n k hn Y;obtain⟨k,rfl⟩:∃ I,k=I+1:=⟨k-1,by omega⟩;have:n=3:=by omega
   subst this;exact r _
  |succ d ih =>
   intro n k hn Y;obtain⟨k,rfl⟩:∃ I,k=I+1:=⟨k-1,by omega⟩;have y:=ih (n+1) k (by omega) (by omega);show Q42.s0 K (l,3,()) (Q42.l1 K (l,3,())) (ae (λrec a=>Q42.s0 K (l,3,()) (Q42.l1 K (l,3,())) rec a) k) (dm ((bA l).take n) l.length,(n:Int))=_;generalize ae (λrec a=>Q42.s0 K (l,3,()) (Q42.l1 K (l,3,())) rec a) k=REC at y ⊢;simp only[Q42.s0];rw[decide_eq_true (by omega:(n:Int)<3),Bm K l n M X,ar n (by omega)];simp only[cond_true,BV];by_cases u:n<(bA l).length
   ·rw[CB u];have O:=iL.1 (BX u);have H:(bA l).take (n+1)=(bA l).take n++[(bA l)[n]]:=Ch u;rw[H]at y;simp only[Db];generalize (bA l)[n]=v at O y ⊢;obtain⟨b,rfl⟩:=BZ O.1;have R:b<l.length:=by omega
    have z:b<(dm ((bA l).take n) l.length).length:=by rw[e9];exact R
    rw[decide_eq_false (by omega:¬ (b:Int)<0),ag z,B3,ag z,xz R];exact y
   ·rw[Cn (by omega)];show Q42.l1 K (l,3,()) (dm ((bA l).take n) l.length,[],[],0)=_;rw[r,show (bA l).take n=bZ l by unfold bZ;rw[CU (by omega),CU (by omega)]]
 simp only[Q42.f,Q42.pre];rw[decide_eq_true (by omega:(0:Int)<=(BW l:Int)),show decide ((BW l:Int)*(1:Nat)<=an)=true from decide_eq_true (by simp only[an];omega),B3];simp only[decide_true,Cm,cond_true];have h0:Ct l.length false=dm ((bA l).take 0) l.length:=by
  refine Cv (by rw[C8,e9]) λi h1 J=>?_
  rw[e9]at J;rw[List.getElem_replicate,iM _ J];simp
 have:=Z 3 0 K (by omega) (by omega);rw[<- h0]at this;exact this
theorem sf {a b:List Int}(u:a.Nodup)(r:b.Nodup)(h:∀ x,x∈a<->x∈b):a.Perm b:=by
 rw[List.perm_iff_count];intro x;rw[u.count,r.count];simp[h]
def cX (l:List aL):List Int:=(cz l.length).filter λi=>decide (i∈bZ l)
theorem uz (l:List aL):cS ltZ [] (bZ l)=cX l:=by
 have u:(bZ l).Nodup:=(uy l).sublist (List.take_sublist _ _);have r:((cz l.length).filter λi=>decide (i∈bZ l)).Nodup:=((jh l.length).imp (λh=>by omega:∀ {a b:Int},a<b->a≠b)).filter _;refine oz ltZ ?_ (nc ltZ (λa b c u r=>by
  unfold ltZ at u r ⊢;rw[decide_eq_false_iff_not]at u r ⊢;omega) (λa b h=>by
  unfold ltZ at h ⊢;rw[decide_eq_true_eq]at h;rw[decide_eq_false_iff_not];omega) (bZ l) [] List.Pairwise.nil) ?_
 ·refine (by simpa using mj ltZ (bZ l) []:(cS ltZ [] (bZ l)).Perm (bZ l)).trans (sf u r λx=>?_);rw[cX,B5,decide_eq_true_eq,iu];exact⟨λh=>⟨iL.1 (DR h),h⟩,λh=>h.2⟩
 ·exact ((jh l.length).filter _).imp λh=>by unfold ltZ;exact decide_eq_true h
theorem xC {l:List aL}{i:Int}:i∈cX l<->i∈bZ l:=by
 unfold cX;rw[B5,decide_eq_true_eq,iu];exact⟨λh=>h.2,λh=>⟨iL.1 (DR h),h⟩⟩
theorem xD (l:List aL):(cX l).Pairwise (·<·):=(jh l.length).filter _
theorem eH (l:List aL)(T:List Int)(n:Nat):(ge l T n).length=n:=by simp[ge,cz]
theorem fe (l:List aL)(T:List Int){n i:Nat}(h:i<n):(ge l T n)[i]'(by rw[eH];exact h)=dO l T (i:Int):=by
 simp[ge,cz]
theorem yX (l:List aL):ge l [] l.length=l:=by
 refine Cv (eH _ _ _) λi u r=>?_
 rw[fe l [] r];unfold dO;rw[ct r];simp
theorem yY {l:List aL}{T:List Int}{b:Nat}(y:b<l.length):(ge l T l.length).set b ((gC l (b:Int)).1,(gC l (b:Int)).2-1)=ge l (T++[(b:Int)]) l.length:=by
 refine Cv (by rw[DP,eH,eH]) λi u r=>?_
 rw[eH]at r;rw[Da,fe _ _ r];by_cases h:b=i
 ·subst h;rw[if_pos rfl,fe _ _ r];unfold dO;rw[decide_eq_true (by simp:(b:Int)∈T++[(b:Int)])];rfl
 ·rw[if_neg h,fe _ _ r];unfold dO;have:((i:Int)∈T++[(b:Int)])<->(i:Int)∈T:=by
   rw[CW,CS];exact⟨λu=>u.resolve_right (by omega),.inl⟩
  rw[show decide ((i:Int)∈T++[(b:Int)])=decide ((i:Int)∈T) by rw[decide_eq_decide];exact this]
theorem vY {l:List aL}{T T':List Int}(h:∀ i,i∈T<->i∈T')(n:Nat):ge l T n=ge l T' n:=by
 unfold ge;refine List.map_congr_left λi _=>?_
 unfold dO;rw[show decide (i∈T)=decide (i∈T') by rw[decide_eq_decide];exact h i]
theorem uA (K:Nat)(x:ab Q204.ps)(l:List aL)(hl:l.length<=1048576)(Y:cQ l)(hK:1048577<K) :
  Q204.l1 K x (l,cX l,[],(BW (cX l):Int),0)=some ((ek l (bZ l) l.length,dC l (bZ l) l.length,()),()):=by
 have a0:(cX l).length<=l.length:=by
  refine CP (Ce _ _) ?_;simp[cz]
 refine DJ ?_ (dS (step:=λrec a=>Q204.s1 K x rec a) (cX l).length (λi=>(ge l ((cX l).take i) l.length,cX l,((cX l).take i).map (λj=>(gC l j).1),(BW (cX l):Int),(i:Int))) (some ((ek l (bZ l) l.length,dC l (bZ l) l.length,()),())) ?_ ?_ (by omega:(cX l).length<K))
 ·simp only[List.take_zero,Dk,yX];rfl
 ·intro rec i r;simp only[Q204.s1];have X:=iu.1 ((B5.1 (BX r)).1);have u:(cX l)[i]∉(cX l).take i:=λh=>by
   obtain⟨j,hj,e⟩:=B7 h;rw[CJ]at hj;rw[C0]at e;have:=Cf.1 (xD l) j i (by omega) r (by omega);omega
  have M:(cX l).take (i+1)=(cX l).take i++[(cX l)[i]]:=Ch r;rw[M,DB];have I:(((cX l).take i).map (λj=>(gC l j).1)).length<=1048576:=by rw[CH,CJ];omega
  rw[bj (by omega:(i:Int)<(BW (cX l):Int)),ag r,ar i (by omega),B3,ag r];simp only[cond_true,BV];generalize (cX l)[i]=v at X u ⊢;obtain⟨b,rfl⟩:=BZ X.1;have z:b<l.length:=by omega
  have H:b<(ge l ((cX l).take i) l.length).length:=by rw[eH];exact z
  have hd:dO l ((cX l).take i) (b:Int)=l[b]:=by
   unfold dO;rw[decide_eq_false u,ct z];rfl
  obtain⟨c0,c1⟩:=(Y.1 l[b] (BX z)).2;rw[ag H,B3,ag H,fe l _ z,hd];simp only[BV];rw[szb _ _ _ (by omega) (by simp only[CH,B4,B9]at I ⊢;omega),aJ (n:=l[b].2-1) (by omega) (by omega),<- yY z,ct z];simp only[cond_true,DG,Dk,ct z]
 ·intro rec;simp only[Q204.s1,aP,cond_false,Ck,Q10.f];have e:∀ J:List aL,J.length<=1048576->gO t3 J (λR=>(Q203.f K (R.1,())).map λy=>y.1.1)=some ((J.filter (λx=>!(x.2==0)),()),()):=λJ O=>rm (e:=t3) (λx=>x.2==0) O (λx _=>rfl)
  rw[e _ (by rw[eH];exact hl)];simp only[BV];rw[vY (l:=l) (T:=cX l) (T':=bZ l) (λi=>xC) l.length];have Z:(ge l (bZ l) l.length).filter (λx=>!(x.2==0))=dC l (bZ l) l.length:=by
   unfold dC;refine DF λx hx=>?_
   have h0:0<=x.2:=by
    obtain⟨i,r,rfl⟩:=B7 hx;rw[eH]at r;rw[fe l _ r];obtain⟨c0,c1⟩:=(Y.1 l[i] (BX r)).2;unfold dO;rw[ct r];cases decide ((i:Int)∈bZ l) with
    |true=>show 0<=l[i].2-1;omega
    |false=>show 0<=l[i].2;omega
   rw[Cz];simp;omega
  rw[Z];rfl
theorem vZ (K:Nat)(l:List aL)(hl:l.length<=8)(I:cQ l)(H:1048577<K):Q204.f K (l,3,())=some ((ek l (bZ l) l.length,dC l (bZ l) l.length,()),()):=by
 simp only[Q204.f,Q204.pre];obtain⟨b1,e1,e2⟩:=pc K l (by omega) H;have M:=e2.2 I;subst M;rw[e1];simp only[BV,B6,cond_false];rw[decide_eq_true (by omega:(0:Int)<=(BW l:Int)),show decide ((BW l:Int)*(8:Nat)<=an)=true from decide_eq_true (by simp only[an];omega),B3];simp only[decide_true,Cm,cond_true];have J:(cz l.length).length=l.length:=by simp[cz]
 have hS:∀ i,i<=l.length->(cz i++Ct (l.length-i) (0:Int)).length=l.length:=λi Z=>by simp[cz];omega
 refine DJ ?_ (dS (step:=λrec a=>Q204.s0 K (l,3,()) (Q204.l1 K (l,3,())) rec a) l.length (λi=>(cz i++Ct (l.length-i) (0:Int),(i:Int))) (some ((ek l (bZ l) l.length,dC l (bZ l) l.length,()),())) ?_ ?_ (by omega:l.length<K))
 ·rfl
 ·intro rec i Z;simp only[Q204.s0];have u:i<(cz i++Ct (l.length-i) (0:Int)).length:=by rw[hS i (by omega)];exact Z
  rw[decide_eq_true (by rw[C8];show (i:Int)<((BY (BW l:Int):Nat):Int);omega),ag u,ar i (by omega),B3,ag u];simp only[cond_true,BV];have e:(cz i++Ct (l.length-i) (0:Int)).set i (i:Int)=cz (i+1)++Ct (l.length-(i+1)) (0:Int):=by
   obtain⟨m,hm⟩:∃ m,l.length-i=m+1:=⟨l.length-i-1,by omega⟩;have X:(cz i).length=i:=by simp[cz]
   rw[hm,show l.length-(i+1)=m by omega,nd,DQ _ _ (by omega),X,Nat.sub_self,List.replicate_succ,List.set_cons_zero,CZ];rfl
  rw[e]
 ·intro rec;simp only[Q204.s0];rw[decide_eq_false (by rw[C8];show ¬ (BW l:Int)<((BY (BW l:Int):Nat):Int);omega),Nat.sub_self,List.replicate_zero,CA];simp only[cond_false,Q3.f];have r:=yU K (cz l.length) (λy4=>(Q193.f K (y4.1,y4.2.1,l,())).map λy=>y.1.1) (ltL l) (λi=>0<=i/\i<l.length) (λy O=>iu.1 O) (λy z O hz=>by
   obtain⟨a,rfl⟩:=BZ O.1;obtain⟨b,rfl⟩:=BZ hz.1;have R:a<l.length:=by omega
   have Y:b<l.length:=by omega
   obtain⟨c0,c1⟩:=(I.1 l[a] (BX R)).2;obtain⟨c2,c3⟩:=(I.1 l[b] (BX Y)).2;refine⟨l[b].2-l[a].2,?_,?_⟩
   ·simp only[Q193.f];rw[ag R,ag Y];simp only[BV];rw[aJ (n:=l[b].2-l[a].2) (by omega) (by omega)];rfl
   ·unfold ltL;rw[dN R,dN Y,decide_eq_decide];omega) (by rw[J];omega) H
  rw[r];simp only[BV];rw[d5 (by omega)];simp only[BV];rw[show Q189.f K (cS (ltL l) [] (cz l.length),3,())=some ((bZ l,()),()) from Ae K (bA l) 3 (by rw[xy];omega)];simp only[BV];rw[yW K (bZ l) (CP (Cx _ _) (by omega)) H,uz];simp only[BV];exact uA K (l,3,()) l (by omega) I H
theorem Bo {a b:Int}(z:0<=a)(y:a<4611686018427387904)(u:0<=b)(r:b<4611686018427387904):0<=qz .i64 a b:=by
 obtain⟨m,rfl⟩:=BZ z;obtain⟨n,rfl⟩:=BZ u;have h:(BitVec.ofInt 64 (m:Int) ^^^ BitVec.ofInt 64 (n:Int)).toNat=m ^^^ n:=by
  rw[BitVec.toNat_xor,BitVec.toNat_ofInt,BitVec.toNat_ofInt];congr 1
  ·omega
  ·omega
 have H:m ^^^ n<2 ^ 62:=Nat.xor_lt_two_pow (by omega) (by omega);show 0<=IntKind.i64.wrap (((BitVec.ofInt 64 (m:Int) ^^^ BitVec.ofInt 64 (n:Int)).toNat:Nat):Int);rw[h,Dc];omega
structure fN (b:List Int):Prop where
 byte:∀ y∈b,0<=y/\y<=255
 len:b.length<=2000
theorem Ap (K:Nat)(b:List Int)(q:Nat)(n:Int)(h:fN b)(hq:q<=100000)(hn:1<=n):∃ v:Int,Q12.f K ((b,(q:Int)),n,())=some ((v,()),((b,((q+1:Nat):Int)),()))/\0<=v/\v<n:=by
 have w1:wr .i64 ((q:Int)+1)=((q+1:Nat):Int):=ar q (by omega);have w2:wr .i64 (((q+1:Nat):Int)-1)=(q:Int):=by rw[aJ (n:=((q+1:Nat):Int)-1) (by omega) (by omega)];omega
 have hl:=h.len;have J:decide (n=0)=false:=decide_eq_false (by omega);have r:∀ x:Int,0<=x->0<=Cu x n/\Cu x n<n:=λx u=>⟨Df _ u,DV _ (by omega)⟩
 simp only[Q12.f];rw[decide_eq_false (by omega:¬ n<1)];simp only[cond_false,w1,w2,J];by_cases R:b.length=0
 ·rw[show ((b.length:Int)==0)=true by simpa using R];exact⟨0,rfl,by omega,by omega⟩
 ·rw[show ((b.length:Int)==0)=false by simpa using R];simp only[cond_false];by_cases H:q<b.length
  ·rw[decide_eq_true (by omega:(q:Int)<(b.length:Int)),ag H];simp only[cond_true,BV];obtain⟨I,O⟩:=h.byte b[q] (BX H);rw[aJ (n:=b[q]) (by omega) (by omega)];exact⟨_,rfl,r _ I⟩
  ·rw[decide_eq_false (by omega:¬ (q:Int)<(b.length:Int)),decide_eq_false (by omega:¬ (b.length:Int)=0)];simp only[cond_false];have t1:Cu (q:Int) (b.length:Int)=((q % b.length:Nat):Int):=by rw[DD (by omega)];rfl
   have t2:wr .i64 (wr .i64 ((q:Int)*7)+3)=((q*7+3:Nat):Int):=by rw[aJ (n:=(q:Int)*7) (by omega) (by omega),aJ (n:=(q:Int)*7+3) (by omega) (by omega)];omega
   have t3:Cu (((q*7+3:Nat)):Int) (b.length:Int)=(((q*7+3) % b.length:Nat):Int):=by rw[DD (by omega)];rfl
   have Y:q % b.length<b.length:=Nat.mod_lt _ (by omega);have M:(q*7+3) % b.length<b.length:=Nat.mod_lt _ (by omega);rw[t1,t2,t3,ag Y,ag M];simp only[BV];obtain⟨I,O⟩:=h.byte b[q % b.length] (BX Y);obtain⟨z0,z1⟩:=h.byte b[(q*7+3) % b.length] (BX M);generalize b[q % b.length]=y at I O ⊢;generalize b[(q*7+3) % b.length]=z at z0 z1 ⊢;have Z:0<=C4 (q:Int) (b.length:Int)/\C4 (q:Int) (b.length:Int)<=q:=⟨Dg (by omega) (by omega),Dd _ (by omega)⟩;generalize C4 (q:Int) (b.length:Int)=e at Z ⊢;have x1:wr .i64 (wr .i64 (wr .i64 (wr .i64 (wr .i64 y*131)+wr .i64 (wr .i64 z*1117))+wr .i64 ((q:Int)*29))+wr .i64 (wr .i64 e*53))=y*131+z*1117+q*29+e*53:=by
    rw[aJ (n:=y) (by omega) (by omega),aJ (n:=z) (by omega) (by omega),aJ (n:=e) (by omega) (by omega),aJ (n:=y*131) (by omega) (by omega),aJ (n:=z*1117) (by omega) (by omega),aJ (n:=(q:Int)*29) (by omega) (by omega),aJ (n:=e*53) (by omega) (by omega),
     aJ (n:=y*131+z*1117) (by omega) (by omega),aJ (n:=y*131+z*1117+(q:Int)*29) (by omega) (by omega),aJ (n:=y*131+z*1117+(q:Int)*29+e*53) (by omega) (by omega)]
   rw[x1];have u:0<=y*131+z*1117+q*29+e*53/\y*131+z*1117+q*29+e*53<=10000000:=by omega
   generalize y*131+z*1117+(q:Int)*29+e*53=X at u ⊢;have d2:0<=C4 X 64/\C4 X 64<=X:=⟨Dg u.1 (by omega),Dd _ u.1⟩;rw[aJ (n:=C4 X 64) (by omega) (by omega)];exact⟨_,rfl,r _ (Bo u.1 (by omega) d2.1 (by omega))⟩
theorem wa (K:Nat)(t:List af)(f:af)(ht:t.length<=1048576)(R:Asc (λg:af=>g.1) t)(hK:1048577<K):Q34.f K (t,f,())=some (((bg t f).1,(bg t f).2,()),()):=by
 simp only[Q34.f,Q34.pre];obtain⟨o,H,M⟩:=fq K t f.1 ht hK;rw[M];simp only[BV];cases H with
 |at_ i r e =>
  simp only;rw[ir R r e,decide_eq_true (by omega:((i:Nat):Int)>=0),ag r];simp only[cond_true,BV,B3,ag r];rw[show Q26.f K (f,t[i],())=_ from pS K f t[i]];simp only[BV];by_cases H:bD f t[i]
  ·rw[decide_eq_true H,if_pos H];simp only[B6,cond_false];rw[szb _ _ _ (by omega) (by show (BW ([]:List af))+t.length<=_;simp;omega)];simp only[cond_true,CC,ag r,BV,B3];rw[iq (k:=λg:af=>g.1) R r e]
  ·rw[decide_eq_false H,if_neg H];rfl
 |no h =>
  simp only;rw[fJ h,decide_eq_false (by omega:¬ (-1:Int)>=0)];simp only[cond_false];have I:∀ m:Nat,m<=t.length->(bif decide ((0:Int)<=0)&&decide ((0:Int)<=(m:Int))&&decide ((m:Int)<=(BW t:Int))&&true then (bif decide ((BW ([]:List af)+BW ((t.take (BY (m:Int))).drop (BY 0)))*32<=an) then (bif decide ((BW ([]++((t.take (BY (m:Int))).drop (BY 0)))+BW ([f]))*32<=an) then (bif decide ((0:Int)<=(m:Int))&&decide ((m:Int)<=(BW t:Int))&&decide ((BW t:Int)<=(BW t:Int))&&true then (bif decide ((BW (([]++((t.take (BY (m:Int))).drop (BY 0)))++([f]))+BW ((t.take (BY (BW t:Int))).drop (BY (m:Int))))*32<=an) then (some (((([]++((t.take (BY (m:Int))).drop (BY 0)))++([f]))++((t.take (BY (BW t:Int))).drop (BY (m:Int))),true,()),())) else none) else none) else none) else none) else (none:Option ((List af×Bool×Unit)×Unit)))=some ((t.take m++[f]++t.drop m,true,()),()):=by
   intro m X;rw[decide_eq_true (by omega:(0:Int)<=0),decide_eq_true (by omega:(0:Int)<=(m:Int)),decide_eq_true (by omega:(m:Int)<=(BW t:Int)),decide_eq_true (by omega:(BW t:Int)<=(BW t:Int))];simp only[B3,Cq,CN,CC,Ck,Cm,cond_true];have M:(t.take m).length=m:=by rw[CJ];omega
   have z:(t.drop m).length=t.length-m:=CT;rw[szb _ _ _ (by omega) (by simp only[B9];omega),szb _ _ _ (by omega) (by simp only[B4,B9];omega),szb _ _ _ (by omega) (by simp only[CD,B4,B9];omega)];rfl
  have:=cq (step:=λrec a=>Q34.s0 K (t,f,()) rec a) t.length (λi=>(i:Int)) (λj=>∃ h:j<t.length,¬ t[j].1<f.1) (some ((t.take t.length++[f]++t.drop t.length,true,()),())) (λj=>some ((t.take j++[f]++t.drop j,true,()),())) ?_ ?_ t.length K 0 (by omega) (by omega)
  ·have J:∀ m,m<=t.length->(∀ i,(r:i<t.length)->i<m->t[i].1<f.1)->(∀ i,(r:i<t.length)->m<=i->f.1<t[i].1)->t.take m++[f]++t.drop m=a7 (λg=>g.1) f t:=λm X Y r=>gB (k:=λg:af=>g.1) X Y r
   rcases this with ⟨M,z⟩|⟨j,_,M,⟨Z,h4⟩,h5,z⟩
   ·rw[J t.length (CF _) (λi r _=>by
     have:=M i (CL _) r;exact Cp.1 λh=>this ⟨r,h⟩) (λi r h=>by omega)]at z
    exact z
   ·rw[J j (by omega) (λi r y=>by
     have:=h5 i (CL _) y;exact Cp.1 λh=>this ⟨r,h⟩) (λi r y=>by
     have a0:=h t[i] (BX r);rcases Cd y with O|O
     ·have:=ci.1 R j i Z r O;omega
     ·subst O;omega)]at z
    exact z
  ·intro rec i r;simp only[Q34.s0];rw[bj (by omega:(i:Int)<(BW t:Int)),ag r,ar i (by omega)];simp only[cond_true,BV];rw[show idx t ((BY (i:Int):Nat):Int)=some t[i] by rw[B3];exact ag r];simp only[BV];by_cases u:t[i].1<f.1
   ·exact .inl ⟨λ⟨_,h⟩=>h u,by rw[decide_eq_true u];rfl⟩
   ·exact .inr ⟨⟨r,u⟩,by rw[decide_eq_false u];exact I i (by omega)⟩
  ·intro rec;simp only[Q34.s0,aP,cond_false];exact I t.length (CF _)
def putAll (t:List af)(fs:List af):List af:=fs.foldl (λt f=>(bg t f).1) t
theorem rq:∀ {fs t:List af},aw t->(∀ f∈fs,aV f)->aw (putAll t fs)
 |[],_,h,_=>h
 |f::fs,t,h,r=>rq (fs:=fs) (fK h (r f (by simp))) (λg u=>r g (by simp[u]))
theorem bV {t:List af}(h:aw t):t.length<=1048576:=CP (iU h.2 (λg r=>(h.1 g r).1)) (by decide)
theorem oA {R:Type}(a fs:List af)(M:aw a)(O:∀ f∈fs,aV f)(r:List af->Option R){step:(List af×Int->Option R)->List af×Int->Option R}
  (h:∀ (rec:List af×Int->Option R) (t:List af) (i:Nat) (I:i<fs.length),aw t->step rec (t,(i:Int))=rec ((bg t fs[i]).1,((i+1:Nat):Int)))
  (y:∀ (rec:List af×Int->Option R) (t:List af),step rec (t,(fs.length:Int))=r t) {k:Nat} (z:fs.length<k):ae step k (a,0)=r (putAll a fs):=by
 have:∀ (d i k:Nat) (t:List af),i+d=fs.length->d<k->aw t->ae step k (t,(i:Int))=r (putAll t (fs.drop i)):=by
  intro d;induction d with
  |zero =>
   intro i k t I z _;obtain⟨k,rfl⟩:∃ H,k=H+1:=⟨k-1,by omega⟩;have:i=fs.length:=by omega
   subst this;show step (ae step k) _=_;rw[y,C9];rfl
  |succ d X =>
   intro i k t I z J;obtain⟨k,rfl⟩:∃ H,k=H+1:=⟨k-1,by omega⟩;have u:i<fs.length:=by omega
   show step (ae step k) _=_;rw[h _ _ _ u J,B8 u];exact X (i+1) k _ (by omega) (by omega) (fK J (O _ (BX u)))
 have:=this fs.length 0 k a (by omega) z M
 rwa [CN]at this
theorem xE (K:Nat)(a b:List af)(r:aw a)(u:aw b)(y:1048577<K):Q171.f K (a,b,())=some ((putAll a b,()),()):=by
 simp only[Q171.f,Q171.pre,Q1.f];obtain⟨b1,O,M⟩:=gz K a (bV r) y;obtain⟨Z,X,Y⟩:=gz K b (bV u) y;have I:=M.2 r;have H:=Y.2 u;subst I H;have R:=bV u;rw[O,X];simp only[BV,B6,cond_false];rw[d5 (by have:=bV r;omega)];simp only[BV];refine oA a b r u.1 (step:=λrec x=>Q171.s0 K (a,b,()) rec x) (λt=>some ((t,()),())) ?_ ?_ (by omega)
 ·intro rec t i J z;simp only[Q171.s0];rw[bj (by omega:(i:Int)<(BW b:Int)),ag J,ar i (by omega)];simp only[cond_true,BV];rw[vR K t _ (bV z) z.2 y];rfl
 ·intro rec t;simp only[Q171.s0,aP];rfl
theorem xF (f:af):¬ bD f f:=by
 unfold bD;simp
theorem kr (K:Nat)(xs:List af)(y:xs.length<=1048576)(z:1048577<K):Q223.f K (xs,xs,())=rb true:=by
 have r:Q223.l0 K (xs,xs,()) 0=rb true:=by
  refine dS (step:=λrec a=>Q223.s0 K (xs,xs,()) rec a) xs.length (λi=>(i:Int)) (rb true) ?_ ?_ (by omega)
  ·intro rec i u;simp only[Q223.s0];rw[decide_eq_true (by omega:(i:Int)<(BW xs:Int)),ag u,ar i (by omega)];simp only[cond_true,BV];rw[show Ty.eqv t2 xs[i] xs[i]=decide (xs[i]=xs[i]) from gA _ _,decide_eq_true rfl];rfl
  ·intro rec;simp only[Q223.s0,aP];rfl
 simp only[Q223.f,Q223.pre,bne_self_eq_false,cond_false];exact r
theorem pi {l:List aL}(O:cQ l)(T:List Int):aw (ek l T l.length):=by
 unfold ek;constructor
 ·intro f hf;obtain⟨i,H,rfl⟩:=CM.1 hf;obtain⟨h0,h1⟩:=iu.1 (B5.1 H).1;obtain⟨b,rfl⟩:=BZ h0;have M:b<l.length:=by omega
  rw[ct M];exact (O.1 l[b] (BX M)).1
 ·unfold Asc;rw[CQ];have Y:((cz l.length).filter λi=>decide (i∈T)).Pairwise λ (a b:Int)=>(0<=a/\a<l.length)/\(0<=b/\b<l.length)/\a<b:=by
   refine Cs _ ?_;have:∀ u:List Int,(∀ x∈u,0<=x/\x<l.length)->u.Pairwise (·<·)->u.Pairwise λ (a b:Int)=>(0<=a/\a<l.length)/\(0<=b/\b<l.length)/\a<b:=by
    intro u z r;induction u with
    |nil=>exact List.Pairwise.nil
    |cons x u ih =>
     rw[CE]at r ⊢;exact⟨λy I=>⟨z x (by simp),z y (by simp[I]),r.1 y I⟩,ih (λy I=>z y (by simp[I])) r.2⟩
   exact this _ (λx z=>iu.1 z) (jh _)
  refine Y.imp λ {a b} h=>?_
  obtain⟨⟨X,a1⟩,⟨Z,b1⟩,R⟩:=h;obtain⟨i,rfl⟩:=BZ X;obtain⟨j,rfl⟩:=BZ Z;have H:i<l.length:=by omega
  have J:j<l.length:=by omega
  rw[ct H,ct J];exact ci.1 O.2 i j H J (by omega)
theorem yZ {l:List aL}(J:cQ l)(T:List Int):cQ (dC l T l.length):=by
 have r:∀ i (h:i<l.length),(dO l T (i:Int)).1=l[i].1:=λi h=>by
  unfold dO;rw[ct h];cases decide ((i:Int)∈T) <;> rfl
 have H:∀ i (h:i<l.length),(dO l T (i:Int)).2<=l[i].2:=λi h=>by
  unfold dO;rw[ct h];cases decide ((i:Int)∈T) with
  |true=>show l[i].2-1<=l[i].2;omega
  |false=>exact Cb _
 unfold dC;constructor
 ·intro x M;obtain⟨O,z⟩:=B5.1 M;have z:x.2>0:=by simpa using z
  obtain⟨i,u,rfl⟩:=B7 O;rw[eH]at u;rw[fe l T u]at z ⊢;have:=(J.1 l[i] (BX u));refine⟨by rw[r i u];exact this.1,?_,?_⟩
  ·omega
  ·have X:=H i u;have R:=this.2.2;omega
 ·unfold Asc;refine Cs _ ?_;rw[Cf];intro i j u y I;rw[eH]at u y;show (ge l T l.length)[i].1.1<(ge l T l.length)[j].1.1;rw[fe l T u,fe l T y,r i u,r j y];exact ci.1 J.2 i j u y I
def hI (n:aa)(to:Int):List af :=
 bif (aR (aa.table n) to).2.2.1==2 then (bg (ek (aa.cast n) (bZ (aa.cast n)) (aa.cast n).length) (aR (aa.table n) to)).1 else ek (aa.cast n) (bZ (aa.cast n)) (aa.cast n).length
def iW (n:aa):aa:=f9 n (aa.table n) (dC (aa.cast n) (bZ (aa.cast n)) (aa.cast n).length) (aa.doubts n)
theorem oc {n:aa}(h:cr n)(to:Int):aw (hI n to):=by
 have y:=pi h.cast (bZ (aa.cast n));unfold hI;cases u:(aR (aa.table n) to).2.2.1==2 with
 |false=>exact y
 |true =>
  refine fK y (er h.table ?_).1;by_cases r:∃ f∈aa.table n,f.1=to
  ·exact r
  ·rw[jE (λg z e=>r ⟨g,z,e⟩)]at u;simp at u
theorem clen {n:aa}(h:cr n):(aa.cast n).length<=8:=iU h.cast.2 (λx r=>(h.cast.1 x r).1.1)
theorem vd (K:Nat)(n:aa)(to:Int)(h:cr n)(y:1048577<K):Q95.f K (n,to,())=some ((hI n to,iW n,()),()):=by
 have M:=clen h;simp only[Q95.f,zcp8];rw[show Q42.f K (n.2.2.2.2.2.2.2.2.2.1,3,())=_ from Bn K (aa.cast n) (by omega) h.cast y];simp only[BV];obtain⟨o,I,J⟩:=fq K (aa.table n) to h.lt y;rw[show Q25.f K (n.2.2.2.2.2.2.2.2.1,to,())=_ from J];simp only[BV,hI];have z:=pi h.cast (bZ (aa.cast n));cases I with
 |no r =>
  rw[jE r];rfl
 |at_ j H e =>
  have u:aR (aa.table n) to=(aa.table n)[j]:=by rw[<- e];exact jD h.table.2 (BX H)
  rw[u];simp only;rw[decide_eq_true (by omega:((j:Nat):Int)>=0),show idx n.2.2.2.2.2.2.2.2.1 ((j:Nat):Int)=some (aa.table n)[j] from ag H];simp only[cond_true,BV];cases (aa.table n)[j].2.2.1==2 with
  |false=>rfl
  |true =>
   simp only[cond_true];rw[wa K _ _ (bV z) z.2 y];rfl
theorem wb (K:Nat)(n:aa)(to:Int)(h:cr n)(r:1048577<K):Q205.f K (n,to,())=some ((hI n to,()),(iW n,())):=by
 simp only[Q205.f,zcp8];rw[show Q204.f K (n.2.2.2.2.2.2.2.2.2.1,3,())=_ from vZ K (aa.cast n) (clen h) h.cast r];simp only[BV];obtain⟨b,y⟩:=m8 K (aa.table n) to h.table h.lt r;rw[show Q139.f K (n.2.2.2.2.2.2.2.2.1,to,())=_ from y];simp only[BV,hI];have u:=pi h.cast (bZ (aa.cast n));cases (aR (aa.table n) to).2.2.1==2 with
 |false=>rfl
 |true =>
  simp only[cond_true];rw[vR K _ _ (bV u) u.2 r];rfl
def cH (n:aa)(k:Nat):Int:=Cu (n.2.2.2.2.2.2.2.1+(k:Int)) 8
def ia (n:aa)(k:Nat):Prop:=cH n k≠n.1/\eG (aR (aa.table n) (cH n k))=true
def askN (n:aa)(to:Int):aa :=
 let m:=iW n
 (m.1,m.2.1,m.2.2.1,m.2.2.2.1,m.2.2.2.2.1,m.2.2.2.2.2.1,m.2.2.2.2.2.2.1+1,to+1,m.2.2.2.2.2.2.2.2.1,m.2.2.2.2.2.2.2.2.2.1,(to,m.2.2.2.2.2.1,m.2.2.2.2.2.2.1+1,false),m.2.2.2.2.2.2.2.2.2.2.2)
def pingW (n:aa)(to:Int):aj:=(1,1,n.1,to,n.2.2.2.2.2.2.1+1,n.1,aa.coord n,hI n to)
theorem Aq (K:Nat)(n:aa)(h:cr n)(Y:0<=n.2.2.2.2.2.2.2.1)(R:n.2.2.2.2.2.2.2.1<=8)(hK:1048577<K) :
  ∃ to:Int,Q96.f K (n,())=some ((to,()),())/\((to=-1/\∀ k,k<8->¬ ia n k)\/∃ k,k<8/\ia n k/\(∀ j,j<k->¬ ia n j)/\to=cH n k):=by
 have u:∀ k:Nat,k<8->wr .i64 (n.2.2.2.2.2.2.2.1+(k:Int))=n.2.2.2.2.2.2.2.1+(k:Int):=λk M=>aJ (by omega) (by omega)
 have:=cq (step:=λrec a=>Q96.s0 K (n,()) rec a) 8 (λi=>(i:Int)) (ia n) (some ((-1,()),())) (λj=>some ((cH n j,()),())) ?_ ?_ 8 K 0 (by omega) (by omega)
 ·rcases this with ⟨H,y⟩|⟨j,_,H,X,h4,y⟩
  ·exact⟨-1,y,.inl ⟨rfl,λk M=>H k (CL _) M⟩⟩
  ·exact⟨_,y,.inr ⟨j,H,X,λm O=>h4 m (CL _) O,rfl⟩⟩
 ·intro rec i Z;simp only[Q96.s0];rw[decide_eq_true (by omega:(i:Int)<=7),u i Z,ar i (by omega)];simp only[cond_true];show (¬ ia n i/\(bif cH n i != n.1 then ((Q92.f K (aa.table n,cH n i,())).bind λI=>bif I.1.1 then (some ((cH n i,()),())) else (rec ((i+1:Nat):Int))) else (rec ((i+1:Nat):Int)))=rec ((i+1:Nat):Int))\/(ia n i/\(bif cH n i != n.1 then ((Q92.f K (aa.table n,cH n i,())).bind λI=>bif I.1.1 then (some ((cH n i,()),())) else (rec ((i+1:Nat):Int))) else (rec ((i+1:Nat):Int)))=some ((cH n i,()),()));rw[tf K (aa.table n) (cH n i) h.table h.lt hK];by_cases r:cH n i=n.1
  ·exact .inl ⟨λJ=>J.1 r,by rw[show (cH n i != n.1)=false by simpa using r];rfl⟩
  ·rw[show (cH n i != n.1)=true by simpa using r];cases z:eG (aR (aa.table n) (cH n i)) with
   |true=>exact .inr ⟨⟨r,z⟩,rfl⟩
   |false=>exact .inl ⟨λJ=>(by rw[J.2]at z;cases z),rfl⟩
 ·intro rec;simp only[Q96.s0];rfl
abbrev lH:=Int×ByteArray×Bool
abbrev bT:=List aa×List lH×List Int×List af
abbrev bT.radio (w:bT):List lH:=w.2.1
abbrev bT.sides (w:bT):List Int:=w.2.2.1
abbrev bT.born (w:bT):List af:=w.2.2.2
theorem ji {n:Int}(h:InP n 0 7):ak n=n / 4:=by
 obtain⟨r,u⟩:=h;unfold ak;rw[CV r,aJ (by omega) (by omega)]
theorem Ar {α:Type}{k:α->Int}{xs:List α}(h:Asc k xs):∀ i (r:i<xs.length),k (xs[0]'(by omega))+i<=k xs[i]:=by
 rw[gQ]at h;intro i;induction i with
 |zero=>intro r;simp
 |succ i y =>
  intro r;have z:=y (by omega);have u:=h (i+1) r (by omega);simp only[Nat.add_sub_cancel]at u;omega
theorem uB {t:List af}{s:Int}(u:aw t)(z:ca t s):t.length<=4:=by
 cases h:t.length with
 |zero=>omega
 |succ m =>
  have r:m<t.length:=by omega
  have y:0<t.length:=by omega
  have O:=Ar u.2 m r;have M:=z _ (BX r);have H:=z _ (BX y);have I:=(u.1 _ (BX r)).1;have J:=(u.1 _ (BX y)).1;rw[ji I]at M;rw[ji J]at H;omega
theorem tp {z:Int}{l:List aY}(u:InP z 0 7)(h:cM z l):l=[]\/∃ x,l=[x]:=by
 match l,h with
 |[],_=>exact .inl rfl
 |[x],_=>exact .inr ⟨x,rfl⟩
 |x::y::r,h =>
  exfalso;have J:=h.1 x (by simp);have H:=h.1 y (by simp);have O:x.1<y.1:=by
   have:=h.2;unfold Asc at this;rw[CE]at this;exact this.1 y (by simp)
  have e:=ji u;obtain⟨⟨Y,X⟩,I,_⟩:=J;obtain⟨⟨b1,R⟩,M,_⟩:=H;obtain⟨Z,m2⟩:=u;rw[e]at I M;omega
theorem lI {a:Int}{m:Nat}(u:m<4611686018427387904):0<=bC .i64 a (m:Int)/\bC .i64 a (m:Int)<=m:=by
 have h:(BitVec.ofInt 64 a &&& BitVec.ofInt 64 (m:Int)).toNat<=m:=by
  rw[BitVec.toNat_and];refine CP Nat.and_le_right ?_;rw[BitVec.toNat_ofInt];omega
 show 0<=IntKind.i64.wrap (((BitVec.ofInt 64 a &&& BitVec.ofInt 64 (m:Int)).toNat:Nat):Int)/\IntKind.i64.wrap (((BitVec.ofInt 64 a &&& BitVec.ofInt 64 (m:Int)).toNat:Nat):Int)<=m;generalize (BitVec.ofInt 64 a &&& BitVec.ofInt 64 (m:Int)).toNat=r at h ⊢;rw[Dc];omega
def gR (g:List Int)(d:Int):Int:=g.getD (BY (Cu (bC .i64 d 255) (g.length:Int))) 0
theorem iv {g:List Int}{d:Int}(h:g≠[]):idx g (Cu (bC .i64 d 255) (g.length:Int))=some (gR g d)/\idx g ((BY (Cu (bC .i64 d 255) (g.length:Int)):Nat):Int)=some (gR g d)/\gR g d∈g:=by
 have I:0<g.length:=DC.2 h;have u:=(lI (a:=d) (m:=255) (by omega)).1;have H:0<=Cu (bC .i64 d 255) (g.length:Int):=Df _ u;have z:Cu (bC .i64 d 255) (g.length:Int)<g.length:=DV _ (by omega);unfold gR;obtain⟨v,y⟩:=BZ H;rw[y]at z ⊢;have r:v<g.length:=by omega
 rw[B3,ag r,List.getD_eq_getElem?_getD,CB r];exact⟨rfl,rfl,BX r⟩
def mm (n:aa)(r d:Int):Int :=
 bif decide (fI (dk (aa.others n) r)≠[])&&bC .i64 d 4==0 then gR (fI (dk (aa.others n) r)) (CY d (2 ^ 3)) else r*4+bC .i64 (CY d (2 ^ 3)) 3
structure od (n:aa):Prop where
 short:(aa.others n).length<=1
 table:∀ x∈aa.others n,aw x.2/\x.2.length<=1048576
theorem Bp {r d:Int}(z:0<=r)(H:r<=1):wr .i64 (wr .i64 (r*4)+bC .i64 (CY d (2 ^ 3)) 3)=r*4+bC .i64 (CY d (2 ^ 3)) 3:=by
 obtain⟨y,u⟩:=lI (a:=CY d (2 ^ 3)) (m:=3) (by omega);have y:0<=bC .i64 (CY d (2 ^ 3)) 3:=y;have u:bC .i64 (CY d (2 ^ 3)) 3<=3:=u;rw[aJ (n:=r*4) (by omega) (by omega),aJ (by omega) (by omega)]
theorem far_s (K:Nat)(n:aa)(r d:Int)(h:od n)(X:0<=r)(J:r<=1)(R:1048577<K):Q101.f K (n,r,d,())=some ((mm n r d,()),()):=by
 obtain⟨k,rfl⟩:∃ k,K=k+2:=⟨K-2,by omega⟩;show Q101.s0 (k+2) (n,r,d,()) (ae (λrec a=>Q101.s0 (k+2) (n,r,d,()) rec a) (k+1)) 0=_;have z:∀ (rec:Int->Option ((Int×Unit)×Unit)) (a:Int),¬ a<(aa.others n).length->Q101.s0 (k+2) (n,r,d,()) rec a=some ((r*4+bC .i64 (CY d (2 ^ 3)) 3,()),()):=by
  intro rec a M;simp only[Q101.s0];rw[show decide (a<(BW n.2.2.2.2.2.2.2.2.2.2.2.2.2.2:Int))=false from decide_eq_false M,Bp X J];rfl
 match y:aa.others n with
 |[] =>
  rw[z _ _ (by rw[y];simp),mm,y];rfl
 |[x] =>
  have O:=h.table x (by rw[y];simp);have u:ae (λrec a=>Q101.s0 (k+2) (n,r,d,()) rec a) (k+1) 1=some ((r*4+bC .i64 (CY d (2 ^ 3)) 3,()),()):=z _ _ (by rw[y];simp);generalize ae (λrec a=>Q101.s0 (k+2) (n,r,d,()) rec a) (k+1)=rec at u ⊢;simp only[Q101.s0];rw[show decide ((0:Int)<(BW n.2.2.2.2.2.2.2.2.2.2.2.2.2.2:Int))=true from decide_eq_true (by show (0:Int)<((aa.others n).length:Int);rw[y];simp),show idx n.2.2.2.2.2.2.2.2.2.2.2.2.2.2 (0:Int)=some x by show idx (aa.others n) (0:Int)=some x;rw[y];rfl,show wr .i64 ((0:Int)+1)=1 from rfl];simp only[cond_true,BV,u];rw[mm,y];cases I:x.1==r with
  |false =>
   simp only[cond_false,dk,DN,I,List.find?_nil];rfl
  |true =>
   simp only[cond_true,dk,DN,I,De,Db];rw[uZ (k+2) x.2 O.2 R];simp only[BV];by_cases H:fI x.2=[]
   ·rw[H];rfl
   ·have Y:0<(fI x.2).length:=DC.2 H;rw[decide_eq_true H,decide_eq_true (by omega:((fI x.2).length:Int)>0)];simp only[cond_true,Cj];cases bC .i64 d 4==0 with
    |false=>rfl
    |true =>
     simp only[cond_true];rw[decide_eq_false (by omega:¬ ((fI x.2).length:Int)=0),(iv H).1,(iv H).2.1];rfl
 |_::_::_=>exact absurd h.short (by rw[y];simp)
def lJ (n:aa):Bool:=decide (n.1∈fI (aa.table n))
theorem za (K:Nat)(n:aa)(J:(aa.table n).length<=1048576)(O:1048577<K):Q100.f K (n,())=rb (lJ n):=by
 simp only[Q100.f,Q100.pre];rw[show Q99.f K (n.2.2.2.2.2.2.2.2.1,2,())=_ from uZ K (aa.table n) J O];simp only[BV];have H:=xt (aa.table n);unfold lJ;generalize fI (aa.table n)=g at H ⊢;have:=cq (step:=λrec a=>Q100.s0 K (n,()) rec a) g.length (λi=>(g,(i:Int))) (λj=>∃ h:j<g.length,g[j]=n.1) (rb false) (λ_=>rb true) ?_ ?_ g.length K 0 (by omega) (by omega)
 ·rcases this with ⟨y,u⟩|⟨j,_,y,⟨I,M⟩,_,u⟩
  ·rw[decide_eq_false (λz=>by
    obtain⟨i,r,e⟩:=B7 z;exact y i (CL _) r ⟨r,e⟩)]
   exact u
  ·rw[decide_eq_true (M ▸ BX I:n.1∈g)];exact u
 ·intro rec i r;simp only[Q100.s0];rw[bj (by omega:(i:Int)<(BW g:Int)),ag r,ar i (by omega),B3,ag r];simp only[cond_true,BV];by_cases h:g[i]=n.1
  ·exact .inr ⟨⟨r,h⟩,by rw[show (g[i]==n.1)=true by simpa using h];rfl⟩
  ·exact .inl ⟨λ⟨_,R⟩=>h R,by rw[show (g[i]==n.1)=false by simpa using h];rfl⟩
 ·intro rec;simp only[Q100.s0,aP];rfl
def wanW (n:aa)(d r:Int):aj:=(2,(nZ 6 n (mm n r d)).2)
def mn (n:aa)(d:Int):List aj:=bif lJ n then (([0,1]:List Int).filter (λs=>s != ak n.1)).map (wanW n d) else []
theorem wan_s (K:Nat)(n:aa)(d:Int)(h:od n)(u:(aa.table n).length<=1048576)(y:1048577<K):Q102.f K (n,d,())=some ((mn n d,()),()):=by
 simp only[Q102.f,Q102.pre];rw[za K n u y];simp only[BV,mn];cases lJ n with
 |false=>rfl
 |true =>
  simp only[B6,cond_false,cond_true];refine qE (step:=λrec a=>Q102.s0 K (n,d,()) rec a) ([0,1]:List Int) (λs=>s != ak n.1) (wanW n d) (λr i=>(r,(i:Int))) (λM=>some ((M,()),())) ?_ ?_ (by simp;omega)
  ·intro rec r i H J;have z:i<2:=H;have I:([0,1]:List Int)[i]=(i:Int):=by
    have:i=0\/i=1:=by omega
    rcases this with rfl|rfl <;> rfl
   simp only[Q102.s0,I];rw[decide_eq_true (by omega:(i:Int)<=1),ar i (by omega),cV K n.1];simp only[cond_true,BV];cases (i:Int) != ak n.1 with
   |false=>rfl
   |true =>
    simp only[cond_true];rw[far_s K n (i:Int) d h (by omega) (by omega) y];simp only[BV];refine (congrArg (λo=>Cl o _) (n9 K n 6 (mm n (i:Int) d) u)).trans ?_;simp only[BV];rw[szw _ _ _ (by omega) (by simp;omega)];rfl
  ·intro rec r J;simp only[Q102.s0];rfl
def tq (n:aa)(f:af):Bool:=f.2.2.1 != 4&&f.1 != n.1
def fu (n:aa):List Int:=((aa.table n).filter (tq n)).map (·.1)
def tr (n:aa)(to:Int):List aj:=match aa.others n with
 |[]=>[]
 |x::_=>[(1,6,n.1,to,0,n.1,aa.coord n,x.2)]
def kg (n:aa)(r:Int):List aj :=
 bif bC .i64 r 3==1 then mn n (CY r (2 ^ 2)) else
 bif bC .i64 r 3==3||decide (fu n=[]) then [] else
 bif bC .i64 r 3==0 then [nZ 4 n (gR (fu n) (CY r (2 ^ 2)))] else tr n (gR (fu n) (CY r (2 ^ 2)))
theorem and3 (a:Int):bC .i64 a 3=0\/bC .i64 a 3=1\/bC .i64 a 3=2\/bC .i64 a 3=3:=by
 obtain⟨u,r⟩:=lI (a:=a) (m:=3) (by omega);have u:0<=bC .i64 a 3:=u;have r:bC .i64 a 3<=3:=r;omega
theorem xG {n:aa}(u:aw (aa.table n)){v:Int}(r:v∈fu n):0<=v:=by
 obtain⟨f,y,rfl⟩:=CM.1 r;exact (u.1 f (B5.1 y).1).1.1
theorem Bq (K:Nat)(n:aa)(d:Int)(J:(aa.table n).length<=1048576)(H:1048577<K):Q98.f K (n,d,())=some ((bif decide (fu n=[]) then -1 else gR (fu n) d,()),()):=by
 refine (vQ (step:=λrec a=>Q98.s0 K (n,d,()) rec a) (aa.table n) (tq n) (λf=>f.1) (λy=>some ((bif decide (y=[]) then -1 else gR y d,()),())) ?_ ?_ (by omega)).trans rfl
 ·intro rec r i z M;simp only[Q98.s0];rw[show decide ((i:Int)<(BW n.2.2.2.2.2.2.2.2.1:Int))=true from bj (by omega:(i:Int)<(BW (aa.table n):Int)),show idx n.2.2.2.2.2.2.2.2.1 (i:Int)=some (aa.table n)[i] from ag z,ar i (by omega)];simp only[cond_true,BV,tq];rw[szb _ _ _ (by omega) (by simp;omega)];cases (aa.table n)[i].1 != n.1 <;> cases (aa.table n)[i].2.2.1 != 4 <;> rfl
 ·intro rec r _;simp only[Q98.s0];rw[show decide ((BW (aa.table n):Int)<(BW n.2.2.2.2.2.2.2.2.1:Int))=false from aP _];simp only[cond_false];by_cases u:r=[]
  ·subst u;rfl
  ·have I:0<r.length:=DC.2 u;rw[show ((r.length:Int)==0)=false by simp;exact u,decide_eq_false (by omega:¬ (r.length:Int)=0),decide_eq_false u,(iv u).1,(iv u).2.1];rfl
theorem Br (K:Nat)(n:aa)(r:Int)(h:od n)(M:aw (aa.table n))(H:(aa.table n).length<=1048576)(I:1048577<K):Q103.f K (n,r,())=some ((kg n r,()),()):=by
 simp only[Q103.f];rw[Bq K n _ H I];simp only[BV];rw[wan_s K n _ h H I];simp only[BV,kg];by_cases u:fu n=[]
 ·rw[decide_eq_true u];simp only[cond_true,Dj,show decide ((-1:Int)>=0)=false from rfl,cond_false];rcases and3 r with e|e|e|e <;> rw[e] <;> rfl
 ·have O:=xG M (iv (d:=CY r (2 ^ 2)) u).2.2;rw[decide_eq_false u];simp only[cond_false,Bool.or_false];rw[decide_eq_true (by omega:gR (fu n) (CY r (2 ^ 2))>=0)];simp only[cond_true];rw[show Q39.f K (n,4,gR (fu n) (CY r (2 ^ 2)),0,n.1,n.2.2.2.2.2.2.2.2.1,())=_ from n9 K n 4 _ H];simp only[BV];rcases and3 r with e|e|e|e
  ·rw[e];rfl
  ·rw[e];rfl
  ·rw[e];simp only[show ((2:Int)==0)=false from rfl,show ((2:Int)==1)=false from rfl,show ((2:Int)==2)=true from rfl,show ((2:Int)==3)=false from rfl,cond_false,cond_true];unfold tr
   match y:aa.others n with
   |[] =>
    rw[show decide ((BW n.2.2.2.2.2.2.2.2.2.2.2.2.2.2:Int)>0)=false by show decide (((aa.others n).length:Int)>0)=false;rw[y];rfl];rfl
   |[x] =>
    have J:=h.table x (by rw[y];simp);have z:(aa.others n).length=1:=by rw[y];rfl
    rw[show decide ((BW n.2.2.2.2.2.2.2.2.2.2.2.2.2.2:Int)>0)=true by show decide (((aa.others n).length:Int)>0)=true;rw[z];rfl,show decide ((BW n.2.2.2.2.2.2.2.2.2.2.2.2.2.2:Int)=0)=false by show decide (((aa.others n).length:Int)=0)=false;rw[z];rfl];simp only[cond_true,cond_false];rw[show idx n.2.2.2.2.2.2.2.2.2.2.2.2.2.2 (Cu (bC .i64 (CY r (2 ^ 10)) 255) (BW n.2.2.2.2.2.2.2.2.2.2.2.2.2.2:Int))=some x by
     show idx (aa.others n) (Cu (bC .i64 (CY r (2 ^ 10)) 255) ((aa.others n).length:Int))=some x;rw[z,y,show ((1:Nat):Int)=1 from rfl,Int.tmod_one];rfl]
    simp only[BV,Q39.f];rw[szb _ _ _ (by omega) (by have:=J.2;simp;omega)];rfl
   |_::_::_=>exact absurd h.short (by rw[y];simp)
  ·rw[e];rfl
def rk (f:af):Int:=f.2.1*16+f.2.2.1*2+(if f.2.2.2=true then 1 else 0)
theorem kh {f g:af}(u:aV f)(r:aV g):bD f g<->rk g<rk f:=by
 obtain⟨_,_,I,z⟩:=u;obtain⟨_,_,H,y⟩:=r;unfold bD rk;by_cases a:f.2.1=g.2.1
 ·rw[if_neg (by simpa using a)];by_cases c:f.2.2.1=g.2.2.1
  ·rw[if_neg (by simpa using c),a,c];cases f.2.2.2 <;> cases g.2.2.2 <;> simp <;> omega
  ·rw[if_pos c];cases f.2.2.2 <;> cases g.2.2.2 <;> simp <;> omega
 ·rw[if_pos a];cases f.2.2.2 <;> cases g.2.2.2 <;> simp <;> omega
theorem k8 {t:List af}(H:Asc (λg:af=>g.1) t)(f:af):bg t f=(t,false)\/(bg t f=(a7 (λg=>g.1) f t,true)/\∀ g∈t,g.1=f.1->bD f g):=by
 by_cases h:∃ g∈t,g.1=f.1
 ·obtain⟨g,r,e⟩:=h;obtain⟨i,J,rfl⟩:=B7 r;rw[ir H J e];by_cases u:bD f t[i]
  ·rw[if_pos u];refine .inr ⟨rfl,λM y I=>?_⟩;rw[fb H y r (by rw[e,I])];exact u
  ·rw[if_neg u];exact .inl rfl
 ·have z:∀ g∈t,g.1≠f.1:=λg r e=>h ⟨g,r,e⟩
  exact .inr ⟨fJ z,λg r e=>absurd e (z g r)⟩
theorem oC {n:aa}(Y:aw (aa.table n)):iI n<->(∀ d∈aa.doubts n,lE n d)/\Asc (λd:bQ=>d.1) (aa.doubts n)/\∀ f∈aa.table n,f.2.2.1=2->∃ d∈aa.doubts n,d.1=f.1:=by
 have I:((aW (aa.table n)).map (λf:af=>f.1)).Pairwise (·<·):=by
  rw[CQ];exact Cs _ Y.2
 constructor
 ·rintro⟨h1,h2,h3⟩;refine⟨h1,h2,λf J u=>?_⟩;have r:((aa.doubts n).map (λd:bQ=>d.1)).Pairwise (·<·):=by rw[CQ];exact h2
  have:=(jf _ _ r I (λx y=>by
   obtain⟨d,r,rfl⟩:=CM.1 y;obtain⟨⟨g,H,e,z,_⟩,_⟩:=h1 d r;exact CM.2 ⟨g,B5.2 ⟨H,by simpa using z⟩,e⟩)).2 (by rw[CH,CH,h3])
  have O:f.1∈(aW (aa.table n)).map (λf:af=>f.1):=CM.2 ⟨f,B5.2 ⟨J,by simpa using u⟩,rfl⟩;rw[<- this]at O;obtain⟨d,r,e⟩:=CM.1 O;exact⟨d,r,e⟩
 ·rintro⟨h1,h2,h3⟩;refine⟨h1,h2,?_⟩;have r:((aa.doubts n).map (λd:bQ=>d.1)).Pairwise (·<·):=by rw[CQ];exact h2
  have X:=(jf _ _ r I (λx y=>by
   obtain⟨d,r,rfl⟩:=CM.1 y;obtain⟨⟨g,H,e,z,_⟩,_⟩:=h1 d r;exact CM.2 ⟨g,B5.2 ⟨H,by simpa using z⟩,e⟩)).1
  have R:=(jf _ _ I r (λx y=>by
   obtain⟨f,J,rfl⟩:=CM.1 y;obtain⟨M,u⟩:=B5.1 J;obtain⟨d,r,e⟩:=h3 f M (by simpa using u);exact CM.2 ⟨d,r,e⟩)).1
  rw[CH,CH]at X R;omega
def cg (n:aa):Int:=n.2.2.2.2.2.1
def eJ (n:aa)(b:Int):Prop:=InP b 0 7/\ak b=ak n.1
theorem oD {n:aa}(u:Asc (λg:af=>g.1) (aa.table n))(f:af)(b:Int):sayOf n f b=n \/
  (sayOf n f b=f9 n (a7 (λg=>g.1) f (aa.table n)) (dr (aa.cast n) f) (bif jZ n f then aa.doubts n else cN (cg n) (aa.doubts n) f b)/\∀ g∈aa.table n,g.1=f.1->bD f g):=by
 rcases k8 u f with h|⟨h,r⟩
 ·left;unfold sayOf;rw[h];rfl
 ·right;refine⟨?_,r⟩;unfold sayOf;rw[h];rfl
theorem wc {n:aa}{f:af}{b:Int}(Y:aw (aa.table n))(hD:iI n)(hf:aV f)(hb:eJ n b)(hn:0<=cg n)(c:List aL) :
  iI (f9 n (a7 (λg=>g.1) f (aa.table n)) c (bif jZ n f then aa.doubts n else cN (cg n) (aa.doubts n) f b)):=by
 obtain⟨h1,h2,h3⟩:=(oC Y).1 hD;have Z:aw (a7 (λg:af=>g.1) f (aa.table n)):=⟨λg y=>by
  rcases aO.1 y with rfl|⟨y,_⟩
  ·exact hf
  ·exact Y.1 g y,eF Y.2⟩
 refine (oC (n:=f9 n _ c _) Z).2 ?_;have I:∀ d∈aa.doubts n,d.1≠f.1->∀ ds,lE (f9 n (a7 (λg:af=>g.1) f (aa.table n)) c ds) d:=λd z u ds=>by
  obtain⟨⟨g,y,R,O,X⟩,r⟩:=h1 d z;exact⟨⟨g,aO.2 (.inr ⟨y,by rw[R];exact u⟩),R,O,X⟩,r⟩
 have J:∀ g∈a7 (λg:af=>g.1) f (aa.table n),g.1≠f.1->g.2.2.1=2->∃ d∈aa.doubts n,d.1=g.1:=λg y u h=>by
  rcases aO.1 y with rfl|⟨y,_⟩
  ·exact absurd rfl u
  ·exact h3 g y h
 cases hs:jZ n f with
 |true =>
  obtain⟨g0,M,s1,s2,s3⟩:=of_decide_eq_true hs;refine⟨λd z=>?_,h2,λg y h=>?_⟩
  ·by_cases u:d.1=f.1
   ·obtain⟨⟨g,y,R,O,X⟩,r⟩:=h1 d z;rw[fb Y.2 y M (by rw[R,s1,u])]at O X;exact⟨⟨f,aO.2 (.inl rfl),u.symm,by rw[<- s3];exact O,by rw[<- s2];exact X⟩,r⟩
   ·exact I d z u _
  ·by_cases u:g.1=f.1
   ·have a0:g=f:=by
     rcases aO.1 y with h|⟨_,h⟩
     ·exact h
     ·exact absurd u h
    rw[a0]at h ⊢;obtain⟨d,z,e⟩:=h3 g0 M (by rw[s3];exact h);exact⟨d,z,by rw[e,s1]⟩
   ·exact J g y u h
 |false =>
  by_cases H:f.2.2.1=2
  ·have e:cN (cg n) (aa.doubts n) f b=a7 (λd=>d.1) (mkD (cg n) f b) (aa.doubts n):=by unfold cN;rw[if_pos H]
   simp only[cond_false];rw[e];refine⟨λd z=>?_,eF h2,λg y h=>?_⟩
   ·rcases aO.1 z with rfl|⟨z,u⟩
    ·exact⟨⟨f,aO.2 (.inl rfl),rfl,H,rfl⟩,⟨hn,Cb _⟩,List.cons_ne_nil _ _,λx hx=>by rw[CS.1 hx];exact hb,DK _ _⟩
    ·exact I d z u _
   ·by_cases u:g.1=f.1
    ·exact⟨mkD (cg n) f b,aO.2 (.inl rfl),u.symm⟩
    ·obtain⟨d,z,e⟩:=J g y u h;exact⟨d,aO.2 (.inr ⟨z,λe'=>u (e.symm.trans e')⟩),e⟩
  ·have e:cN (cg n) (aa.doubts n) f b=(aa.doubts n).filter (λd=>!(d.1==f.1)):=by unfold cN;rw[if_neg H]
   simp only[cond_false];rw[e];refine⟨λd z=>?_,mg h2 _,λg y h=>?_⟩
   ·obtain⟨z,u⟩:=B5.1 z;exact I d z (by simpa using u) _
   ·have u:g.1≠f.1:=λu=>by
     rcases aO.1 y with h'|⟨_,h'⟩
     ·rw[h']at h;exact H h
     ·exact h' u
    obtain⟨d,z,e⟩:=J g y u h;exact⟨d,B5.2 ⟨z,by rw[e];simpa using u⟩,e⟩
theorem wd {n:aa}{f:af}(Y:aw (aa.table n))(X:cQ (aa.cast n))(R:gY (aa.table n) (aa.cast n))(M:aV f)(O:∀ g∈aa.table n,g.1=f.1->bD f g) :
  gY (a7 (λg=>g.1) f (aa.table n)) (dr (aa.cast n) f):=by
 have z:∀ x∈aa.cast n,∃ g∈a7 (λg:af=>g.1) f (aa.table n),g.1=x.1.1/\¬ bD x.1 g:=λx r=>by
  obtain⟨g,J,e,H⟩:=R x r;by_cases u:g.1=f.1
  ·refine⟨f,aO.2 (.inl rfl),by rw[<- e,u],λh=>H ?_⟩;have y:=(X.1 x r).1;have I:=Y.1 g J;have:=O g J u;rw[kh M I]at this;rw[kh y M]at h;rw[kh y I];omega
  ·exact⟨g,aO.2 (.inr ⟨J,u⟩),e,H⟩
 intro x r;unfold dr at r;split at r
 ·exact z x r
 ·rcases aO.1 r with rfl|⟨r,_⟩
  ·exact⟨f,aO.2 (.inl rfl),rfl,xF f⟩
  ·exact z x r
structure UpX (n:aa):Prop where
 me:InP n.1 0 7
 now0:0<=cg n
 table:aw (aa.table n)
 site:ca (aa.table n) (ak n.1)
 cast:cQ (aa.cast n)
 vs:gY (aa.table n) (aa.cast n)
 probe:c8 n
 doubts:iI n
 coord:cG (aa.coord n)
 places:eB n.1 (aa.places n)
 others:cM n.1 (aa.others n)
theorem UpX.of {n:aa}(h:UpP n)(z:InP n.1 0 7)(I:0<=cg n):UpX n:=by
 obtain⟨X,M,_,⟨R,H⟩,O,J,r,u,y⟩:=h;exact⟨z,I,X,M,R,H,O,J,r,u,y⟩
theorem UpX.up {n:aa}(h:UpX n)(r:de n):UpP n:=⟨h.table,h.site,r,⟨h.cast,h.vs⟩,h.probe,h.doubts,h.coord,h.places,h.others⟩
theorem UpX.say {n:aa}(h:UpX n):cr n:=by
 refine cr.mk' h.table h.cast h.doubts.2.1 λd r=>?_
 obtain⟨f,u,e,_⟩:=(h.doubts.1 d r).1;rw[<- e];exact (h.table.1 f u).1
theorem eJ.me {n:aa}(h:InP n.1 0 7):eJ n n.1:=⟨h,rfl⟩
theorem rr {n m:aa}(h:c8 n)(z:m.1=n.1)(R:aa.probe m=aa.probe n)(O:∀ g∈aa.table n,∃ y∈aa.table m,y.1=g.1)(hn:cg n<=cg m)(X:n.2.2.2.2.2.2.1<=m.2.2.2.2.2.2.1):c8 m:=by
 unfold c8 at h ⊢;rw[R,z];split at h
 ·rename_i r;rw[if_pos r];exact h
 ·rename_i r;rw[if_neg r];obtain⟨p1,⟨g,M,Z⟩,⟨Y,H⟩,⟨p4,J⟩⟩:=h;obtain⟨y,u,I⟩:=O g M;exact⟨p1,⟨y,u,I.trans Z⟩,⟨Y,C5 H hn⟩,⟨p4,C5 J X⟩⟩
theorem UpX.said {n:aa}{f:af}{b:Int}(h:UpX n)(u:aV f)(I:ak f.1=ak n.1)(H:eJ n b):UpX (sayOf n f b):=by
 rcases oD h.table.2 f b with e|⟨e,z⟩
 ·rw[e];exact h
 ·have y:=λg r=>jF (n:=n) (f:=f) (b:=b) (g:=g) r
  rw[e]at y ⊢;refine⟨h.me,h.now0,⟨λg r=>?_,eF h.table.2⟩,λg r=>?_,pU h.cast u,wd h.table h.cast h.vs u z,rr h.probe rfl rfl y (Cb _) (Cb _),wc h.table h.doubts u H h.now0 _,h.coord,h.places,h.others⟩
  ·rcases aO.1 r with rfl|⟨r,_⟩
   ·exact u
   ·exact h.table.1 g r
  ·rcases aO.1 r with rfl|⟨r,_⟩
   ·exact I
   ·exact h.site g r
theorem xH {n:aa}(u:Asc (λg:af=>g.1) (aa.table n)){f g:af}{b:Int}(r:g.1≠f.1):g∈aa.table (sayOf n f b)<->g∈aa.table n:=by
 rcases oD u f b with e|⟨e,_⟩
 ·rw[e]
 ·rw[e];exact aO.trans ⟨λh=>h.elim (λh=>absurd (by rw[h]) r) (·.1),λh=>.inr ⟨h,r⟩⟩
theorem ru {n:aa}(z:Asc (λg:af=>g.1) (aa.table n)){f:af}{b:Int}(h:∀ g∈aa.table n,g.1=f.1->bD f g):f∈aa.table (sayOf n f b):=by
 have I:bg (aa.table n) f=(a7 (λg=>g.1) f (aa.table n),true):=by
  rcases k8 z f with e|⟨e,_⟩
  ·by_cases u:∃ g∈aa.table n,g.1=f.1
   ·obtain⟨g,r,y⟩:=u;obtain⟨i,H,rfl⟩:=B7 r;rw[ir z H y,if_pos (h _ r y)]
   ·exact fJ λg r e=>u ⟨g,r,e⟩
  ·exact e
 unfold Go.Proofs.YtadlacffdemoiaaGreatEv.sayOf;rw[I];exact aO.2 (.inl rfl)
def OnN (n m:aa):Prop:=∃ t c r,m=f9 n t c r
theorem OnN.refl (n:aa):OnN n n:=⟨_,_,_,rfl⟩
theorem OnN.say {n m:aa}(h:OnN n m)(f:af)(b:Int):OnN n (Go.Proofs.YtadlacffdemoiaaGreatEv.sayOf m f b):=by
 obtain⟨t,c,z,rfl⟩:=h;obtain⟨u,y,r,e,_⟩:=iK (f9 n t c z) f b;exact⟨u,y,r,e⟩
def mo (n:aa):af:=(n.1,n.2.2.2.2.1,(if n.2.2.1=true then 4 else 1),n.2.2.2.1)
theorem pj {n m:aa}(I:Asc (λg:af=>g.1) (aa.table m))(y:OnN n m){f:af}{b:Int}(r:f.1≠n.1)(h:de m):de (sayOf m f b):=by
 obtain⟨t,c,M,e⟩:=y.say f b;obtain⟨R,O,J,z⟩:=y;have H:mo n∈aa.table m:=by rw[z]at h ⊢;exact h
 have u:=(xH I (f:=f) (b:=b) (g:=mo n) (λh=>r h.symm)).2 H;rw[e]at u ⊢;exact u
theorem zb {n:aa}(h:UpX n)(y:de n){d:bQ}(u:d∈aa.doubts n):d.1≠n.1:=by
 obtain⟨⟨g,H,e,r,_⟩,_⟩:=h.doubts.1 d u;intro z;have I:mo n∈aa.table n:=y;have:=fb h.table.2 H I (by rw[e,z];rfl);rw[this]at r;revert r;show (if n.2.2.1=true then (4:Int) else 1)=2->False;split <;> omega
theorem ne {n:aa}(h:UpX n)(hs:de n):UpX (kq n)/\de (kq n)/\OnN n (kq n):=by
 have:=mh (st:=it) (Inv:=λm=>(UpX m/\de m/\OnN n m)/\∀ g∈aa.table n,∃ Y∈aa.table m,Y.1=g.1) (ds:=aa.doubts n) (n:=n) ⟨⟨h,hs,OnN.refl n⟩,λg y=>⟨g,y,rfl⟩⟩ ?_
 ·exact this.1
 ·rintro m d Z ⟨⟨r,u,I⟩,H⟩;have M:=zb h hs Z;unfold it;cases qF m.2.2.2.2.2.1 d.2.2.1 d.2.2.2.length with
  |false=>exact⟨⟨r,u,I⟩,H⟩
  |true =>
   obtain⟨⟨g,y,e,_⟩,_⟩:=h.doubts.1 d Z;obtain⟨Y,O,e'⟩:=H g y;obtain⟨h1,h2,h3⟩:=er r.table ⟨Y,O,e'.trans e⟩;have X:ak (kL (aR (aa.table m) d.1)).1=ak m.1:=by
    show ak (aR (aa.table m) d.1).1=ak m.1;exact r.site _ h3
   have J:(kL (aR (aa.table m) d.1)).1≠n.1:=by rw[show (kL (aR (aa.table m) d.1)).1=_ from h2];exact M
   refine⟨⟨r.said (u6 h1) X (eJ.me r.me),pj r.table.2 I J u,I.say _ _⟩,λg y=>?_⟩;obtain⟨g1,R,e1⟩:=H g y;obtain⟨g2,z,e2⟩:=jF (f:=kL (aR (aa.table m) d.1)) (b:=m.1) R;exact⟨g2,z,e2.trans e1⟩
theorem UpX.setProbe {n:aa}(h:UpX n){p:af}(r:c8 (setP n p)):UpX (setP n p):=⟨h.me,h.now0,h.table,h.site,h.cast,h.vs,r,h.doubts,h.coord,h.places,h.others⟩
theorem xI (n:aa):c8 (setP n noP):=by
 unfold c8;exact (if_pos rfl).mpr rfl
theorem xJ {n:aa}(h:UpX n)(z:de n):UpX (dl n).1/\de (dl n).1/\∃ p,OnN (setP n p) (dl n).1:=by
 have r:UpX n/\de n/\∃ p,OnN (setP n p) n:=⟨h,z,aa.probe n,OnN.refl n⟩;have y:UpX (setP n noP):=h.setProbe (xI n);unfold dl;cases X:(aa.probe n).1==-1 with
 |true=>exact r
 |false =>
  have H:(aa.probe n).1≠-1:=by simpa using X
  have u:=h.probe;unfold c8 at u;rw[if_neg H]at u;simp only[cond_false];cases M:eG (aR (aa.table n) (aa.probe n).1) with
  |false=>exact⟨y,z,_,OnN.refl _⟩
  |true =>
   obtain⟨R,J,O⟩:=er h.table (hH M);simp only[B6,cond_false];cases decide (n.2.2.2.2.2.1-(aa.probe n).2.1>=4) with
   |true =>
    simp only[cond_true];cases (aR (aa.table n) (aa.probe n).1).2.2.1==1 with
    |true =>
     have I:ak (pW (aR (aa.table n) (aa.probe n).1)).1=ak (setP n noP).1:=by
      show ak (aR (aa.table n) (aa.probe n).1).1=ak n.1;exact h.site _ O
     refine⟨y.said (Am R) I (eJ.me (n:=setP n noP) h.me),pj (n:=setP n noP) (m:=setP n noP) h.table.2 (OnN.refl (setP n noP)) ?_ z,noP,(OnN.refl (setP n noP)).say _ _⟩;rw[show (pW (aR (aa.table n) (aa.probe n).1)).1=_ from J];exact u.1
    |false=>exact⟨y,z,_,OnN.refl _⟩
   |false =>
    simp only[cond_false];cases decide (n.2.2.2.2.2.1-(aa.probe n).2.1>=2) with
    |false=>exact r
    |true =>
     simp only[cond_true];cases (aa.probe n).2.2.2 with
     |true=>exact r
     |false =>
      refine⟨h.setProbe ?_,z,_,OnN.refl _⟩;show c8 (lG n);unfold c8;rw[if_neg (show ¬ (aa.probe (lG n)).1=-1 from H)];exact u
def iX (n:aa):Option Int:=((List.range 8).map (cH n)).find? λx=>x != n.1&&eG (aR (aa.table n) x)
def jN (n:aa):Int:=n.2.2.2.2.2.2.1
def dU (n:aa):aa×List aj:=bif decide (jN n>=999999) then (n,[]) else match iX n with
 |some to=>(askN n to,[pingW n to])
 |none=>(n,[])
theorem rv {n:aa}{to:Int}(h:iX n=some to):to≠n.1/\eG (aR (aa.table n) to)=true:=by
 have:=DO h;simpa using this
theorem xK {l:List aL}{T:List Int}{x:aL}(h:x∈dC l T l.length):∃ y∈l,x.1=y.1:=by
 unfold dC at h;obtain⟨u,_⟩:=B5.1 h;obtain⟨i,r,rfl⟩:=B7 u;rw[eH]at r;rw[fe l T r];refine⟨l[i],BX r,?_⟩;unfold dO;rw[ct r];cases decide ((i:Int)∈T) <;> rfl
theorem UpX.way {n:aa}(h:UpX n):UpX (iW n):=⟨h.me,h.now0,h.table,h.site,yZ h.cast _,λx r=>by
 obtain⟨y,H,e⟩:=xK r;obtain⟨g,I,z,u⟩:=h.vs y H;exact⟨g,I,by rw[e,z],by rw[e];exact u⟩,h.probe,h.doubts,h.coord,h.places,h.others⟩
structure tt (n:aa):Prop where
 seq:InP (jN n) 0 999999
 turn:InP n.2.2.2.2.2.2.2.1 0 8
theorem Bs {n:aa}(h:UpX n)(y:de n)(z:tt n):UpX (dU n).1/\de (dU n).1/\tt (dU n).1/\(dU n).1.1=n.1/\cg (dU n).1=cg n/\(dU n).1.2.2.2.2.1=n.2.2.2.2.1:=by
 unfold dU;by_cases H:jN n>=999999
 ·rw[decide_eq_true H];exact⟨h,y,z,rfl,rfl,rfl⟩
 ·rw[decide_eq_false H];simp only[cond_false];cases M:iX n with
  |none=>exact⟨h,y,z,rfl,rfl,rfl⟩
  |some to =>
   obtain⟨u,O⟩:=rv M;obtain⟨X,I,R⟩:=er h.table (hH O);obtain⟨⟨Y,Z⟩,_⟩:=z;have r:InP to 0 7:=I ▸ X.1;have J:=h.way;refine⟨⟨h.me,h.now0,h.table,h.site,J.cast,J.vs,?_,h.doubts,h.coord,h.places,h.others⟩,y,⟨⟨show 0<=jN n+1 by omega,show jN n+1<=999999 by omega⟩,show 0<=to+1 by have:=r.1;omega,show to+1<=8 by have:=r.2;omega⟩,rfl,rfl,rfl⟩;show c8 (askN n to);unfold c8;rw[if_neg (show ¬ (aa.probe (askN n to)).1=-1 by have:=r.1;show ¬ to=-1;omega)];exact⟨u,⟨_,R,I⟩,⟨h.now0,Cb _⟩,show 1<=jN n+1 by omega,Cb _⟩
def d9 (n:aa):aa:=(n.1,n.2.1,n.2.2.1,n.2.2.2.1,n.2.2.2.2.1,n.2.2.2.2.2.1+1,n.2.2.2.2.2.2)
def fw (m:aa):aa×List aj:=bif (aa.probe m).1==-1 then dU m else (m,[])
def fy (n:aa):aa×List aj:=dl (kq (d9 n))
def kM (n:aa):aa:=(fw (fy n).1).1
def pZ (n:aa)(r:Int):List aj:=(fy n).2++(fw (fy n).1).2++kg (kM n) r
theorem UpX.later {n:aa}(h:UpX n):UpX (d9 n):=by
 have J:cg (d9 n)=cg n+1:=rfl;have M:=h.now0;refine⟨h.me,by omega,h.table,h.site,h.cast,h.vs,rr h.probe rfl rfl (λg z=>⟨g,z,rfl⟩) (by omega) (Cb _),⟨λd u=>?_,h.doubts.2⟩,h.coord,h.places,h.others⟩;obtain⟨I,⟨y,H⟩,r⟩:=h.doubts.1 d u;exact⟨I,⟨y,C5 H (show cg n<=cg (d9 n) by omega)⟩,r⟩
structure UpN (n:aa):Prop where
 x:UpX n
 self:de n
 now1:cg n<=999999
 seq:tt n
 inc:InP n.2.2.2.2.1 0 999
 up:n.2.1=true
theorem UpN.of {n:aa}(h:fg n)(u:n.2.1=true):UpN n:=by
 obtain⟨J,y,I,H,z,r⟩:=h;rw[if_pos u]at r;exact⟨UpX.of r J y.1,r.2.2.1,y.2,⟨I,H⟩,z,u⟩
theorem UpN.ok {n:aa}(h:UpN n):fg n:=⟨h.x.me,⟨h.x.now0,h.now1⟩,h.seq.seq,h.seq.turn,h.inc,by rw[if_pos h.up];exact h.x.up h.self⟩
theorem p6 {n:aa}(h:UpN n)(X:cg n<999999):UpN (fy n).1/\(fy n).1.1=n.1/\(fy n).1.2.2.1=n.2.2.1:=by
 have u:de (d9 n):=h.self;obtain⟨M,z,I⟩:=ne h.x.later u;obtain⟨J,H,p,O⟩:=xJ M z;obtain⟨t,c,Y,y⟩:=I;obtain⟨t',Z,R,r⟩:=O;have e:(fy n).1=_:=r;rw[y]at e;refine⟨⟨J,H,?_,⟨?_,?_⟩,?_,?_⟩,?_,?_⟩
 ·show cg (fy n).1<=999999;rw[e];show cg n+1<=999999;omega
 ·show InP (jN (fy n).1) 0 999999;rw[e];exact h.seq.seq
 ·show InP (fy n).1.2.2.2.2.2.2.2.1 0 8;rw[e];exact h.seq.turn
 ·show InP (fy n).1.2.2.2.2.1 0 999;rw[e];exact h.inc
 ·show (fy n).1.2.1=true;rw[e];exact h.up
 ·rw[e];rfl
 ·rw[e];rfl
theorem tu {m:aa}:(dU m).1.2.1=m.2.1/\(dU m).1.2.2.1=m.2.2.1:=by
 unfold dU;cases decide (jN m>=999999) with
 |true=>exact⟨rfl,rfl⟩
 |false =>
  cases iX m with
  |none=>exact⟨rfl,rfl⟩
  |some to=>exact⟨rfl,rfl⟩
theorem we {m:aa}(h:UpN m):UpN (fw m).1/\(fw m).1.1=m.1/\(fw m).1.2.2.1=m.2.2.1:=by
 unfold fw;cases (aa.probe m).1==-1 with
 |false=>exact⟨h,rfl,rfl⟩
 |true =>
  obtain⟨I,y,H,r,u,z⟩:=Bs h.x h.self h.seq;refine⟨⟨I,y,?_,H,?_,?_⟩,r,tu.2⟩
  ·show cg (dU m).1<=999999;rw[u];exact h.now1
  ·show InP (dU m).1.2.2.2.2.1 0 999;rw[z];exact h.inc
  ·show (dU m).1.2.1=true;rw[tu.1];exact h.up
theorem qG {n:aa}(h:UpN n)(r:cg n<999999):UpN (kM n)/\(kM n).1=n.1/\(kM n).2.2.1=n.2.2.1:=by
 obtain⟨J,H,I⟩:=p6 h r;obtain⟨z,u,y⟩:=we J;exact⟨z,u.trans H,y.trans I⟩
theorem zc {f g:af}(h:g.2.1<f.2.1):bD f g:=by
 unfold bD;rw[if_pos (by omega)];exact h
theorem At {f g:af}(h:bD f g):g.2.1<=f.2.1:=by
 unfold bD at h;split at h <;> omega
theorem UpX.inc {n:aa}(h:UpX n)(i:Int):UpX (gb n i):=⟨h.me,h.now0,h.table,h.site,h.cast,h.vs,h.probe,h.doubts,h.coord,h.places,h.others⟩
theorem rx {n:aa}(h:UpX n)(r:de n){g:af}(u:g∈aa.table n)(e:g.1=n.1):g=mo n:=fb h.table.2 u r (by rw[e];rfl)
theorem xL {n:aa}(h:UpX n)(r:de n):aR (aa.table n) n.1=mo n:=jD h.table.2 (f:=mo n) r
theorem zd {n:aa}(h:UpN n)(z:n.2.2.1=false):UpN (m7 n)/\(m7 n).1=n.1:=by
 have H:aV (n.1,n.2.2.2.2.1,4,n.2.2.2.1):=⟨h.x.me,h.inc,show (1:Int)<=4 by omega,show (4:Int)<=4 by omega⟩;have r:=h.x.said H rfl (eJ.me h.x.me);have y:(n.1,n.2.2.2.2.1,(4:Int),n.2.2.2.1)∈aa.table (sayOf n (n.1,n.2.2.2.2.1,4,n.2.2.2.1) n.1):=ru h.x.table.2 λg u e=>by
  rw[rx h.x h.self u e];unfold bD mo;rw[z];simp
 obtain⟨t,c,I,e⟩:=(OnN.refl n).say (n.1,n.2.2.2.2.1,4,n.2.2.2.1) n.1;unfold m7;rw[e]at r y ⊢;exact⟨⟨⟨r.me,r.now0,r.table,r.site,r.cast,r.vs,r.probe,r.doubts,r.coord,r.places,r.others⟩,y,h.now1,⟨h.seq.seq,h.seq.turn⟩,h.inc,h.up⟩,rfl⟩
theorem xM {n:aa}{f:af}(h:UpN n)(y:n.2.2.1=false)(R:aV f):UpN (dH n f)/\(dH n f).1=n.1/\(dH n f).2.2.1=false:=by
 unfold dH;cases H:decide (bD f (aR (aa.table n) n.1))&&decide (f.2.1<999) with
 |false=>exact⟨h,rfl,y⟩
 |true =>
  rw[Cc,decide_eq_true_eq,decide_eq_true_eq,xL h.x h.self]at H;obtain⟨J,X⟩:=H;have O:n.2.2.2.2.1<=f.2.1:=At J;have r:=oa (n:=n) h.x.me R X;have z:UpX (sayOf (gb n (f.2.1+1)) (n.1,f.2.1+1,1,n.2.2.2.1) n.1):=(h.x.inc (f.2.1+1)).said r rfl (eJ.me (n:=gb n (f.2.1+1)) h.x.me);have I:(n.1,f.2.1+1,(1:Int),n.2.2.2.1)∈aa.table (sayOf (gb n (f.2.1+1)) (n.1,f.2.1+1,1,n.2.2.2.1) n.1):=ru (n:=gb n (f.2.1+1)) h.x.table.2 λg u e=>by
   rw[rx h.x h.self u e];exact zc (show n.2.2.2.2.1<f.2.1+1 by omega)
  obtain⟨t,c,M,e⟩:=(OnN.refl (gb n (f.2.1+1))).say (n.1,f.2.1+1,1,n.2.2.2.1) n.1;simp only[cond_true];rw[show sayOf (gb n (f.2.1+1)) (n.1,f.2.1+1,1,n.2.2.2.1) n.1=f9 (gb n (f.2.1+1)) t c M from e]at z I ⊢;refine⟨⟨z,?_,h.now1,⟨h.seq.seq,h.seq.turn⟩,r.2.1,h.up⟩,rfl,y⟩;show (n.1,f.2.1+1,(if n.2.2.1=true then (4:Int) else 1),n.2.2.2.1)∈_;rw[y];exact I
theorem nf (f:af)(b:Int)(d:bQ):(dM f b d).1=d.1/\(dM f b d).2.1=d.2.1/\(dM f b d).2.2.1=d.2.2.1:=by
 unfold dM;cases d.1==f.1&&d.2.1==f.2.1&&f.2.2.1==2 <;> exact⟨rfl,rfl,rfl⟩
theorem UpX.conf {n:aa}(h:UpX n)(f:af){b:Int}(Z:eJ n b):UpX (jG n f b):=by
 refine⟨h.me,h.now0,h.table,h.site,h.cast,h.vs,h.probe,⟨λd Y=>?_,?_,?_⟩,h.coord,h.places,h.others⟩
 ·obtain⟨r,u,rfl⟩:=CM.1 Y;obtain⟨O,X,k3⟩:=nf f b r;obtain⟨⟨g,R,I,H,e3⟩,J,M,z⟩:=h.doubts.1 r u;refine⟨⟨g,R,by rw[O];exact I,H,by rw[X];exact e3⟩,by rw[k3];exact J,?_⟩;unfold dM;cases r.1==f.1&&r.2.1==f.2.1&&f.2.2.1==2 with
  |false=>exact⟨M,z⟩
  |true =>
   refine⟨List.ne_nil_of_mem (aO.2 (.inl rfl)),λx y=>?_,eF z.2⟩;rcases aO.1 y with rfl|⟨y,_⟩
   ·exact Z
   ·exact z.1 x y
 ·show Asc _ ((aa.doubts n).map (dM f b));unfold Asc;rw[CQ];exact h.doubts.2.1.imp λ {a c} h=>by show (dM f b a).1<(dM f b c).1;rw[(nf f b a).1,(nf f b c).1];exact h
 ·show _=((aa.doubts n).map (dM f b)).length;rw[CH];exact h.doubts.2.2
theorem ng {n:aa}{f:af}{b:Int}(h:UpN n)(H:n.2.2.1=false)(I:aV f)(J:ak f.1=ak n.1)(z:eJ n b):UpN (cR b n f)/\(cR b n f).1=n.1/\(cR b n f).2.2.1=false:=by
 unfold cR;by_cases r:f.1=n.1
 ·rw[show (f.1==n.1)=true by simpa using r];exact xM h H I
 ·rw[show (f.1==n.1)=false by simpa using r];have y:=h.x.said I J z;have u:=pj h.x.table.2 (OnN.refl n) (b:=b) r h.self;obtain⟨t,c,M,e⟩:=(OnN.refl n).say f b;simp only[cond_false];rw[show sayOf n f b=f9 n t c M from e]at y u ⊢;exact⟨⟨y.conf f z,u,h.now1,⟨h.seq.seq,h.seq.turn⟩,h.inc,h.up⟩,rfl,H⟩
theorem kt {n:aa}{t:List af}{b:Int}(h:UpN n)(H:n.2.2.1=false)(J:aw t)(z:ca t (ak n.1))(u:eJ n b):UpN (eV n t b)/\(eV n t b).1=n.1/\(eV n t b).2.2.1=false:=by
 refine mh (st:=cR b) (Inv:=λm=>UpN m/\m.1=n.1/\m.2.2.1=false) (ds:=t) (n:=n) ⟨h,rfl,H⟩ λm f y ⟨M,r,I⟩=>?_
 have:=ng (b:=b) M I (J.1 f y) (by rw[r];exact z f y) ⟨u.1,by rw[r];exact u.2⟩;exact⟨this.1,this.2.1.trans r,this.2.2⟩
theorem UpN.learns {n:aa}(h:UpN n):dt n:=⟨h.x.say,h.x.me,⟨_,h.self,rfl⟩,λd y=>by
 obtain⟨_,_,_,r⟩:=h.x.doubts.1 d y;exact⟨r.2,λx u=>(r.1 x u).1⟩⟩
def k9 (n:aa)(o:List aY):aa:=(n.1,n.2.1,n.2.2.1,n.2.2.2.1,n.2.2.2.2.1,n.2.2.2.2.2.1,n.2.2.2.2.2.2.1,n.2.2.2.2.2.2.2.1,n.2.2.2.2.2.2.2.2.1,n.2.2.2.2.2.2.2.2.2.1,n.2.2.2.2.2.2.2.2.2.2.1,n.2.2.2.2.2.2.2.2.2.2.2.1,n.2.2.2.2.2.2.2.2.2.2.2.2.1,n.2.2.2.2.2.2.2.2.2.2.2.2.2.1,o)
theorem UpN.setOthers {n:aa}(h:UpN n){o:List aY}(r:cM n.1 o):UpN (k9 n o):=⟨⟨h.x.me,h.x.now0,h.x.table,h.x.site,h.x.cast,h.x.vs,h.x.probe,h.x.doubts,h.x.coord,h.x.places,r⟩,h.self,h.now1,⟨h.seq.seq,h.seq.turn⟩,h.inc,h.up⟩
theorem wg {y s:Int}{r:List af}{o:List aY}(I:cM y o)(M:InP s 0 1)(z:s≠ak y)(J:r≠[])(O:aw r)(H:ca r s):cM y (a7 (λx:aY=>x.1) (s,r) o) :=
 ⟨λx u=>by
  rcases aO.1 u with rfl|⟨u,_⟩
  ·exact⟨M,z,J,O,H⟩
  ·exact I.1 x u,eF I.2⟩
def hM (l:List Int)(t:Int):List Int:=(l++[t]).drop ((l++[t]).length-3)
def dI (l:List dL)(r:Int):List Int:=((l.find? λp=>p.1==r).map (·.2.2)).getD []
def pm (l:List dL)(r:Int)(c:dA)(t:Int):List dL:=a7 (λp=>p.1) (r,c,hM (dI l r) t) l
def p7 (n:aa)(c:dA)(p:List dL):aa:=(n.1,n.2.1,n.2.2.1,n.2.2.2.1,n.2.2.2.2.1,n.2.2.2.2.2.1,n.2.2.2.2.2.2.1,n.2.2.2.2.2.2.2.1,n.2.2.2.2.2.2.2.2.1,n.2.2.2.2.2.2.2.2.2.1,noP,n.2.2.2.2.2.2.2.2.2.2.2.1,c,p,n.2.2.2.2.2.2.2.2.2.2.2.2.2.2)
theorem uC {l:List dL}{r:Int}{t:Int}(h:t∈dI l r):∃ p∈l,t∈p.2.2:=by
 unfold dI at h;cases u:l.find? λp=>p.1==r with
 |none=>rw[u]at h;simp at h
 |some p =>
  rw[u]at h;exact⟨p,Cw u,h⟩
theorem xN {l:List Int}{t:Int}(y:∀ x∈l,InP x 1 60000)(u:InP t 1 60000):InP ((hM l t).length:Int) 1 3/\∀ x∈hM l t,InP x 1 60000:=by
 unfold hM;constructor
 ·simp only[CT,CD,B4,B9];constructor <;> omega
 ·intro x r;have:=List.mem_of_mem_drop r;rcases CW.1 this with h|h
  ·exact y x h
  ·rw[CS.1 h];exact u
theorem wh {y r:Int}{l:List dL}{c:dA}{t:Int}(h:eB y l)(I:InP r 0 7)(R:ak r=ak y)(J:r≠y)(O:cG c)(M:InP t 1 60000):eB y (pm l r c t):=by
 have H:=xN (l:=dI l r) (t:=t) (λx z=>by
  obtain⟨p,u,z⟩:=uC z;exact (h.1 p u).2.2.2.2.2 x z) M
 exact⟨λp u=>by
  rcases aO.1 u with rfl|⟨u,_⟩
  ·exact⟨I,R,J,O,H.1,H.2⟩
  ·exact h.1 p u,eF h.2⟩
theorem UpN.heard {n:aa}(h:UpN n){c:dA}{p:List dL}(r:cG c)(u:eB n.1 p):UpN (p7 n c p):=⟨⟨h.x.me,h.x.now0,h.x.table,h.x.site,h.x.cast,h.x.vs,xI n,h.x.doubts,r,u,h.x.others⟩,h.self,h.now1,⟨h.seq.seq,h.seq.turn⟩,h.inc,h.up⟩
theorem UpN.way {n:aa}(h:UpN n):UpN (iW n):=⟨h.x.way,h.self,h.now1,⟨h.seq.seq,h.seq.turn⟩,h.inc,h.up⟩
def Tot {α:Type}(o:Option α)(P:α->Prop):Prop:=∃ v,o=some v/\P v
section
variable {α β:Type} {P:α->Prop} {Q:β->Prop}
theorem Tot.ret {v:α}(h:P v):Tot (some v) P:=⟨v,rfl,h⟩
theorem Tot.mono {o:Option α}{r:α->Prop}(h:Tot o P)(k:∀ v,P v->r v):Tot o r:=by obtain⟨v,e,u⟩:=h;exact⟨v,e,k v u⟩
theorem Tot.bind {o:Option α}{g:α->Option β}(h:Tot o P)(k:∀ v,P v->Tot (g v) Q):Tot (o.bind g) Q:=by obtain⟨v,e,r⟩:=h;rw[e];exact k v r
theorem Tot.vl {o:Option α}{v:α}{g:α->Option β}(e:o=some v)(k:Tot (g v) Q):Tot (o.bind g) Q:=by rw[e];exact k
theorem Tot.cnd {b:Bool}{x y:Option α}(u:b=true->Tot x P)(r:b=false->Tot y P):Tot (bif b then x else y) P:=by
 cases b
 ·exact r rfl
 ·exact u rfl
theorem Tot.must {b:Bool}{x y:Option α}(r:b=true)(h:Tot x P):Tot (bif b then x else y) P:=by rw[r];exact h
theorem Tot.not {b:Bool}{x y:Option α}(r:b=false)(h:Tot x P):Tot (bif b then y else x) P:=by rw[r];exact h
theorem Tot.ix {xs:List α}{i:Int}{g:α->Option β}(u:0<=i)(z:i<xs.length)(k:∀ y∈xs,idx xs i=some y->Tot (g y) Q):Tot ((idx xs i).bind g) Q:=by
 obtain⟨n,rfl⟩:=BZ u;have r:n<xs.length:=by omega
 have:=ag r;rw[this];exact k _ (BX r) this
theorem Tot.iter {A:Type}{step:(A->Option β)->A->Option β}(Inv:A->Prop)(m:A->Nat)(h:∀ (rec:A->Option β) (a:A),Inv a->(∀ r,Inv r->m r<m a->Tot (rec r) Q)->Tot (step rec a) Q):∀ (k:Nat) (a:A),m a<k->Inv a->Tot (ae step k a) Q:=by
 intro k;induction k with
 |zero=>intro a I;omega
 |succ k z =>
  intro a I H;exact h (ae step k) a H λr u y=>z r (by omega) u
end
theorem Ret.tot {o:Option RB}{P:Prop}(h:Ret o P):Tot o λv=>(v.1.1=true<->P):=by
 obtain⟨b,e,r⟩:=h;exact⟨_,e,r⟩
section
variable {α β:Type} {Q:β->Prop}
theorem Tot.cat {x y:ByteArray}{k:ByteArray->Option β}{a b:Nat}(r:x.size<=a)(u:y.size<=b)(h:∀ z:ByteArray,z.size<=a+b->Tot (k z) Q)(H:a+b<=4611686018427387904:=by omega):Tot (aX x y k) Q:=by
 unfold aX;rw[decide_eq_true (by omega)];exact h _ (by rw[ByteArray.size_append];omega)
theorem Tot.fit {a b c:Nat}{x y:Option β}(h:Tot x Q)(u:c<=1000:=by omega)(r:a+b<=2097152:=by omega):Tot (bif decide ((a+b)*c<=an) then x else y) Q:=by
 have:=C3 r u;rw[decide_eq_true (by unfold an;omega)];exact h
theorem Tot.ix2 {xs:List α}{i:Int}{g:α->Option β}(r:0<=i)(z:i<xs.length)(k:∀ y∈xs,idx xs i=some y->Tot (g y) Q):Tot ((idx xs i).bind λ_=>(idx xs ((BY i:Nat):Int)).bind g) Q :=
 Tot.ix r z λy u e=>by rw[Int.toNat_of_nonneg r,e];exact k y u e
end
theorem fO (s:ByteArray):s.data.toList.length=s.size:=Array.length_toList
theorem iY (xs:List Int):(gN xs).size=xs.length:=by
 unfold gN;show (List.toArray _).size=_;rw[List.size_toArray,CH]
theorem rz (s:ByteArray):(eA s).length=s.size:=by
 unfold eA;rw[CH];exact fO s
theorem dec_t:∀ (d k:Nat) (n:Int),0<=n->n<10 ^ (d+1)->n<=1000000000->d<=100->d<k->Tot (Q0.f k (n,())) λr=>r.1.1.size<=d+1:=by
 intro d;induction d with
 |zero =>
  intro k n H y I X O;obtain⟨k,rfl⟩:∃ m,k=m+1:=⟨k-1,by omega⟩;show Tot (Q0.step (Q0.f k) (n,())) _;simp only[Q0.step];refine Tot.not (decide_eq_false (show ¬ n< -9223372036854775807 by omega)) (Tot.not (decide_eq_false (show ¬ n<0 by omega)) (Tot.must (decide_eq_true (show n<10 by exact y)) (Tot.ret ?_)));show (gN _).size<=1;rw[iY];exact CF _
 |succ d Y =>
  intro k n H y I X O;obtain⟨k,rfl⟩:∃ m,k=m+1:=⟨k-1,by omega⟩;show Tot (Q0.step (Q0.f k) (n,())) _;simp only[Q0.step];refine Tot.not (decide_eq_false (show ¬ n< -9223372036854775807 by omega)) (Tot.not (decide_eq_false (show ¬ n<0 by omega)) (Tot.cnd (λ_=>Tot.ret ?_) λh=>?_))
  ·show (gN _).size<=_;rw[iY];exact Nat.succ_le_succ (CL _)
  ·have h:¬ n<10:=of_decide_eq_false h;have e:C4 n 10=n / 10:=by rw[CV H]
   have u:(10:Int) ^ (d+1+1)=10 ^ (d+1)*10:=Int.pow_succ ..;have M:n / 10<10 ^ (d+1):=Int.ediv_lt_of_lt_mul (by omega) (by rw[<- u];exact y);rw[e,aJ (by omega) (by omega)];refine Tot.bind (Y k (n / 10) (by omega) M (by omega) (by omega) (by omega)) λv R=>Tot.cat R (b:=1) (by rw[iY];exact CF _) (λz J=>Tot.ret J) (by omega)
theorem la (K:Nat)(n:Int)(u:0<=n)(y:n<=999999)(z:1048577<K):Tot (Q0.f K (n,())) λr=>r.1.1.size<=6 :=
 dec_t 5 K n u (by show n<1000000;omega) (by omega) (by omega) (by omega)
theorem tv (K:Nat)(i:Int)(u:0<=i)(y:i<=4):Tot (Q64.f K (i,())) λr=>r.1.1.size<=7:=by
 have:i=0\/i=1\/i=2\/i=3\/i=4:=by omega
 rcases this with rfl|rfl|rfl|rfl|rfl <;> exact⟨_,rfl,by decide⟩
theorem tw (K:Nat)(i:Int)(u:0<=i)(y:i<=6):Tot (Q61.f K (i,())) λr=>r.1.1.size<=4:=by
 have:i=0\/i=1\/i=2\/i=3\/i=4\/i=5\/i=6:=by omega
 rcases this with rfl|rfl|rfl|rfl|rfl|rfl|rfl <;> exact⟨_,rfl,by decide⟩
theorem ze (K:Nat)(t:List af)(Z:aw t)(hK:1048577<K):Tot (Q67.f K (t,())) λr=>r.1.1.size<=240:=by
 have hl:=iU Z.2 (λg hg=>(Z.1 g hg).1);refine Tot.iter (step:=λrec a=>Q67.s0 K (t,()) rec a) (λa=>0<=a.2/\a.2<=t.length/\(a.1.size:Int)<=30*a.2) (λa=>t.length-a.2.toNat) ?_ K _ (by show t.length-BY 0<K;omega) ⟨by show (0:Int)<=0;omega,by show (0:Int)<=_;omega,by show (0:Int)<=30*0;omega⟩;rintro rec ⟨s,i⟩ ⟨h0,h1,h2⟩ ih;simp only at h0 h1 h2 ih ⊢;simp only[Q67.s0];refine Tot.cnd (λh=>?_) λh=>?_
 ·have h:=of_decide_eq_true h;obtain⟨n,rfl⟩:=BZ h0;have hn:n<t.length:=by omega
  obtain⟨⟨f1,f2⟩,⟨f3,f4⟩,f5,f6⟩:=Z.1 t[n] (BX hn);rw[ag hn,ar n (by omega)];simp only[BV];have go:∀ z:ByteArray,z.size<=s.size+29->Tot (rec (z,((n+1:Nat):Int))) λr=>r.1.1.size<=240:=λz hz=>ih _ ⟨by show (0:Int)<=((n+1:Nat):Int);omega,by show ((n+1:Nat):Int)<=_;omega,by show (z.size:Int)<=30*((n+1:Nat):Int);omega⟩ (by show t.length-BY ((n+1:Nat):Int)<t.length-BY (n:Int);omega)
  have body:∀ R:ByteArray,R.size<=s.size+1->Tot ((Q0.f K (t[n].1,())).bind λy3=>aX R y3.1.1 λy4=>aX y4 (ByteArray.mk #[58]) λy5=>(Q0.f K (t[n].2.1,())).bind λy7=>aX y5 y7.1.1 λy8=>aX y8 (ByteArray.mk #[58]) λy9=>(Q64.f K (t[n].2.2.1,())).bind λX=>aX y9 X.1.1 λu=>bif t[n].2.2.2 then (aX u (ByteArray.mk #[42]) λY=>rec (Y,((n+1:Nat):Int))) else (rec (u,((n+1:Nat):Int)))) λr=>r.1.1.size<=240:=λR H =>
   Tot.bind (la K _ f1 (by omega) hK) λv1 s1=>Tot.cat H s1 λz1 I=>Tot.cat I (b:=1) (by decide) λz2 O =>
   Tot.bind (la K _ f3 (by omega) hK) λv2 s2=>Tot.cat O s2 λz3 y=>Tot.cat y (b:=1) (by decide) λz4 M =>
   Tot.bind (tv K _ (by omega) f6) λv3 s3=>Tot.cat M s3 λz5 J =>
   Tot.cnd (λ_=>Tot.cat J (b:=1) (by decide) λz6 a0=>go z6 (by omega)) λ_=>go z5 (by omega)
  exact Tot.cnd (λ_=>Tot.cat (CF _) (b:=1) (by decide) λz hz=>body z hz) λ_=>body s (by omega)
 ·have h:=of_decide_eq_false h;exact Tot.ret (by show s.size<=240;omega)
theorem oE (K:Nat)(t:List af)(H:t.length<=1048576)(u:1048577<K):Tot (Q68.f K (t,())) λr=>r.1.1.size<=240:=by
 simp only[Q68.f];refine Tot.bind (gy K t H u).tot λv y=>Tot.cnd (λ_=>Tot.ret (by show (0:Nat)<=240;omega)) λh=>?_
 have z:=y.1 (by simpa using h);exact Tot.cnd (λ_=>Tot.ret (by show (1:Nat)<=240;omega)) λ_=>Tot.bind (ze K t z u) λv h=>Tot.ret h
theorem p8 (K:Nat)(n:Int)(H:-999999<=n)(I:n<=999999)(y:1048577<K):Tot (Q70.f K (n,())) λr=>r.1.1.size<=7:=by
 simp only[Q70.f];refine Tot.cnd (λh=>?_) λh=>?_
 ·have h:n<0:=of_decide_eq_true h;rw[aJ (by omega) (by omega)];exact Tot.bind (la K _ (by omega) (by omega) y) λv s=>Tot.cat (a:=1) (by decide) s λz u=>Tot.ret u
 ·have h:¬ n<0:=of_decide_eq_false h;exact Tot.bind (la K _ (by omega) (by omega) y) λv s=>Tot.cat (a:=1) (by decide) s λz u=>Tot.ret u
theorem zf (K:Nat)(w:aj)(R:dB w)(y:1048577<K):Tot (Q71.f K (w,())) λr=>r.1.1.size<=400:=by
 obtain⟨_,⟨a1,J⟩,⟨X,b2⟩,⟨H,c2⟩,⟨I,d2⟩,⟨z,Z⟩,⟨⟨x1,x2⟩,⟨y1,y2⟩,⟨O,z2⟩,⟨u1,u2⟩⟩,Y,_⟩:=R;have M:=bV Y;simp only[Q71.f];have u:(ByteArray.mk #[32]).size<=1:=by decide
 refine Tot.cnd (λ_=>?_) λ_=>?_ <;>
 exact Tot.cat (a:=3) (by decide) u λ_ h=>Tot.bind (tw K _ (by omega) J) λ_ s=>Tot.cat h s λ_ h=>Tot.cat h u λ_ h =>
  Tot.bind (la K _ X (by omega) y) λ_ s=>Tot.cat h s λ_ h=>Tot.cat h u λ_ h =>
  Tot.bind (la K _ H (by omega) y) λ_ s=>Tot.cat h s λ_ h=>Tot.cat h u λ_ h =>
  Tot.bind (la K _ I (by omega) y) λ_ s=>Tot.cat h s λ_ h=>Tot.cat h u λ_ h =>
  Tot.bind (la K _ z (by omega) y) λ_ s=>Tot.cat h s λ_ h=>Tot.cat h u λ_ h =>
  Tot.bind (p8 K _ (by show -999999<=(aj.coord w).1;omega) (by show (aj.coord w).1<=999999;omega) y) λ_ s=>Tot.cat h s λ_ h=>Tot.cat h u λ_ h =>
  Tot.bind (p8 K _ (by show -999999<=(aj.coord w).2.1;omega) (by show (aj.coord w).2.1<=999999;omega) y) λ_ s=>Tot.cat h s λ_ h=>Tot.cat h u λ_ h =>
  Tot.bind (la K _ O (by show (aj.coord w).2.2.1<=999999;omega) y) λ_ s=>Tot.cat h s λ_ h=>Tot.cat h u λ_ h =>
  Tot.bind (la K _ (by show 0<=(aj.coord w).2.2.2;omega) (by show (aj.coord w).2.2.2<=999999;omega) y) λ_ s=>Tot.cat h s λ_ h=>Tot.cat h u λ_ h =>
  Tot.bind (oE K _ M y) λ_ s=>Tot.cat h s λ_ h=>Tot.ret (CP h (by decide))
theorem zg (K:Nat)(n:Int)(I:1048577<K):Tot (Q73.f K (n,())) λ_=>True:=by
 refine Tot.iter (step:=λrec a=>Q73.s0 K (n,()) rec a) (λa=>0<=a.2/\a.2<=8) (λa=>8-a.2.toNat) ?_ K _ (by show 8-BY 0<K;omega) ⟨by show (0:Int)<=0;omega,by show (0:Int)<=8;omega⟩;rintro rec ⟨s,i⟩ ⟨u,H⟩ r;simp only at u H r ⊢;simp only[Q73.s0];obtain⟨i,rfl⟩:=BZ u;refine Tot.cnd (λh=>?_) λ_=>Tot.ret trivial
 have h:=of_decide_eq_true h;rw[ar i (by omega)];have y:∀ z:Int,Tot (rec (z,((i+1:Nat):Int))) λ_=>True:=λz=>r _ ⟨by show (0:Int)<=((i+1:Nat):Int);omega,by show ((i+1:Nat):Int)<=8;omega⟩ (by show 8-BY ((i+1:Nat):Int)<8-BY (i:Int);omega)
 exact Tot.cnd (λ_=>y _) λ_=>y _
theorem Au (K:Nat)(s:ByteArray)(J:s.size<=1000000)(I:1048577<K):Tot (Q74.f K (s,())) λ_=>True:=by
 refine Tot.iter (step:=λrec a=>Q74.s0 K (s,()) rec a) (λa=>0<=a.2/\a.2<=s.size) (λa=>s.size-a.2.toNat) ?_ K _ (by show s.size-BY 0<K;omega) ⟨by show (0:Int)<=0;omega,by show (0:Int)<=_;omega⟩;rintro rec ⟨z,i⟩ ⟨r,H⟩ u;simp only at r H u ⊢;simp only[Q74.s0];obtain⟨i,rfl⟩:=BZ r;refine Tot.cnd (λh=>?_) λ_=>Tot.ret trivial
 have h:=of_decide_eq_true h;rw[ar i (by omega)];exact Tot.ix r (by rw[fO];exact h) λy _ _=>Tot.bind (zg K _ I) λv _=>u _ ⟨by show (0:Int)<=((i+1:Nat):Int);omega,by show ((i+1:Nat):Int)<=_;omega⟩ (by show s.size-BY ((i+1:Nat):Int)<s.size-BY (i:Int);omega)
theorem hex_t (K:Nat)(n:Int)(R:1048577<K):Tot (Q72.f K (n,())) λr=>r.1.1.size<=8:=by
 refine Tot.iter (step:=λrec a=>Q72.s0 K (n,()) rec a) (λa=>-1<=a.2/\a.2<=7/\a.1.length=7-a.2) (λa=>(a.2+1).toNat) ?_ K _ (by show BY 8<K;omega) ⟨by show (-1:Int)<=7;omega,by show (7:Int)<=7;omega,by show (0:Int)=7-7;omega⟩;rintro rec ⟨z,i⟩ ⟨H,I,J⟩ u;simp only at H I J u ⊢;simp only[Q72.s0];refine Tot.cnd (λh=>?_) λh=>?_
 ·have h:=of_decide_eq_true h;rw[aJ (n:=4*i) (by omega) (by omega),aJ (n:=i-1) (by omega) (by omega)];obtain⟨O,M⟩:=lI (a:=CY n (2 ^ min (BY (4*i)) 64)) (m:=15) (by omega);refine Tot.not (decide_eq_false (by omega)) (Tot.ix O (Int.lt_of_le_of_lt M (by decide)) λy _ _=>Tot.fit ?_ (by omega) (by simp only[B4,B9];omega));exact u _ ⟨by show -1<=i-1;omega,by show i-1<=7;omega,by show ((z++[_]).length:Int)=7-(i-1);rw[CD,Co];omega⟩ (by show BY (i-1+1)<BY (i+1);omega)
 ·have h:=of_decide_eq_false h;refine Tot.ret ?_;show (gN z).size<=8;rw[iY];omega
theorem oF (K:Nat)(w:aj)(O:(aj.table w).length<=1048576)(u:1048577<K):Tot (Q75.f K (w,())) λr=>r.1.1.size<=409/\(¬ dB w->r.1.1=ByteArray.mk #[]):=by
 simp only[Q75.f];refine Tot.bind (mf K w O u).tot λv J=>Tot.cnd (λ_=>Tot.ret ⟨by show (0:Nat)<=409;omega,λ_=>rfl⟩) λh=>?_
 have H:=J.1 (by simpa using h);exact Tot.bind (zf K w H u) λb M=>Tot.cat M (b:=1) (by decide) λz y=>Tot.bind (Au K _ (by omega) u) λs _=>Tot.bind (hex_t K _ u) λx I=>Tot.cat y I λz y=>Tot.ret ⟨y,λh=>absurd H h⟩
theorem wj (K:Nat)(s:ByteArray)(c:Int)(hs:s.size<=100000)(hK:1048577<K):Tot (Q60.f K (s,c,())) λr=>r.1.1.length<=s.size+1/\∀ p∈r.1.1,p.size<=s.size:=by
 have I:∀ i j:Nat,(s.extract i j).size<=s.size:=λi j=>by rw[C6];omega
 refine Tot.iter (step:=λrec a=>Q60.s0 K (s,c,()) rec a) (λa=>0<=a.2.1/\a.2.1<=a.2.2/\a.2.2<=s.size/\a.1.length<=a.2.2/\∀ p∈a.1,p.size<=s.size) (λa=>s.size-a.2.2.toNat) ?_ K _ (by show s.size-BY 0<K;omega) ⟨by show (0:Int)<=0;omega,by show (0:Int)<=0;omega,by show (0:Int)<=_;omega,by show (0:Int)<=0;omega,λp M=>by cases M⟩;rintro rec ⟨u,from_,i⟩ ⟨z,J,X,Y,O⟩ R;simp only at z J X Y O R ⊢;simp only[Q60.s0];obtain⟨i,rfl⟩:=BZ (C5 z J);have H:∀ x:ByteArray,x.size<=s.size->∀ p∈u++[x],p.size<=s.size:=λx Z p M=>by
  rcases CW.1 M with h|h
  ·exact O p h
  ·rw[CS.1 h];exact Z
 refine Tot.cnd (λh=>?_) λh=>?_
 ·have h:=of_decide_eq_true h;rw[ar i (by omega)];refine Tot.ix (C5 z J) (by rw[fO];exact h) λy _ _=>Tot.cnd (λ_=>Tot.must (by rw[decide_eq_true z,decide_eq_true J,decide_eq_true X];rfl) (Tot.fit (R _ ⟨?_,?_,?_,?_,H _ (I _ _)⟩ ?_) (by omega) (by simp only[B4,B9];omega))) λ_=>R _ ⟨z,?_,?_,?_,O⟩ ?_
  ·show (0:Int)<=((i+1:Nat):Int);omega
  ·show ((i+1:Nat):Int)<=((i+1:Nat):Int);omega
  ·show ((i+1:Nat):Int)<=s.size;omega
  ·show ((u++[_]).length:Int)<=((i+1:Nat):Int);rw[CD,Co];omega
  ·show s.size-BY ((i+1:Nat):Int)<s.size-BY (i:Int);omega
  ·show from_<=((i+1:Nat):Int);omega
  ·show ((i+1:Nat):Int)<=s.size;omega
  ·show (u.length:Int)<=((i+1:Nat):Int);omega
  ·show s.size-BY ((i+1:Nat):Int)<s.size-BY (i:Int);omega
 ·refine Tot.must (by rw[decide_eq_true z,decide_eq_true (by omega),decide_eq_true (Cb _)];rfl) (Tot.fit (Tot.ret ⟨?_,H _ (I _ _)⟩) (by omega) (by simp only[B4,B9];omega));show (u++[_]).length<=_;rw[CD,Co];omega
theorem j8 (K:Nat)(s:ByteArray)(X:s.size<=100000)(Y:1048577<K):Tot (Q62.f K (s,())) λ_=>True:=by
 simp only[Q62.f,Q62.pre];have r:((s.size:Int)<=6)->Tot (Q62.l0 K (s,()) (0,0)) λ_=>True:=λR=>by
  refine Tot.iter (step:=λrec a=>Q62.s0 K (s,()) rec a) (λa=>0<=a.2/\a.2<=s.size) (λa=>s.size-a.2.toNat) ?_ K _ (by show s.size-BY 0<K;omega) ⟨by show (0:Int)<=0;omega,by show (0:Int)<=_;omega⟩;rintro rec ⟨z,i⟩ ⟨H,O⟩ J;simp only at H O J ⊢;simp only[Q62.s0];obtain⟨i,rfl⟩:=BZ H;refine Tot.cnd (λh=>?_) λ_=>Tot.ret trivial
  have h:=of_decide_eq_true h;have I:((i:Nat):Int)<s.data.toList.length:=by rw[fO];exact h
  rw[ar i (by omega)];exact Tot.ix H I λy _ _=>Tot.cnd (λ_=>Tot.ret trivial) λ_=>Tot.ix H I λy _ _=>Tot.cnd (λ_=>Tot.ret trivial) λ_=>Tot.ix H I λy _ _=>J _ ⟨by show (0:Int)<=((i+1:Nat):Int);omega,by show ((i+1:Nat):Int)<=_;omega⟩ (by show s.size-BY ((i+1:Nat):Int)<s.size-BY (i:Int);omega)
 refine Tot.bind (cF K _ _ _).tot λv M=>Tot.cnd (λ_=>Tot.ret trivial) λh=>?_
 have u:=M.1 (by simpa using h);exact Tot.cnd (λh=>Tot.ix (by omega) (by rw[fO];have:=of_decide_eq_true h;omega) λy _ _=>Tot.cnd (λ_=>Tot.ret trivial) λ_=>r u.2) λ_=>r u.2
theorem ve (K:Nat)(s:ByteArray)(J:s.size<=100000)(I:1048577<K):Tot (Q63.f K (s,())) λ_=>True:=by
 simp only[Q63.f];refine Tot.cnd (λ_=>Tot.ret trivial) λh=>?_
 have h:=of_decide_eq_false h;have u:(0:Int)<s.data.toList.length:=by rw[fO];omega
 have r:Tot (bif decide ((0:Int)<=1)&&decide ((1:Int)<=(s.size:Int))&&decide ((s.size:Int)<=(s.size:Int)) then ((Q62.f K (s.extract (BY 1) (BY (s.size:Int)),())).bind λz=>bif decide (z.1.1<0) then (some (((-1),false,()),())) else (bif s.toList==(ByteArray.mk #[45,48]).toList then (some (((-1),false,()),())) else ((idx s.data.toList 0).bind λH=>bif (H.toNat:Int)==45 then (some ((wr .i64 (0-z.1.1),true,()),())) else (some ((z.1.1,true,()),()))))) else none) λ (_:(Int×Bool×Unit)×Unit)=>True :=
  Tot.must (by rw[decide_eq_true (by omega:(0:Int)<=1),decide_eq_true (by omega:(1:Int)<=s.size),decide_eq_true (Cb _)];rfl) (Tot.bind (j8 K _ (by rw[C6];omega) I) λv _=>Tot.cnd (λ_=>Tot.ret trivial) λ_=>Tot.cnd (λ_=>Tot.ret trivial) λ_=>Tot.ix (by omega) u λy _ _=>Tot.cnd (λ_=>Tot.ret trivial) λ_=>Tot.ret trivial)
 exact Tot.ix (by omega) u λy _ _=>Tot.cnd (λ_=>Tot.ix (by omega) u λy _ _=>Tot.cnd (λ_=>Tot.ret trivial) λ_=>r) λ_=>r
theorem Av (K:Nat)(s:ByteArray)(hs:s.size<=100000)(R:1048577<K):Tot (Q65.f K (s,())) λ_=>True:=by
 simp only[Q65.f,Q65.pre];have H:∀ (X:List ByteArray) (Z n2:Int) (b:Bool),X.length=3->Tot (Q65.l0 K (s,()) (X,1,Z,n2,0,b)) λ_=>True:=λX Z n2 b hx=>by
  refine Tot.iter (step:=λrec a=>Q65.s0 K (s,()) rec a) (λa=>a.1.length=3/\1<=a.2.1/\a.2.1<=5) (λa=>5-a.2.1.toNat) ?_ K _ (by show 5-BY 1<K;omega) ⟨hx,by show (1:Int)<=1;omega,by show (1:Int)<=5;omega⟩;rintro rec ⟨ys,i,m1,m2,m3,m4⟩ ⟨h0,h1,h2⟩ ih;simp only at h0 h1 h2 ih ⊢;simp only[Q65.s0];refine Tot.cnd (λh=>?_) λ_=>Tot.bind (pa K _).tot λ_ _=>Tot.ret trivial
  have h:=of_decide_eq_true h;rw[aJ (n:=i+1) (by omega) (by omega)];have go:∀ m:Int,Tot (rec (ys,i+1,m1,m2,m,m4)) λ_=>True:=λm=>ih _ ⟨h0,by show 1<=i+1;omega,by show i+1<=5;omega⟩ (by show 5-BY (i+1)<5-BY i;omega)
  exact Tot.bind (tv K i (by omega) h) λv _=>Tot.ix2 (by omega) (by omega) λy _ _=>Tot.cnd (λ_=>go _) λ_=>go _
 have u:∀ (z:ByteArray) (b:Bool),z.size<=s.size->Tot ((Q60.f K (z,58,())).bind λr=>bif (BW r.1.1:Int) != 3 then (some (((0,(0,(0,b))),false,()),())) else ((idx r.1.1 0).bind λ_=>(idx r.1.1 (BY 0:Nat)).bind λO=>(Q62.f K (O,())).bind λM=>(idx r.1.1 1).bind λ_=>(idx r.1.1 (BY 1:Nat)).bind λJ=>(Q62.f K (J,())).bind λY=>Q65.l0 K (s,()) (r.1.1,1,M.1.1,Y.1.1,0,b))) λ_=>True:=λz b hz =>
  Tot.bind (wj K z 58 (by omega) R) λv ⟨_,hp⟩=>Tot.cnd (λ_=>Tot.ret trivial) λh=>by
   have h3:(v.1.1.length:Int)=3:=by simpa using h
   exact Tot.ix2 (by omega) (by omega) λy I _=>Tot.bind (j8 K y (by have:=hp y I;omega) R) λ_ _=>Tot.ix2 (by omega) (by omega) λy I _=>Tot.bind (j8 K y (by have:=hp y I;omega) R) λ_ _=>H _ _ _ _ (by omega)
 refine Tot.cnd (λh=>?_) λ_=>u s false (CF _)
 have h:=of_decide_eq_true h;rw[aJ (n:=(s.size:Int)-1) (by omega) (by omega)];exact Tot.ix (by omega) (by rw[fO];omega) λy _ _=>Tot.cnd (λ_=>Tot.must (by simp only[Cc,decide_eq_true_eq];omega) (u _ true (by rw[C6];omega))) λ_=>u s false (CF _)
theorem Aw (K:Nat)(s:ByteArray)(X:s.size<=100000)(H:1048577<K):Tot (Q66.f K (s,())) λr=>r.1.1.length<=100001:=by
 simp only[Q66.f,Q66.pre];refine Tot.cnd (λ_=>Tot.ret (by show (0:Nat)<=_;omega)) λ_=>Tot.bind (wj K s 44 X H) ?_
 rintro⟨⟨xs,⟨⟩⟩,⟨⟩⟩ ⟨hl,hp⟩;dsimp only at hl hp ⊢;refine Tot.iter (step:=λrec a=>Q66.s0 K (s,()) rec a) (λa=>a.2.1=xs/\0<=a.2.2/\a.2.2<=xs.length/\(a.1.length:Int)<=a.2.2) (λa=>xs.length-a.2.2.toNat) ?_ K _ (by show xs.length-BY 0<K;omega) ⟨rfl,by show (0:Int)<=0;omega,by show (0:Int)<=_;omega,by show (0:Int)<=0;omega⟩;rintro rec ⟨u,I,i⟩ ⟨rfl,z,R,M⟩ J;simp only at z R M hl hp J ⊢;simp only[Q66.s0];obtain⟨i,rfl⟩:=BZ z;refine Tot.cnd (λh=>?_) λ_=>Tot.ret (by show u.length<=_;omega)
 have h:=of_decide_eq_true h;rw[ar i (by omega)];exact Tot.ix2 z h λy O _=>Tot.bind (Av K y (by have:=hp y O;omega) H) λv _=>Tot.cnd (λ_=>Tot.ret (by show (0:Nat)<=_;omega)) λ_=>Tot.fit (J _ ⟨rfl,by show (0:Int)<=((i+1:Nat):Int);omega,by show ((i+1:Nat):Int)<=_;omega,by show ((u++[_]).length:Int)<=((i+1:Nat):Int);rw[CD,Co];omega⟩ (by show I.length-BY ((i+1:Nat):Int)<I.length-BY (i:Int);omega)) (by omega) (by simp only[B4,B9];omega)
theorem Ax (K:Nat)(s:ByteArray)(z:s.size<=100000)(u:1048577<K):Tot (Q69.f K (s,())) λr=>r.1.1.length<=100001:=by
 simp only[Q69.f];exact Tot.bind (Aw K s z u) λv y=>Tot.cnd (λ_=>Tot.ret (by show (0:Nat)<=_;omega)) λ_=>Tot.bind (oE K _ (by omega) u) λx _=>Tot.cnd (λ_=>Tot.ret (by show (0:Nat)<=_;omega)) λ_=>Tot.ret y
theorem mp (K:Nat)(s:ByteArray)(R:s.size<=100000)(H:1048577<K):Tot (Q76.f K (s,())) λr=>r.1.2.1=true->dB r.1.1:=by
 simp only[Q76.f,Q76.pre];refine Tot.bind (wj K s 32 R H) ?_;rintro⟨⟨xs,⟨⟩⟩,⟨⟩⟩ ⟨hl,hp⟩;dsimp only at hl hp ⊢;refine Tot.cnd (λ_=>Tot.ret λh=>by cases h) λ_=>Tot.cnd (λ_=>Tot.ret λh=>by cases h) λh=>?_
 have M:(xs.length:Int)=12:=by simpa using h
 have u:∀ y∈xs,y.size<=100000:=λy z=>CP (hp y z) R
 have I:∀ p:Int,Tot (Q76.l0 K (s,()) (xs,1,p,0)) λr=>r.1.2.1=true->dB r.1.1:=λp=>by
  refine Tot.iter (step:=λrec a=>Q76.s0 K (s,()) rec a) (λa=>a.1=xs/\1<=a.2.1/\a.2.1<=7) (λa=>7-a.2.1.toNat) ?_ K _ (by show 7-BY 1<K;omega) ⟨rfl,by show (1:Int)<=1;omega,by show (1:Int)<=7;omega⟩;rintro rec ⟨ys,i,p,k⟩ ⟨rfl,O,h2⟩ Z;simp only at O h2 hl M u Z ⊢;simp only[Q76.s0];refine Tot.cnd (λh=>?_) λ_=>?_
  ·have h:=of_decide_eq_true h;rw[aJ (n:=i+1) (by omega) (by omega)];have X:∀ m:Int,Tot (rec (ys,i+1,p,m)) λr=>r.1.2.1=true->dB r.1.1:=λm=>Z _ ⟨rfl,by show 1<=i+1;omega,by show i+1<=7;omega⟩ (by show 7-BY (i+1)<7-BY i;omega)
   exact Tot.bind (tw K i (by omega) h) λv _=>Tot.ix2 (by omega) (by omega) λy _ _=>Tot.cnd (λ_=>X _) λ_=>X _
  ·refine Tot.ix2 (by omega) (by omega) λy z _=>Tot.bind (j8 K y (u y z) H) λ_ _=>Tot.ix2 (by omega) (by omega) λy z _=>Tot.bind (j8 K y (u y z) H) λ_ _=>Tot.ix2 (by omega) (by omega) λy z _=>Tot.bind (j8 K y (u y z) H) λ_ _=>Tot.ix2 (by omega) (by omega) λy z _=>Tot.bind (j8 K y (u y z) H) λ_ _ =>
    Tot.ix2 (by omega) (by omega) λy z _=>Tot.bind (ve K y (u y z) H) λ_ _=>Tot.ix2 (by omega) (by omega) λy z _=>Tot.bind (ve K y (u y z) H) λ_ _=>Tot.ix2 (by omega) (by omega) λy z _=>Tot.bind (Ax K y (u y z) H) λt ht=>Tot.ix2 (by omega) (by omega) λy z _=>Tot.bind (j8 K y (u y z) H) λ_ _=>Tot.ix2 (by omega) (by omega) λy z _=>Tot.bind (j8 K y (u y z) H) λ_ _ =>
    Tot.cnd (λ_=>Tot.ret λh=>by cases h) λ_=>Tot.cnd (λ_=>Tot.ret λh=>by cases h) λ_=>Tot.cnd (λ_=>Tot.ret λh=>by cases h) λ_=>Tot.bind (oF K _ (by show t.1.1.length<=1048576;omega) H) λx ⟨_,hx⟩=>Tot.cnd (λ_=>Tot.ret λh=>by cases h) λJ=>Tot.ret λ_=>?_
   refine Classical.byContradiction λhn=>?_
   rw[hx hn]at J;have Y:(ByteArray.mk #[]).toList=s.toList:=by
    have:((ByteArray.mk #[]).toList != s.toList)=false:=J;simpa using this
   rw[DS,DS]at Y;have h0:=congrArg BW Y;rw[fO,fO]at h0;have O:(ByteArray.mk #[]).size=0:=rfl;omega
 exact Tot.ix2 (by omega) (by omega) λy _ _=>Tot.cnd (λ_=>I 2) λ_=>I 1
def Rt (v r:Nat):Prop:=r*r<=v/\v<(r+1)*(r+1)
theorem Bt (K:Nat)(v:Nat)(hv:v<1500000001*1500000001)(hK:1048577<K):∃ r,Rt v r/\Q48.f K ((v:Int),())=some (((r:Int),()),()):=by
 have H:∀ (e k l h:Nat),h-l<2 ^ e->e<k->l<=h->h<=1500000000->l*l<=v->v<(h+1)*(h+1)->∃ r,Rt v r/\ae (λrec a=>Q48.s0 K ((v:Int),()) rec a) k ((l:Int),(h:Int))=some (((r:Int),()),()):=by
  intro e;induction e with
  |zero =>
   intro k l h M hk I O u y;obtain⟨k,rfl⟩:∃ z,k=z+1:=⟨k-1,by omega⟩;have:l=h:=by omega
   subst this;refine⟨l,⟨u,y⟩,?_⟩;show Q48.s0 K _ _ _=_;simp only[Q48.s0];rw[decide_eq_false (by omega)];rfl
  |succ e Y =>
   intro k l h M hk I O u y;obtain⟨k,rfl⟩:∃ z,k=z+1:=⟨k-1,by omega⟩;show ∃ r,Rt v r/\Q48.s0 K _ _ _=_;simp only[Q48.s0];by_cases hl:l<h
   ·rw[decide_eq_true (show (l:Int)<(h:Int) by omega)];have e1:wr .i64 ((l:Int)+(h:Int))=(l:Int)+h:=aJ (by omega) (by omega);have Z:wr .i64 ((l:Int)+(h:Int)+1)=((l+h+1:Nat):Int):=(aJ (by omega) (by omega)).trans (by omega);have e3:C4 ((l+h+1:Nat):Int) 2=(((l+h+1) / 2:Nat):Int):=by
     rw[CV (by omega)];omega
    rw[e1,Z,e3];have hm:l<(l+h+1) / 2/\(l+h+1) / 2<=h:=by omega
    have R:h-(l+h+1) / 2<2 ^ e/\(l+h+1) / 2-1-l<2 ^ e:=by
     rw[Nat.pow_succ]at M;omega
    generalize (l+h+1) / 2=m at *;have e4:wr .i64 (m:Int)=m:=aJ (by omega) (by omega);have e5:C4 (v:Int) (m:Int)=((v / m:Nat):Int):=by
     rw[CV (by omega)];rfl
    have a0:v / m<=v:=Nat.div_le_self _ _;have J:m<=v / m<->m*m<=v:=Nat.le_div_iff_mul_le (by omega);generalize v / m=q at *;have e6:wr .i64 (q:Int)=(q:Int):=aJ (by omega) (by omega);rw[e4,e5,e6,decide_eq_false (show ¬ (m:Int)=0 by omega)];simp only[cond_true,cond_false];by_cases X:m<=q
    ·rw[decide_eq_true (by omega)];exact Y k m h R.1 (by omega) (by omega) O (J.1 X) y
    ·rw[decide_eq_false (by omega)];have a1:¬ m*m<=v:=λh4=>X (J.2 h4)
     have e7:wr .i64 ((m:Int)-1)=((m-1:Nat):Int):=eU m (by omega) (by omega);rw[e7];exact Y k l (m-1) R.2 (by omega) (by omega) (by omega) u (by rw[show m-1+1=m by omega];omega)
   ·have:l=h:=by omega
    subst this;refine⟨l,⟨u,y⟩,?_⟩;rw[decide_eq_false (by omega)];rfl
 exact H 31 K 0 1500000000 (by decide) (by omega) (by omega) (by omega) (by omega) hv
def iZ (x:Int):Int:=if x< -1000000000 then -1000000000 else if x>1000000000 then 1000000000 else x
theorem qH (K:Nat)(x:Int):Q47.f K (x,())=some ((iZ x,()),()):=by
 simp only[Q47.f,Q44.f,iZ];by_cases h:x< -1000000000
 ·rw[decide_eq_true h,if_pos h];rfl
 ·rw[decide_eq_false h,if_neg h];by_cases r:x>1000000000
  ·rw[decide_eq_true r,if_pos r];rfl
  ·rw[decide_eq_false r,if_neg r];rfl
theorem tx (x:Int):-1000000000<=iZ x/\iZ x<=1000000000:=by
 unfold iZ;split
 ·omega
 ·split <;> omega
theorem zQ {a:Int}(h:-1000000000<=a/\a<=1000000000):0<=a*a/\a*a<=1000000000000000000:=by
 have e:∃ b:Nat,b<=1000000000/\a*a=((b*b:Nat):Int):=by
  refine⟨a.natAbs,by omega,?_⟩;exact (Int.natAbs_mul_self).symm
 obtain⟨b,r,u⟩:=e;have:=C3 r r;omega
theorem xO (K:Nat)(x y:Int)(J:1048577<K):Tot (Q49.f K (x,y,())) λ_=>True:=by
 simp only[Q49.f];rw[qH K x,qH K y];simp only[BV];have M:=zQ (tx x);have O:=zQ (tx y);generalize iZ x*iZ x=a at *;generalize iZ y*iZ y=b at *;have z:wr .i64 a=a:=aJ (by omega) (by omega);have u:wr .i64 b=b:=aJ (by omega) (by omega);have I:wr .i64 (a+b)=(((a+b).toNat:Nat):Int):=(aJ (by omega) (by omega)).trans (by omega);rw[z,u,I];obtain⟨r,_,H⟩:=Bt K (a+b).toNat (by omega) J;rw[H];simp only[BV];rw[qH K r];exact⟨_,rfl,trivial⟩
theorem Bu (K:Nat)(c d:dA)(r:1048577<K):Tot (Q50.f K (c,d,())) λ_=>True:=by
 simp only[Q50.f];exact Tot.bind (iH K c).tot λ_ _=>Tot.cnd (λ_=>Tot.ret trivial) λ_=>Tot.bind (iH K d).tot λ_ _=>Tot.cnd (λ_=>Tot.ret trivial) λ_=>Tot.bind (xO K _ _ r) λ_ _=>Tot.ret trivial
theorem kN (K:Nat)(n u y:Int)(h:u<=y):Tot (Q44.f K (n,u,y,())) λr=>InP r.1.1 u y:=by
 simp only[Q44.f];exact Tot.cnd (λ_=>Tot.ret ⟨Cb _,h⟩) λz=>Tot.cnd (λ_=>Tot.ret ⟨h,Cb _⟩) λH=>Tot.ret ⟨Int.not_lt.1 (of_decide_eq_false z),Int.not_lt.1 (of_decide_eq_false H)⟩
theorem Bv (K:Nat)(c b:dA)(t s:Int)(H:cG c)(X:1048577<K):Tot (Q55.f K (c,b,t,s,())) λr=>cG r.1.1:=by
 simp only[Q55.f];refine Tot.bind (iH K c).tot λv J=>Tot.cnd (λh=>?_) λ_=>Tot.bind (iH K b).tot λv J=>Tot.cnd (λ_=>Tot.ret H) λu=>Tot.bind (cF K _ _ _).tot λv' I=>Tot.cnd (λ_=>Tot.ret H) λy=>?_
 ·rw[J.2 H]at h;cases h
 have hb:=J.1 (by simpa using u);have Z:=I.1 (by simpa using y);obtain⟨_,_,_,⟨c1,c2⟩⟩:=H;obtain⟨_,_,_,⟨b1,b2⟩⟩:=hb;obtain⟨t1,t2⟩:=Z;have R:¬ wr .i64 (c.2.2.2+b.2.2.2)=0:=by rw[aJ (by omega) (by omega)];omega
 have z:∀ w:Int,Tot (Q54.f K (c,b,w,t,())) λr=>InP r.1.1 1 1500:=λw=>by
  simp only[Q54.f,Q53.f];refine Tot.bind (P:=λ_=>True) (Tot.cnd (λ_=>Tot.ret trivial) λ_=>Tot.ret trivial) λ_ _=>Tot.not (decide_eq_false (show ¬ t=0 by omega)) (Tot.bind (kN K _ _ _ (by omega)) λ_ _=>Tot.not (decide_eq_false R) (Tot.bind (kN K _ _ _ (by omega)) λ_ h=>Tot.ret h))
 refine Tot.bind (Bu K c b X) λ_ _=>?_
 simp only[Q51.f];refine Tot.bind (P:=λ_=>True) (Tot.not (decide_eq_false R) (Tot.ret trivial)) λ_ _=>Tot.bind (xO K _ _ X) λn _=>Tot.cnd (λ_=>?_) λh=>?_
 ·simp only[Q52.f];refine Tot.bind (P:=λ_=>True) (Tot.cnd (λ_=>Tot.ret trivial) λ_=>Tot.cnd (λ_=>Tot.ret trivial) λ_=>Tot.cnd (λ_=>Tot.ret trivial) λ_=>Tot.ret trivial) λ_ _=>Tot.cnd (λ_=>?_) λ_=>?_ <;>
  exact Tot.bind (kN K _ _ _ (by omega)) λ_ M=>Tot.bind (kN K _ _ _ (by omega)) λ_ u=>Tot.bind (kN K _ _ _ (by omega)) λ_ y=>Tot.bind (z _) λ_ O=>Tot.ret ⟨M,u,y,O⟩
 ·have Y:¬ n.1.1=0:=by simpa using h
  refine Tot.cnd (λ_=>?_) λ_=>?_ <;>
  exact Tot.not (decide_eq_false Y) (Tot.bind (kN K _ _ _ (by omega)) λ_ M=>Tot.not (decide_eq_false Y) (Tot.bind (kN K _ _ _ (by omega)) λ_ u=>Tot.bind (kN K _ _ _ (by omega)) λ_ y=>Tot.bind (z _) λ_ O=>Tot.ret ⟨M,u,y,O⟩))
noncomputable def p9 (K:Nat)(c b:dA)(t s:Int):dA:=((Q55.f K (c,b,t,s,())).getD (((0,0,0,0),()),())).1.1
noncomputable def sv (K:Nat)(l:List Int):Int:=((Q56.f K (l,())).getD ((0,()),())).1.1
theorem xP (K:Nat)(c b:dA)(t s:Int)(u:cG c)(r:1048577<K):Q55.f K (c,b,t,s,())=some ((p9 K c b t s,()),())/\cG (p9 K c b t s):=by
 obtain⟨⟨⟨v,⟨⟩⟩,⟨⟩⟩,e,h⟩:=Bv K c b t s u r;unfold p9;rw[e];exact⟨rfl,h⟩
theorem med_t (K:Nat)(l:List Int)(hl:l.length<=100)(hK:1048577<K):Tot (Q56.f K (l,())) λ_=>True:=by
 simp only[Q56.f,Q56.pre];have H:∀ I:List Int,I.length<=100->Tot (Q56.l0 K (l,()) (I,[],0)) λ_=>True:=λI hx=>by
  refine Tot.iter (step:=λrec a=>Q56.s0 K (l,()) (Q56.l1 K (l,()) rec) rec a) (λa=>a.1=I/\0<=a.2.2/\a.2.2<=I.length/\(a.2.1.length:Int)=a.2.2) (λa=>I.length-a.2.2.toNat) ?_ K _ (by show I.length-BY 0<K;omega) ⟨rfl,by show (0:Int)<=0;omega,by show (0:Int)<=_;omega,rfl⟩;rintro rec ⟨ys,u,i⟩ ⟨rfl,X,h1,h2⟩ ih;simp only at X h1 h2 hx ih ⊢;simp only[Q56.s0];obtain⟨i,rfl⟩:=BZ X;refine Tot.cnd (λh=>?_) λ_=>Tot.cnd (λ_=>Tot.ret trivial) λh=>?_
  ·have J:=of_decide_eq_true h;clear h;refine Tot.iter (step:=λz a=>Q56.s1 K (l,()) rec z a) (λa=>a.1=ys/\a.2.1=u/\a.2.2.1=i/\0<=a.2.2.2/\a.2.2.2<=u.length) (λa=>u.length-a.2.2.2.toNat) ?_ K _ (by show u.length-BY 0<K;omega) ⟨rfl,rfl,rfl,by show (0:Int)<=0;omega,by show (0:Int)<=_;omega⟩;rintro z ⟨R,r,j,k⟩ ⟨rfl,rfl,e,k0,k1⟩ M;simp only at e k0 k1 J h1 h2 hx M ih ⊢;subst e;simp only[Q56.s1];obtain⟨k,rfl⟩:=BZ k0;have Z:∀ y:Int,Tot (rec (R,(([]++((r.take (BY (k:Int))).drop (BY 0)))++([y]))++((r.take (BY (BW r:Int))).drop (BY (k:Int))),wr .i64 ((i:Int)+1))) λ_=>True:=λy=>by
    rw[ar i (by omega)];refine ih _ ⟨rfl,by show (0:Int)<=((i+1:Nat):Int);omega,by show ((i+1:Nat):Int)<=_;omega,?_⟩ (by show R.length-BY ((i+1:Nat):Int)<R.length-BY (i:Int);omega);simp only[B3,Cq,CN,CC,CD,CJ,CT,B4,B9];omega
   have O:Tot (bif decide (0<=0)&&decide ((0:Int)<=(k:Int))&&decide ((k:Int)<=(BW r:Int))&&true then (bif decide ((BW ([]:List (Ty.den (.int .i64)))+BW ((r.take (BY (k:Int))).drop (BY 0)))*8<=an) then ((idx R (i:Int)).bind λy3=>bif decide ((BW ([]++((r.take (BY (k:Int))).drop (BY 0)))+BW ([y3]))*8<=an) then (bif decide ((0:Int)<=(k:Int))&&decide ((k:Int)<=(BW r:Int))&&decide ((BW r:Int)<=(BW r:Int))&&true then (bif decide ((BW (([]++((r.take (BY (k:Int))).drop (BY 0)))++([y3]))+BW ((r.take (BY (BW r:Int))).drop (BY (k:Int))))*8<=an) then (rec (R,(([]++((r.take (BY (k:Int))).drop (BY 0)))++([y3]))++((r.take (BY (BW r:Int))).drop (BY (k:Int))),wr .i64 ((i:Int)+1))) else none) else none) else none) else none) else none) λ_=>True:=by
    refine Tot.must (by simp only[Cc,decide_eq_true_eq,DI];omega) (Tot.fit (Tot.ix X J λy _ _=>Tot.fit (Tot.must (by simp only[Cc,decide_eq_true_eq,DI];omega) (Tot.fit (Z y) (by omega) ?_)) (by omega) ?_) (by omega) ?_) <;>
    simp only[B3,Cq,CN,CC,CD,CJ,CT,B4,B9] <;> omega
   refine Tot.cnd (λY=>?_) λ_=>O
   have Y:=of_decide_eq_true Y;refine Tot.ix k0 Y λy1 _ _=>Tot.ix X J λy2 _ _=>Tot.cnd (λ_=>?_) λ_=>O
   rw[ar k (by omega)];exact M _ ⟨rfl,rfl,rfl,by show (0:Int)<=((k+1:Nat):Int);omega,by show ((k+1:Nat):Int)<=_;omega⟩ (by show r.length-BY ((k+1:Nat):Int)<r.length-BY (k:Int);omega)
  ·have h:¬ (u.length:Int)=0:=by simpa using h
   rw[aJ (n:=(u.length:Int)-1) (by omega) (by omega)];have e:C4 ((u.length:Int)-1) 2=((u.length:Int)-1) / 2:=by rw[CV (by omega)]
   rw[e,aJ (by omega) (by omega)];exact Tot.ix (by omega) (by omega) λy _ _=>Tot.ret trivial
 refine Tot.cnd (λh=>?_) λ_=>H l hl
 have h:=of_decide_eq_true h;rw[aJ (n:=(l.length:Int)-3) (by omega) (by omega)];exact Tot.must (by simp only[Cc,decide_eq_true_eq,DI];omega) (H _ (by simp only[CT,CJ];omega))
theorem med_s (K:Nat)(l:List Int)(u:l.length<=100)(r:1048577<K):Q56.f K (l,())=some ((sv K l,()),()):=by
 obtain⟨⟨⟨v,⟨⟩⟩,⟨⟩⟩,e,_⟩:=med_t K l u r;unfold sv;rw[e];rfl
theorem rA {α A R:Type}(k:α->Int)(x:α)(t:List α)(hA:Asc k t)(Y S1:List α->Nat->A)(I:List α->Option R){step:(A->Option R)->A->Option R}
  (h0:∀ (rec:A->Option R) (r:List α) (i:Nat) (M:i<t.length),r.length=i->(∀ y∈t.take i,k y<k x)->step rec (Y r i)=if k t[i]<k x then rec (Y (r++[t[i]]) (i+1)) else if k t[i]=k x then rec (S1 (r++[x]) (i+1)) else rec (S1 (r++[x]++[t[i]]) (i+1)))
  (h1:∀ (rec:A->Option R) (r:List α) (i:Nat) (M:i<t.length),r.length<=i+1->k x<k t[i]->step rec (S1 r i)=rec (S1 (r++[t[i]]) (i+1)))
  (e0:∀ (rec:A->Option R) (r:List α),r.length=t.length->(∀ y∈t,k y<k x)->step rec (Y r t.length)=I (r++[x]))
  (e1:∀ (rec:A->Option R) (r:List α),r.length<=t.length+1->step rec (S1 r t.length)=I r) {K:Nat} (Z:t.length<K):ae step K (Y [] 0)=I (a7 k x t):=by
 have r1:∀ (n i K:Nat) (r:List α),i+n=t.length->n<K->r.length<=i+1->(∀ y∈t.drop i,k x<k y)->ae step K (S1 r i)=I (r++t.drop i):=by
  intro n;induction n with
  |zero =>
   intro i K r M Z O _;obtain⟨K,rfl⟩:∃ X,K=X+1:=⟨K-1,by omega⟩;have:i=t.length:=by omega
   subst this;show step (ae step K) _=_;rw[e1 _ _ O,C9,CA]
  |succ n ih =>
   intro i K r M Z O hg;obtain⟨K,rfl⟩:∃ X,K=X+1:=⟨K-1,by omega⟩;have u:i<t.length:=by omega
   rw[B8 u]at hg;show step (ae step K) _=_;rw[h1 _ _ _ u O (hg _ (.head _)),ih (i+1) K _ (by omega) (by omega) (by simp;omega) (λy z=>hg y (.tail _ z)),B8 u];simp
 have H:∀ i (M:i<t.length),∀ y∈t.drop (i+1),k t[i]<k y:=λi M y z=>by
  have:=List.Pairwise.drop (i:=i) hA;rw[B8 M]at this;exact (CE.1 this).1 y z
 have r0:∀ (n i K:Nat) (r:List α),i+n=t.length->n<K->r=t.take i->(∀ y∈t.take i,k y<k x)->ae step K (Y r i)=I (a7 k x t):=by
  intro n;induction n with
  |zero =>
   intro i K r M Z O J;obtain⟨K,rfl⟩:∃ X,K=X+1:=⟨K-1,by omega⟩;have:i=t.length:=by omega
   subst this;rw[Ck]at O J;subst O;show step (ae step K) _=_;rw[e0 _ _ rfl J];unfold a7;rw[CG.2 (by simpa using J),CK.2 (λy z=>by have:=J y z;simp;omega)]
  |succ n ih =>
   intro i K r M Z O J;obtain⟨K,rfl⟩:∃ X,K=X+1:=⟨K-1,by omega⟩;have u:i<t.length:=by omega
   subst O;have a1:(t.take i).length=i:=by rw[CJ];omega
   show step (ae step K) _=_;rw[h0 _ _ _ u a1 J];have a0:k x<=k t[i]->a7 k x t=t.take i++x::(t.drop i).filter (λy=>decide (k x<k y)):=λhc=>by
    unfold a7;conv=>lhs;rw[<- C7 i t]
    rw[CX,CX,CG.2 (by simpa using J),(CK (l:=t.take i)).2 (λy z=>by have:=J y z;simp;omega),CC];rw[B8 u,CI,if_neg (by simp;omega),CK.2 (λy z=>by have:=H i u y z;simp;omega),CA]
   by_cases hc:k t[i]<k x
   ·rw[if_pos hc];refine ih (i+1) K _ (by omega) (by omega) (by rw[DX,CB u];rfl) λy z=>?_
    rw[DX,CB u]at z;rcases CW.1 z with z|z
    ·exact J y z
    ·simp at z;rw[z];exact hc
   ·rw[if_neg hc,a0 (by omega),B8 u];by_cases he:k t[i]=k x
    ·rw[if_pos he,r1 n (i+1) K _ (by omega) (by omega) (by simp;omega) (λy z=>by have:=H i u y z;omega),CI,if_neg (by simp;omega),CG.2 (λy z=>by have:=H i u y z;simp;omega)];simp
    ·rw[if_neg he,r1 n (i+1) K _ (by omega) (by omega) (by simp;omega) (λy z=>by have:=H i u y z;omega),CI,if_pos (by simp;omega),CG.2 (λy z=>by have:=H i u y z;simp;omega)];simp
 exact r0 t.length 0 K [] (by omega) Z rfl (by simp)
theorem xQ {t:List af}{f:af}(h:∀ g∈t,g.1<f.1):(bg t f).1=t++[f]:=by
 rw[fJ (λg u e=>by have:=h g u;omega)];unfold a7;rw[CG.2 (by simpa using h),CK.2 (λy r=>by have:=h y r;simp;omega)]
theorem qa:∀ {fs t:List af},Asc (λf:af=>f.1) fs->(∀ g∈t,∀ f∈fs,g.1<f.1)->putAll t fs=t++fs
 |[],t,_,_=>by simp[putAll]
 |f::fs,t,y,h=>by
  show putAll (bg t f).1 fs=_;rw[xQ (λg r=>h g r f (by simp)),qa (CE.1 y).2 ?_]
  ·simp
  ·intro g r e u;rcases CW.1 r with r|r
   ·exact h g r e (by simp[u])
   ·rw[CS.1 r];exact (CE.1 y).1 e u
theorem wk {fs:List af}(h:aw fs):putAll [] fs=fs:=by
 rw[qa h.2 (by simp)];rfl
theorem Ay (K:Nat)(a b:List af)(r:aw a)(u:aw b)(y:1048577<K):Q35.f K (a,b,())=some ((putAll a b,()),()):=by
 simp only[Q35.f,Q35.pre];obtain⟨X,J,I⟩:=gy K a (bV r) y;obtain⟨R,M,O⟩:=gy K b (bV u) y;have:=bV r;have:=bV u;rw[J,M,I.2 r,O.2 u];simp only[BV,B6,cond_false];rw[szb _ _ _ (by omega) (by show (BW ([]:List af))+a.length<=_;simp;omega)];simp only[cond_true,CC];refine oA a b r u.1 (step:=λrec x=>Q35.s0 K (a,b,()) rec x) (λt=>some ((t,()),())) ?_ ?_ (by omega)
 ·intro rec t i H z;simp only[Q35.s0];rw[bj (by omega:(i:Int)<(BW b:Int)),ag H,ar i (by omega)];simp only[cond_true,BV];rw[wa K t _ (bV z) z.2 y];rfl
 ·intro rec t;simp only[Q35.s0,aP];rfl
theorem jj {u:Int}{l:List aY}(h:cM u l)(s:Int):aw (dk l s):=by
 rcases ri (l:=l) (s:=s) with e|⟨x,r,_,e⟩ <;> rw[e]
 ·exact⟨by simp,List.Pairwise.nil⟩
 ·exact (h.1 x r).2.2.2.1
theorem tz {u:Int}{l:List aY}(h:cM u l):l.length<=1048576:=CP (iU h.2 λx r=>⟨(h.1 x r).1.1,C5 (h.1 x r).1.2 (by decide)⟩) (by decide)
theorem xR (K:Nat)(n:aa)(s:Int)(t:List af)(h:cM n.1 (aa.others n))(r:aw t)(y:1048577<K):Q36.f K (n,s,t,())=some ((putAll (dk (aa.others n) s) t,()),()):=by
 have z:=tz h;refine pQ (step:=λrec a=>Q36.s0 K (n,s,t,()) rec a) (aa.others n) s (λl=>some ((putAll l t,()),())) ?_ ?_ (aa.others n).length 0 K (by omega) (by omega)
 ·intro rec i u;simp only[Q36.s0];rw[bj (by omega:(i:Int)<(BW (aa.others n):Int)),ag u,ar i (by omega)];simp only[cond_true,BV];cases (aa.others n)[i].1==s with
  |false=>rfl
  |true=>exact (congrArg (λo=>Cl o _) (Ay K _ t (h.1 _ (BX u)).2.2.2.1 r y)).trans rfl
 ·intro rec;simp only[Q36.s0,aP,cond_false];rw[wk r];refine (congrArg (λb=>bif b then _ else _) (szb (BW ([]:List af)) t.length 32 (by omega) ?_)).trans rfl;have:=bV r;simp;omega
theorem sum_s (K:Nat)(n:aa)(s:Int)(t:List af)(h:cM n.1 (aa.others n))(X:1048577<K):Q37.f K (n,s,t,())=some ((k9 n (a7 (λx:aY=>x.1) (s,t) (aa.others n)),()),()):=by
 have R:=tz h;refine rA (step:=λrec a=>Q37.s0 K (n,s,t,()) rec a) (λx:aY=>x.1) (s,t) (aa.others n) h.2 (λr i=>(r,false,(i:Int))) (λr i=>(r,true,(i:Int))) (λo=>some ((k9 n o,()),())) ?_ ?_ ?_ ?_ (by omega)
 ·intro rec r i H I _;simp only[Q37.s0,zcp4,zcp8];rw[bj (by omega:(i:Int)<(BW (aa.others n):Int)),ag H,ar i (by omega)];simp only[cond_true,BV,CR];have z:=szb r.length 1 32 (by omega) (by omega);have M:=szb (r++[(s,t)]).length 1 32 (by omega) (by simp;omega);generalize (aa.others n)[i]=y at *;by_cases J:y.1<s
  ·rw[if_pos J,show decide (y.1>=s)=false from decide_eq_false (by omega),show (y.1 != s)=true by simp;omega];exact (congrArg (λb=>bif b then _ else _) z).trans rfl
  ·rw[if_neg J,show decide (y.1>=s)=true from decide_eq_true (by omega)];refine (congrArg (λb=>bif b then _ else _) z).trans ?_;by_cases u:y.1=s
   ·rw[if_pos u,show (y.1 != s)=false by simpa using u];rfl
   ·rw[if_neg u,show (y.1 != s)=true by simpa using u];exact (congrArg (λb=>bif b then _ else _) M).trans rfl
 ·intro rec r i H I O;simp only[Q37.s0,zcp4,zcp8];rw[bj (by omega:(i:Int)<(BW (aa.others n):Int)),ag H,ar i (by omega)];simp only[cond_true,BV,B6,cond_false];have z:=szb r.length 1 32 (by omega) (by omega);rw[show ((aa.others n)[i].1 != s)=true by simp;have:s<_:=O;omega];exact (congrArg (λb=>bif b then _ else _) z).trans rfl
 ·intro rec r I _;simp only[Q37.s0,zcp4,zcp8,aP,cond_false,CR,cond_true];exact (congrArg (λb=>bif b then _ else _) (szb r.length 1 32 (by omega) (by omega))).trans rfl
 ·intro rec r I;simp only[Q37.s0,zcp4,zcp8,aP,cond_false,B6];rfl
theorem zh (K:Nat)(a b:List af)(X:a.length<=1048576)(Y:1048577<K):Q38.f K (a,b,())=rb (decide (a≠b)):=by
 simp only[Q38.f,Q38.pre];by_cases H:a.length=b.length
 ·rw[show ((BW a:Int) != (BW b:Int))=false by simp;omega];have:=cq (step:=λrec x=>Q38.s0 K (a,b,()) rec x) a.length (λi=>(i:Int)) (λj=>∃ (h:j<a.length) (Z:j<b.length),a[j]≠b[j]) (rb false) (λ_=>rb true) ?_ ?_ a.length K 0 (by omega) (by omega)
  ·rcases this with ⟨J,u⟩|⟨j,_,J,⟨y,M,R⟩,_,u⟩
   ·refine (u:Q38.l0 K (a,b,()) 0=_).trans ?_;rw[decide_eq_false];rintro z;exact z (Cv H λi y M=>Cp.1 λO=>J i (CL _) y ⟨y,M,O⟩)
   ·refine (u:Q38.l0 K (a,b,()) 0=_).trans ?_;rw[decide_eq_true];rintro rfl;exact R rfl
  ·intro rec i I;simp only[Q38.s0];rw[bj (by omega:(i:Int)<(BW a:Int)),ag I,ar i (by omega),ag (show i<b.length by omega)];simp only[cond_true,BV];rw[show Ty.eqv t2 a[i] (b[i]'(by omega))=decide (a[i]=b[i]'(by omega)) from gA _ _];by_cases r:a[i]=b[i]'(by omega)
   ·exact .inl ⟨λ⟨_,_,h⟩=>h r,by rw[decide_eq_true r];rfl⟩
   ·exact .inr ⟨⟨I,by omega,r⟩,by rw[decide_eq_false r];rfl⟩
  ·intro rec;simp only[Q38.s0,aP];rfl
 ·rw[show ((BW a:Int) != (BW b:Int))=true by simp;omega,decide_eq_true (show a≠b from λe=>H (by rw[e]))];rfl
end Go.Proofs.YtadlacffdemoiaaGreatEv
