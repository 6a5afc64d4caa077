/- The marks that a law writes into what was answered, and the look whether they still stand. -/
import Derived.Test.YtadlacffdemoiaaGreatP1
import Derived.Test.YtadlacffdemoiaaGreatE0
import Derived.Laws.Strings
set_option linter.unusedVariables false
set_option linter.unusedSimpArgs false
open Bool renaming not_true->BI,not_false->B4,true_and->CF,and_eq_true->CK,false_and->CQ,eq_iff_iff->CS,and_self->CT,and_true->Co,false_or->Cv,true_or->Cz,and_false->C6,or_true->DP
open ByteArray renaming size_extract->Cj
open Classical renaming not_not->CW
open Eq renaming trans->Cw
open Go.ByteArray renaming toList_eq->C8
open Go.IntKind renaming wrap_i64->DI
open Int renaming toNat->BD,toNat_natCast->BE,eq_ofNat_of_zero_le->BF,tdiv_eq_ediv_of_nonneg->CB,fdiv->CG,le_refl->CJ,toNat_zero->CX,tmod->Ca,tdiv->Ch,le_trans->Ci,tmod_eq_emod_of_nonneg->Cr,le_of_lt->Cy,tmod_lt_of_pos->DB,tdiv_le_self->DJ,tmod_nonneg->DM,tdiv_nonneg->DN
open List renaming length->BB,getElem_mem->BC,length_cons->BG,mem_filter->BH,getElem_of_mem->BJ,getElem?_eq_getElem->BK,drop_eq_getElem_cons->BL,length_nil->BM,append_nil->BN,nil_append->BO,length_append->BP,pairwise_cons->BQ,filter_eq_self->BT,length_map->BU,filter_cons->BV,length_take->BW,filter_eq_nil_iff->BY,mem_map->BZ,drop_zero->B3,reverse_reverse->B5,pairwise_map->B7,mem_singleton->B8,length_drop->B9,take_of_length_le->CA,mem_append->CC,filter_append->CD,append_assoc->CH,mem_cons->CI,length_filter_le->CL,pairwise_iff_getElem->CM,pairwise_append->CN,take_succ_eq_append_getElem->CO,reverse_cons->CP,take_length->CR,getElem?_eq_none->CU,length_singleton->CV,replicate->CZ,ext_getElem->Cb,mem_of_find?_eq_some->Cc,length_take_le->Cd,length_reverse->Ce,getElem_take->Cf,take_append_drop->Ck,length_replicate->Cl,drop_length->Cm,not_mem_nil->Cn,map_append->Cp,length_pos_iff->Cq,filter_congr->Ct,map_cons->Cu,pairwise_singleton->Cx,find?_cons->C0,find?_some->C3,length_set->C4,set_append_right->C5,mem_of_mem_take->C7,find?_eq_none->C9,mem_cons_self->DA,getElem_drop->DC,take_add_one->DD,perm_middle->DE,cons_append->DF,getElem_set->DG,mem_range->DO,map_nil->DQ
open List.Pairwise renaming filter->CY
open Nat renaming le_refl->BR,zero_le->BX,le_trans->B6,lt_or_eq_of_le->CE,mul_le_mul->Cg,lt_trichotomy->Cs
open Option renaming bind_some->BA,bind->BS,getD_some->DH,map_some->DK
open Option.some renaming inj->DL
namespace Go.Proofs.YtadlacffdemoiaaGreatEv
open Go
theorem kS {α β R:Type}(t:List α)(p:α->Bool)(g:α->β)(n:Nat)(y:List β->Option R){step:(List β×Int->Option R)->List β×Int->Option R}
  (h:∀ (rec:List β×Int->Option R) (r:List β) (i:Nat) (J:i<t.length),r.length<=i->r.length<n->step rec (r,(i:Int))=rec (bif p t[i] then r++[g t[i]] else r,((i+1:Nat):Int)))
  (Y:∀ (rec:List β×Int->Option R) (r:List β) (i:Nat),i<t.length->r.length<=i->n<=r.length->step rec (r,(i:Int))=y r)
  (z:∀ (rec:List β×Int->Option R) (r:List β),r.length<=t.length->step rec (r,(t.length:Int))=y r) :
  ∀ (d i k:Nat) (r:List β),i+d=t.length->d<k->r.length<=i->r.length<=n->ae step k (r,(i:Int))=y (r++(((t.drop i).filter p).map g).take (n-r.length)):=by
 intro d;induction d with
 |zero =>
  intro i k r J Z H _;obtain⟨k,rfl⟩:∃ I,k=I+1:=⟨k-1,by omega⟩;have:i=t.length:=by omega
  subst this;show step (ae step k) _=_;rw[z _ _ H];simp
 |succ d M =>
  intro i k r J Z H X;obtain⟨k,rfl⟩:∃ I,k=I+1:=⟨k-1,by omega⟩;have u:i<t.length:=by omega
  show step (ae step k) _=_;by_cases hc:r.length<n
  ·rw[h _ _ _ u H hc,BL u,BV];cases hp:p t[i] with
   |true =>
    simp only[cond_true,if_true,Cu];rw[M (i+1) k _ (by omega) (by omega) (by simp;omega) (by simp;omega)];congr 1;obtain⟨m,O⟩:∃ m,n-r.length=m+1:=⟨n-r.length-1,by omega⟩;rw[O,List.take_succ_cons,CH];simp only[BP,BG,BM];rw[show n-(r.length+(0+1))=m by omega];rfl
   |false =>
    simp only[cond_false];rw[M (i+1) k _ (by omega) (by omega) (by omega) (by omega)];rfl
  ·rw[Y _ _ _ u H (by omega)];rw[show n-r.length=0 by omega];simp
theorem vA {α β R:Type}(t:List α)(p:α->Bool)(g:α->β)(u:List β->Option R){step:(List β×Int->Option R)->List β×Int->Option R}
  (h:∀ (rec:List β×Int->Option R) (r:List β) (i:Nat) (z:i<t.length),r.length<=i->step rec (r,(i:Int))=rec (bif p t[i] then r++[g t[i]] else r,((i+1:Nat):Int)))
  (y:∀ (rec:List β×Int->Option R) (r:List β),r.length<=t.length->step rec (r,(t.length:Int))=u r) {k:Nat} (I:t.length<k) :
  ae step k ([],0)=u ((t.filter p).map g):=by
 have:=kS t p g (t.length+1) u (λrec r i z H _=>h rec r i z H) (λrec r i z H J=>by omega) y t.length 0 k [] (by omega) I (BR _) (by simp);refine this.trans ?_;congr 1;simp only[BO,BM,B3];exact CA (by have:=CL p t;simp;omega)
theorem dX {e:Ty}{b:Nat}{xs:List e.den}(h:xs.length*b<=140737488355328):fH e b xs=some ((xs,()),()):=by
 unfold fH;rw[decide_eq_true (by simpa[an]using h)];rfl
theorem AM {α β:Type}{xs r:List α}{b:Nat}{x y:β}(h:(xs.length+r.length)*b<=140737488355328):(bif decide ((BB xs+BB r)*b<=an) then x else y)=x:=by
 rw[decide_eq_true (by simpa[an]using h)];rfl
theorem zP (K:Nat)(xs:List Int)(n:Int)(I:xs.length<=1048576):Q189.f K (xs,n,())=some ((xs.take n.toNat,()),()):=by
 simp only[Q189.f,Q188.f,BA,Q9.f];obtain⟨c,y,u,z,r⟩:∃ c:Int,(bif decide (0<(bif decide ((xs.length:Int)<n) then (xs.length:Int) else n)) then bif decide ((xs.length:Int)<n) then (xs.length:Int) else n else 0)=c/\0<=c/\c<=xs.length/\xs.take c.toNat=xs.take n.toNat:=by
  by_cases h:(xs.length:Int)<n
  ·rw[decide_eq_true h];simp only[cond_true];by_cases r:0<(xs.length:Int)
   ·rw[decide_eq_true r];refine⟨_,rfl,by simp,by simp,?_⟩;simp only[cond_true];rw[CA (by omega),CA (by omega)]
   ·rw[decide_eq_false r];refine⟨_,rfl,by simp,by simp,?_⟩;have:xs=[]:=List.eq_nil_of_length_eq_zero (by omega);subst this;simp
  ·rw[decide_eq_false h];simp only[cond_false];by_cases r:0<n
   ·rw[decide_eq_true r];exact⟨_,rfl,by simp;omega,by simp;omega,rfl⟩
   ·rw[decide_eq_false r];refine⟨_,rfl,by simp,by simp,?_⟩;simp only[cond_false];rw[show n.toNat=0 by omega];rfl
 rw[y,decide_eq_true u,decide_eq_true z];simp only[CX,B3,decide_true,CT,cond_true];rw[dX (by
  have:=Cd c.toNat xs;have H:(List.take c.toNat xs).length<=1048576:=by omega
  omega)]
 simp only[BA];rw[r];rfl
def mN (f:af):Bool:=f.2.2.2&&f.2.2.1==1
def fE (t:List af):List Int:=((t.filter mN).map (·.1)).take 2
theorem uJ (K:Nat)(t:List af)(J:t.length<=1048576)(I:1048577<K):Q99.f K (t,2,())=some ((fE t,()),()):=by
 have:=kS (step:=λrec a=>Q99.s0 K (t,2,()) rec a) t mN (λf=>f.1) 2 (λz=>some ((z,()),())) ?_ ?_ ?_ t.length 0 K [] (by omega) (by omega) (BR _) (by simp)
 ·exact this
 ·intro rec r i u H y;simp only[Q99.s0];rw[bh (by omega:(i:Int)<(BB t:Int)),ag u,ar i (by omega),decide_eq_true (by omega:(BB r:Int)<2)];simp only[cond_true,BA,mN];cases t[i].2.2.2 with
  |true =>
   simp only[cond_true,CF];cases t[i].2.2.1==1 with
   |true=>simp only[cond_true];rw[AM (by simp;omega)]
   |false=>rfl
  |false=>rfl
 ·intro rec r i u H y;simp only[Q99.s0];rw[bh (by omega:(i:Int)<(BB t:Int)),decide_eq_false (by omega:¬ (BB r:Int)<2)];rfl
 ·intro rec r _;simp only[Q99.s0,aP];rfl
theorem wW (t:List af):(fE t).length<=2:=by
 unfold fE;exact Cd _ _
def eE (l:List bY)(s:Int):List af:=((l.find? λx=>x.1==s).map (·.2)).getD []
theorem pE {R:Type}(l:List bY)(s:Int)(r:List af->Option R){step:(Int->Option R)->Int->Option R}
  (h:∀ (rec:Int->Option R) (i:Nat) (H:i<l.length),step rec (i:Int)=bif l[i].1==s then r l[i].2 else rec ((i+1:Nat):Int))
  (y:∀ rec:Int->Option R,step rec (l.length:Int)=r []) :
  ∀ (d i k:Nat),i+d=l.length->d<k->ae step k (i:Int)=r (eE (l.drop i) s):=by
 intro d;induction d with
 |zero =>
  intro i k H I;obtain⟨k,rfl⟩:∃ z,k=z+1:=⟨k-1,by omega⟩;have:i=l.length:=by omega
  subst this;show step (ae step k) _=_;rw[y];simp[eE]
 |succ d J =>
  intro i k H I;obtain⟨k,rfl⟩:∃ z,k=z+1:=⟨k-1,by omega⟩;have u:i<l.length:=by omega
  show step (ae step k) _=_;rw[h _ _ u,BL u];simp only[eE,C0];cases l[i].1==s with
  |true=>rfl
  |false=>exact J (i+1) k (by omega) (by omega)
theorem zQ (K:Nat)(n:aa)(s:Int)(r:NB n)(y:1048577<K):Q182.f K (n,s,())=some ((eE (aa.others n) s,()),()):=by
 have z:=r.others;refine pE (step:=λrec a=>Q182.s0 K (n,s,()) rec a) (aa.others n) s (λt=>some ((t,()),())) ?_ ?_ (aa.others n).length 0 K (by omega) (by omega)
 ·intro rec i u;simp only[Q182.s0];rw[bh (by omega:(i:Int)<(BB (aa.others n):Int)),ag u,ar i (by omega)];rfl
 ·intro rec;simp only[Q182.s0,aP];rfl
theorem qU {l:List bY}{s:Int}:eE l s=[]\/∃ x∈l,x.1=s/\eE l s=x.2:=by
 unfold eE;cases h:l.find? λx=>x.1==s with
 |none=>exact .inl rfl
 |some x=>exact .inr ⟨x,Cc h,by simpa using C3 h,rfl⟩
def bq {α:Type}(k:α->Int)(x:α)(xs:List α):List α:=xs.filter (λy=>decide (k y<k x))++x::xs.filter (λy=>decide (k x<k y))
theorem qW {α:Type}{k:α->Int}{xs:List α}{v:Int}{m:Nat}(J:m<=xs.length)(I:∀ i,(z:i<xs.length)->i<m->k xs[i]<v)(z:∀ i,(h:i<xs.length)->m<=i->v<=k xs[i]):xs.filter (λy=>decide (k y<v))=xs.take m:=by
 conv=>lhs;rw[<- Ck m xs]
 rw[CD];have r:(xs.take m).filter (λy=>decide (k y<v))=xs.take m:=by
  rw[BT];intro y u;obtain⟨i,r,rfl⟩:=BJ u;rw[BW]at r;rw[Cf];exact decide_eq_true (I i (by omega) (by omega))
 have H:(xs.drop m).filter (λy=>decide (k y<v))=[]:=by
  rw[BY];intro y u;obtain⟨i,r,rfl⟩:=BJ u;rw[B9]at r;rw[DC];have:=z (m+i) (by omega) (by omega);simp only[decide_eq_true_eq];omega
 rw[r,H,BN]
theorem qX {α:Type}{k:α->Int}{xs:List α}{v:Int}{m:Nat}(J:m<=xs.length)(I:∀ i,(z:i<xs.length)->i<m->k xs[i]<=v)(z:∀ i,(h:i<xs.length)->m<=i->v<k xs[i]):xs.filter (λy=>decide (v<k y))=xs.drop m:=by
 conv=>lhs;rw[<- Ck m xs]
 rw[CD];have r:(xs.take m).filter (λy=>decide (v<k y))=[]:=by
  rw[BY];intro y u;obtain⟨i,r,rfl⟩:=BJ u;rw[BW]at r;rw[Cf];have:=I i (by omega) (by omega);simp only[decide_eq_true_eq];omega
 have H:(xs.drop m).filter (λy=>decide (v<k y))=xs.drop m:=by
  rw[BT];intro y u;obtain⟨i,r,rfl⟩:=BJ u;rw[B9]at r;rw[DC];exact decide_eq_true (z (m+i) (by omega) (by omega))
 rw[r,H,BO]
theorem ii {α:Type}{k:α->Int}{xs:List α}{x:α}{m:Nat}(h:Asc k xs)(H:m<xs.length)(e:k xs[m]=k x):xs.set m x=bq k x xs:=by
 have J:=cB.1 h;have M:∀ i,(r:i<xs.length)->i<m->k xs[i]<k x:=λi r y=>by rw[<- e];exact J i m r H y
 have I:∀ i,(r:i<xs.length)->m<i->k x<k xs[i]:=λi r y=>by rw[<- e];exact J m i H r y
 rw[bq,qW (m:=m) (by omega) M (λi r u=>by
   rcases CE u with z|z
   ·exact Cy (I i r z)
   ·subst z;omega),
  qX (m:=m+1) (by omega) (λi r u=>by
   rcases CE (Nat.le_of_lt_succ u) with z|z
   ·exact Cy (M i r z)
   ·subst z;omega) (λi r u=>I i r u),
  List.set_eq_take_append_cons_drop,if_pos H]
theorem gv {α:Type}{k:α->Int}{xs:List α}{x:α}{m:Nat}(H:m<=xs.length)(z:∀ i,(r:i<xs.length)->i<m->k xs[i]<k x)(r:∀ i,(h:i<xs.length)->m<=i->k x<k xs[i]):xs.take m++[x]++xs.drop m=bq k x xs:=by
 rw[bq,qW H z (λi y u=>Cy (r i y u)),qX H (λi y u=>Cy (z i y u)) r,CH];rfl
theorem aV {α:Type}{k:α->Int}{xs:List α}{x y:α}:y∈bq k x xs<->y=x\/(y∈xs/\k y≠k x):=by
 simp only[bq,CC,CI,BH,decide_eq_true_eq];constructor
 ·rintro (⟨r,z⟩|rfl|⟨r,z⟩)
  ·exact .inr ⟨r,by omega⟩
  ·exact .inl rfl
  ·exact .inr ⟨r,by omega⟩
 ·rintro (rfl|⟨r,z⟩)
  ·exact .inr (.inl rfl)
  ·rcases Int.lt_or_gt_of_ne z with u|u
   ·exact .inl ⟨r,u⟩
   ·exact .inr (.inr ⟨r,u⟩)
theorem e9 {α:Type}{k:α->Int}{xs:List α}{x:α}(h:Asc k xs):Asc k (bq k x xs):=by
 unfold Asc bq;rw[CN,BQ];refine⟨h.filter _,⟨λy r=>?_,h.filter _⟩,λy r z u=>?_⟩
 ·simpa using (BH.1 r).2
 ·have H:k y<k x:=by simpa using (BH.1 r).2
  rcases CI.1 u with rfl|u
  ·exact H
  ·have I:k x<k z:=by simpa using (BH.1 u).2
   omega
theorem yp {α:Type}{k:α->Int}{xs:List α}{x:α}:(bq k x xs).length<=xs.length+1:=by
 have:∀ l:List α,(l.filter (λy=>decide (k y<k x))).length+(l.filter (λy=>decide (k x<k y))).length<=l.length:=by
  intro l;induction l with
  |nil=>simp
  |cons y l u =>
   simp only[BV,BG];by_cases r:k y<k x
   ·rw[if_pos (decide_eq_true r),if_neg (by simp;omega)];simp only[BG];omega
   ·rw[if_neg (by simpa using r)];split <;> (try simp only[BG]) <;> omega
 have:=this xs;simp only[bq,BP,BG];omega
theorem oV {α:Type}{k:α->Int}{xs:List α}(h:Asc k xs){i:Nat}(u:i<xs.length){v:Int}(e:k xs[i]=v):xs.find? (λy=>k y==v)=some xs[i]:=by
 cases r:xs.find? (λy=>k y==v) with
 |none =>
  have:=C9.1 r xs[i] (BC u);simp[e]at this
 |some y =>
  have H:k y=v:=by simpa using C3 r
  obtain⟨j,z,rfl⟩:=BJ (Cc r);have:=oP h z u (by rw[H,e]);subst this;rfl
theorem nN {α:Type}{k:α->Int}{xs:List α}{v:Int}(h:∀ y∈xs,k y≠v):xs.find? (λy=>k y==v)=none:=by
 rw[C9];intro y r;simpa using h y r
def jR {α:Type}(k:α->Int)(x:α):Bool->List α->List α
 |d,[]=>bif d then [] else [x]
 |d,y::r=>(bif !d&&decide (k x<=k y) then [x] else [])++((bif k y != k x then [y] else [])++jR k x (d||decide (k x<=k y)) r)
theorem pF {α:Type}{k:α->Int}{x:α}:∀ {r:List α},(∀ y∈r,k x<k y)->jR k x true r=r
 |[],_=>rfl
 |y::r,h=>by
  have H:=h y (by simp);simp only[jR,BI,CQ,cond_false,Cz,BO];rw[pF (λz u=>h z (by simp[u])),show (k y != k x)=true by simp;omega];rfl
theorem kT {α:Type}{k:α->Int}{x:α}:∀ {xs:List α},Asc k xs->jR k x false xs=bq k x xs
 |[],_=>rfl
 |y::r,h=>by
  have O:Asc k r:=(BQ.1 h).2;have H:∀ z∈r,k y<k z:=(BQ.1 h).1;simp only[jR,B4,CF,Cv];by_cases I:k x<=k y
  ·rw[decide_eq_true I,pF (λz u=>by have:=H z u;omega)];simp only[cond_true,bq,BV];have M:r.filter (λz=>decide (k z<k x))=[]:=by
    rw[BY];intro z u;have:=H z u;simp;omega
   have R:r.filter (λz=>decide (k x<k z))=r:=by
    rw[BT];intro z u;have:=H z u;simp;omega
   rw[M,R,if_neg (by simp;omega)];by_cases J:k y=k x
   ·rw[if_neg (by simp;omega),show (k y != k x)=false by simpa using J];rfl
   ·rw[if_pos (by simp;omega),show (k y != k x)=true by simpa using J];rfl
  ·rw[decide_eq_false I,kT O,show (k y != k x)=true by simp;omega];simp only[cond_false,cond_true,bq,BV,BO];rw[if_pos (by simp;omega),if_neg (by simp;omega)];rfl
theorem sI {α A R:Type}(k:α->Int)(x:α)(t:List α)(q:α->Bool)(O:Option R)(I:List α->Option R)(S:List α->Bool->Nat->A){step:(A->Option R)->A->Option R}
  (h:∀ (rec:A->Option R) (r:List α) (d:Bool) (i:Nat) (X:i<t.length),r.length<=i+1->(d=false->r.length<=i)->step rec (S r d i)=bif q t[i] then O else rec (S ((r++(bif !d&&decide (k x<=k t[i]) then [x] else []))++(bif k t[i] != k x then [t[i]] else [])) (d||decide (k x<=k t[i])) (i+1)))
  (y:∀ (rec:A->Option R) (r:List α) (d:Bool),r.length<=t.length+1->(d=false->r.length<=t.length)->step rec (S r d t.length)=I (r++(bif d then [] else [x]))) :
  ∀ (n i K:Nat) (r:List α) (d:Bool),i+n=t.length->n<K->r.length<=i+1->(d=false->r.length<=i)->ae step K (S r d i)=bif (t.drop i).any q then O else I (r++jR k x d (t.drop i)):=by
 intro n;induction n with
 |zero =>
  intro i K r d X hK J z;obtain⟨K,rfl⟩:∃ M,K=M+1:=⟨K-1,by omega⟩;have:i=t.length:=by omega
  subst this;show step (ae step K) _=_;rw[y _ _ _ J z,Cm];rfl
 |succ n Z =>
  intro i K r d X hK J z;obtain⟨K,rfl⟩:∃ M,K=M+1:=⟨K-1,by omega⟩;have u:i<t.length:=by omega
  show step (ae step K) _=_;rw[h _ _ _ _ u J z,BL u,List.any_cons];cases hq:q t[i] with
  |true=>rfl
  |false =>
   simp only[cond_false,Cv,jR];rw[Z (i+1) K _ _ (by omega) (by omega) ?_ ?_]
   ·simp only[CH]
   ·cases d with
    |true =>
     simp only[BI,CQ,cond_false,BN];cases k t[i] != k x <;> simp <;> omega
    |false =>
     have:=z rfl;cases Y:decide (k x<=k t[i]) <;> cases k t[i] != k x <;> simp <;> omega
   ·intro H;rw[Bool.or_eq_false_iff]at H;obtain⟨rfl,Y⟩:=H;have:=z rfl;rw[Y];cases k t[i] != k x <;> simp <;> omega
theorem tZ (K:Nat)(n:aa)(r:NB n)(u:1048577<K):∃ b,Q221.f K (n,())=rb b/\Q166.f K (n,())=rb b/\(b=true<->eV n):=by
 obtain⟨b,J,y⟩:=oU K n r u;obtain⟨H,z,I⟩:=sH K n r u;have:b=H:=by rw[CS,y,I]
 subst this;exact⟨b,J,z,y⟩
theorem eV.up {n:aa}(h:eV n)(r:n.2.1=true):UpP n:=by
 have:=h.2.2.2.2.2
 rwa [if_pos r]at this
abbrev aj:=Int×Int×Int×Int×Int×Int×dy×List af
abbrev aj.table (w:aj):List af:=w.2.2.2.2.2.2.2
abbrev aj.coord (w:aj):dy:=w.2.2.2.2.2.2.1
def lY:List af->Prop
 |[]=>False
 |f::l=>b8 (f::l) (ak f.1)
def dz (w:aj):Prop:=InP w.1 1 2/\InP w.2.1 1 6/\InP w.2.2.1 0 7/\InP w.2.2.2.1 0 7/\InP w.2.2.2.2.1 0 999999/\InP w.2.2.2.2.2.1 0 7/\cH (aj.coord w)/\az (aj.table w) /\
 (if w.2.1=6 then lY (aj.table w) else b8 (aj.table w) (ak w.2.2.1))
theorem lZ (K:Nat)(w:aj)(u:(aj.table w).length<=1048576)(r:1048577<K):Ret (Q22.f K (w,())) (dz w):=by
 refine Ret.nx (cG K _ _ _) λ_=>Ret.nx (cG K _ _ _) λ_=>Ret.nx (cG K _ _ _) λ_=>Ret.nx (cG K _ _ _) λ_=>Ret.nx (cG K _ _ _) λ_=>Ret.nx (cG K _ _ _) λ_=>Ret.nx (iA K _) λ_=>Ret.nx (gq K _ u r) λ_=>?_
 dsimp only;by_cases h:w.2.1=6
 ·rw[show (w.2.1==6)=true by simpa using h,if_pos h];obtain⟨w1,w2,w3,w4,z,y,H,t⟩:=w;cases t with
  |nil=>exact Ret.no (λh=>h)
  |cons f l =>
   rw[show decide ((BB (f::l):Int)>0)=true from decide_eq_true (by simp only[BG];omega)];simp only[cond_true];exact Ret.vl (ag (xs:=f::l) (i:=0) (by simp)) (e8 K _ _ u r).id
 ·rw[show (w.2.1==6)=false by simpa using h,if_neg h];exact (e8 K _ _ u r).id
theorem yq (K:Nat)(w:aj)(u:(aj.table w).length<=1048576)(r:1048577<K):Ret (Q167.f K (w,())) (dz w):=by
 refine Ret.iff (Q:=dz w) (Ret.nx (eG K _ _ _) λ_=>Ret.nx (eG K _ _ _) λ_=>Ret.nx (ja K _) λ_=>Ret.nx (ja K _) λ_=>Ret.nx (ja K _) λ_=>Ret.nx (eG K _ _ _) λ_=>Ret.nx (nM K _) λ_=>Ret.nx (gr K _ u r)
  (Q:=if w.2.1=6 then lY (aj.table w) else b8 (aj.table w) (ak w.2.2.1)) λ_=>?_) ?_
 ·dsimp only;by_cases h:w.2.1=6
  ·rw[show (w.2.1==6)=true by simpa using h,if_pos h];obtain⟨w1,w2,w3,w4,z,y,H,t⟩:=w;cases t with
   |nil=>exact Ret.no (λh=>h)
   |cons f l =>
    rw[show decide ((BB (f::l):Int)>0)=true from decide_eq_true (by simp only[BG];omega)];simp only[cond_true];exact Ret.vl (ag (xs:=f::l) (i:=0) (by simp)) (Ret.vl (mL K _) (ig K _ _ u r).id)
  ·rw[show (w.2.1==6)=false by simpa using h,if_neg h];simp only[cond_false];exact Ret.vl (mL K _) (ig K _ _ u r).id
 ·unfold dz;constructor
  ·rintro⟨h1,h2,h3,h4,h5,h6,h7,h8,h9⟩;exact⟨h1,h2,h3,h4,h6,h5,h7,h8,h9⟩
  ·rintro⟨h1,h2,h3,h4,h6,h5,h7,h8,h9⟩;exact⟨h1,h2,h3,h4,h5,h6,h7,h8,h9⟩
theorem iC {α A R:Type}(xs:List α)(S:List α->Nat->A)(r:Option R){step:(A->Option R)->A->Option R}
  (h:∀ (rec:A->Option R) (u:List α) (i:Nat) (z:i<xs.length),u.length=i->step rec (S u i)=rec (S (u++[xs[i]]) (i+1))) (y:∀ rec:A->Option R,step rec (S xs xs.length)=r) {k:Nat} (H:xs.length<k):ae step k (S [] 0)=r:=by
 refine er (step:=step) xs.length (λi=>S (xs.take i) i) r ?_ ?_ H
 ·intro rec i z;show step rec (S (xs.take i) i)=rec (S (xs.take (i+1)) (i+1));rw[h rec (xs.take i) i z (by simp;omega),CO z]
 ·intro rec;show step rec (S (xs.take xs.length) xs.length)=r;rw[CR];exact y rec
theorem szb (a b c:Nat)(r:c<=64)(h:a+b<=2097152):decide ((a+b)*c<=an)=true:=by
 have:=Cg h r;exact decide_eq_true (by unfold an;omega)
theorem mO (K:Nat)(n:aa)(u:NB n)(J:1048577<K):Q109.f K (n,())=some ((n,()),()):=by
 have R:=u.table;have M:=u.cast;have H:=u.doubts;have I:=u.places;have O:=u.others;simp only[Q109.f,Q109.pre];rw[szb _ _ _ (by omega) (by show (BB ([]:List af))+(aa.table n).length<=_;simp;omega),szb _ _ _ (by omega) (by show (BB ([]:List aF))+(aa.cast n).length<=_;simp;omega)];simp only[cond_true];refine iC (aa.doubts n) (step:=λrec a=>Q109.s0 K (n,()) (Q109.l1 K (n,())) rec a) (λr i=>((i:Int),r)) _ ?_ ?_ (by omega)
 ·intro rec r i y z;have:=u.by_ _ (BC y);simp only[Q109.s0];rw[bh (by omega:(i:Int)<(BB (aa.doubts n):Int)),ag y,ar i (by omega)];simp only[cond_true,BA];rw[szb _ _ _ (by omega) (by simp;omega),szb _ _ _ (by omega) (by simp;omega)];rfl
 ·intro rec;simp only[Q109.s0,aP,cond_false];refine iC (aa.places n) (step:=λrec a=>Q109.s1 K (n,()) (Q109.l2 K (n,())) rec a) (λr i=>((i:Int),aa.doubts n,r)) _ ?_ ?_ (by omega)
  ·intro rec r i y z;have:=u.trips _ (BC y);simp only[Q109.s1];rw[bh (by omega:(i:Int)<(BB (aa.places n):Int)),ag y,ar i (by omega)];simp only[cond_true,BA];rw[szb _ _ _ (by omega) (by simp;omega),szb _ _ _ (by omega) (by simp;omega)];rfl
  ·intro rec;simp only[Q109.s1,aP,cond_false];refine iC (aa.others n) (step:=λrec a=>Q109.s2 K (n,()) rec a) (λr i=>((i:Int),aa.doubts n,aa.places n,r)) _ ?_ ?_ (by omega)
   ·intro rec r i y z;have:=u.facts _ (BC y);simp only[Q109.s2,zcp8];rw[bh (by omega:(i:Int)<(BB (aa.others n):Int)),ag y,ar i (by omega)];simp only[cond_true,BA];rw[szb _ _ _ (by omega) (by simp;omega),szb _ _ _ (by omega) (by simp;omega)];rfl
   ·intro rec;simp only[Q109.s2,zcp8,aP,cond_false];rfl
theorem yt (K:Nat)(n:aa)(u:NB n)(J:1048577<K):Q210.f K (n,())=some ((n,()),()):=by
 have R:=u.table;have M:=u.cast;have H:=u.doubts;have I:=u.places;have O:=u.others;simp only[Q210.f,Q210.pre];refine iC (aa.doubts n) (step:=λrec a=>Q210.s0 K (n,()) (Q210.l1 K (n,())) rec a) (λr i=>(r,(i:Int))) _ ?_ ?_ (by omega)
 ·intro rec r i y z;have:=u.by_ _ (BC y);simp only[Q210.s0,Q9.f];rw[bh (by omega:(i:Int)<(BB (aa.doubts n):Int)),ag y,ar i (by omega)];simp only[cond_true,BA];rw[dX (by omega)];simp only[BA];rw[szb _ _ _ (by omega) (by simp;omega)];rfl
 ·intro rec;simp only[Q210.s0,aP,cond_false];refine iC (aa.places n) (step:=λrec a=>Q210.s1 K (n,()) (Q210.l2 K (n,())) rec a) (λr i=>(aa.doubts n,r,(i:Int))) _ ?_ ?_ (by omega)
  ·intro rec r i y z;have:=u.trips _ (BC y);simp only[Q210.s1,Q9.f];rw[bh (by omega:(i:Int)<(BB (aa.places n):Int)),ag y,ar i (by omega)];simp only[cond_true,BA];rw[dX (by omega)];simp only[BA];rw[szb _ _ _ (by omega) (by simp;omega)];rfl
  ·intro rec;simp only[Q210.s1,aP,cond_false];refine iC (aa.others n) (step:=λrec a=>Q210.s2 K (n,()) rec a) (λr i=>(aa.doubts n,aa.places n,r,(i:Int))) _ ?_ ?_ (by omega)
   ·intro rec r i y z;have:=u.facts _ (BC y);simp only[Q210.s2,zcp8,Q1.f];rw[bh (by omega:(i:Int)<(BB (aa.others n):Int)),ag y,ar i (by omega)];simp only[cond_true,BA];rw[dX (by omega)];simp only[BA];rw[szb _ _ _ (by omega) (by simp;omega)];rfl
   ·intro rec;simp only[Q210.s2,zcp8,aP,cond_false,Q1.f,Q3.f];rw[dX (by show (aa.table n).length*_<=_;omega),dX (by show (aa.cast n).length*_<=_;omega)];rfl
instance (f g:af):Decidable (bB f g):=by unfold bB;infer_instance
theorem pG (K:Nat)(f g:af):Q26.f K (f,g,())=rb (decide (bB f g)):=by
 obtain⟨b,u,r⟩:=sG K f g;rw[u,show b=decide (bB f g) by rw[CS,r];simp]
def bO (t:List af)(f:af):List af×Bool :=
 match t.find? (λg=>g.1==f.1) with
 |some g=>if bB f g then (bq (λg=>g.1) f t,true) else (t,false)
 |none=>(bq (λg=>g.1) f t,true)
theorem jb {t:List af}{f:af}(r:Asc (λg:af=>g.1) t){i:Nat}(u:i<t.length)(e:t[i].1=f.1):bO t f=if bB f t[i] then (bq (λg=>g.1) f t,true) else (t,false):=by
 unfold bO;rw[show t.find? (λg=>g.1==f.1)=some t[i] from oV r u e]
theorem gw {t:List af}{f:af}(h:∀ g∈t,g.1≠f.1):bO t f=(bq (λg=>g.1) f t,true):=by
 unfold bO;rw[show t.find? (λg=>g.1==f.1)=none from nN h]
theorem jv {e:Ty}{b:Nat}{xs:List e.den}{m:Nat}{v:e.den}(y:m<=xs.length)(r:b<=64)(u:xs.length<=1048576):fO e b xs (m:Int) [v]=some ((xs.take m++[v]++xs.drop m,()),()):=by
 unfold fO;have:(xs.length+[v].length)*b<=140737488355328:=B6 (Cg (show xs.length+[v].length<=1048577 by simp;omega) r) (by decide);rw[if_pos ⟨by omega,by omega,by simp,by simpa only[an]using this⟩,BE]
theorem qY {e:Ty}{xs:List e.den}{u:e.den×Unit->Option Bool}(p:e.den->Bool)(z:xs.length<=1048576)(h:∀ x∈xs,u (x,())=some (p x)):gJ e xs u=some ((xs.filter (λx=>!p x),()),()):=by
 have:∀ r:List e.den,(∀ x∈r,u (x,())=some (p x))->lR u r=some (r.filter (λx=>!p x)):=by
  intro r;induction r with
  |nil=>intro _;rfl
  |cons y r H =>
   intro h;simp only[lR,h y (by simp),BA,H (λx z=>h x (by simp[z])),DK,BV];cases p y <;> rfl
 unfold gJ;rw[if_pos z,this xs h];rfl
theorem put_s (K:Nat)(t:List af)(f:af)(ht:t.length<=1048576)(O:Asc (λg:af=>g.1) t)(Z:1048577<K):Q27.f K (t,f,())=some (((bO t f).1,(bO t f).2,()),()):=by
 simp only[Q27.f,Q27.pre];obtain⟨o,z,I⟩:=fk K t f.1 ht Z;rw[I];simp only[BA];cases z with
 |at_ i r e =>
  simp only;rw[jb O r e,decide_eq_true (by omega:((i:Nat):Int)>=0),ag r];simp only[cond_true,BA];rw[show Q26.f K (f,t[i],())=_ from pG K f t[i]];simp only[BA];by_cases z:bB f t[i]
  ·rw[decide_eq_true z,if_pos z];simp only[BI,cond_false];rw[szb _ _ _ (by omega) (by show (BB ([]:List af))+t.length<=_;simp;omega)];simp only[cond_true,BO,ag r,BA,BE];rw[ii (k:=λg:af=>g.1) O r e]
  ·rw[decide_eq_false z,if_neg z];rfl
 |no h =>
  simp only;rw[gw h,decide_eq_false (by omega:¬ (-1:Int)>=0)];simp only[cond_false];have J:∀ m:Nat,m<=t.length->(bif decide ((0:Int)<=0)&&decide ((0:Int)<=(m:Int))&&decide ((m:Int)<=(BB t:Int))&&true then (bif decide ((BB ([]:List af)+BB ((t.take (BD (m:Int))).drop (BD 0)))*32<=an) then (bif decide ((BB ([]++((t.take (BD (m:Int))).drop (BD 0)))+BB ([f]))*32<=an) then (bif decide ((0:Int)<=(m:Int))&&decide ((m:Int)<=(BB t:Int))&&decide ((BB t:Int)<=(BB t:Int))&&true then (bif decide ((BB (([]++((t.take (BD (m:Int))).drop (BD 0)))++([f]))+BB ((t.take (BD (BB t:Int))).drop (BD (m:Int))))*32<=an) then (some (((([]++((t.take (BD (m:Int))).drop (BD 0)))++([f]))++((t.take (BD (BB t:Int))).drop (BD (m:Int))),true,()),())) else none) else none) else none) else none) else (none:Option ((List af×Bool×Unit)×Unit)))=some ((t.take m++[f]++t.drop m,true,()),()):=by
   intro m X;rw[decide_eq_true (by omega:(0:Int)<=0),decide_eq_true (by omega:(0:Int)<=(m:Int)),decide_eq_true (by omega:(m:Int)<=(BB t:Int)),decide_eq_true (by omega:(BB t:Int)<=(BB t:Int))];simp only[BE,CX,B3,BO,CR,CT,cond_true];have I:(t.take m).length=m:=by rw[BW];omega
   have H:(t.drop m).length=t.length-m:=B9;rw[szb _ _ _ (by omega) (by simp only[BM];omega),szb _ _ _ (by omega) (by simp only[BG,BM];omega),szb _ _ _ (by omega) (by simp only[BP,BG,BM];omega)];rfl
  have:=co (step:=λrec a=>Q27.s0 K (t,f,()) rec a) t.length (λi=>(i:Int)) (λj=>∃ h:j<t.length,¬ t[j].1<f.1) (some ((t.take t.length++[f]++t.drop t.length,true,()),())) (λj=>some ((t.take j++[f]++t.drop j,true,()),())) ?_ ?_ t.length K 0 (by omega) (by omega)
  ·have M:∀ m,m<=t.length->(∀ i,(r:i<t.length)->i<m->t[i].1<f.1)->(∀ i,(r:i<t.length)->m<=i->f.1<t[i].1)->t.take m++[f]++t.drop m=bq (λg=>g.1) f t:=λm X lo r=>gv (k:=λg:af=>g.1) X lo r
   rcases this with ⟨I,H⟩|⟨j,_,I,⟨h3,h4⟩,h5,H⟩
   ·rw[M t.length (BR _) (λi r _=>by
     have:=I i (BX _) r;exact CW.1 λh=>this ⟨r,h⟩) (λi r h=>by omega)]at H
    exact H
   ·rw[M j (by omega) (λi r y=>by
     have:=h5 i (BX _) y;exact CW.1 λh=>this ⟨r,h⟩) (λi r y=>by
     have Y:=h t[i] (BC r);rcases CE y with R|R
     ·have:=cB.1 O j i h3 r R;omega
     ·subst R;omega)]at H
    exact H
  ·intro rec i r;simp only[Q27.s0];rw[bh (by omega:(i:Int)<(BB t:Int)),ag r,ar i (by omega)];simp only[cond_true,BA];by_cases u:t[i].1<f.1
   ·exact .inl ⟨λ⟨_,h⟩=>h u,by rw[decide_eq_true u];rfl⟩
   ·exact .inr ⟨⟨r,u⟩,by rw[decide_eq_false u];exact J i (by omega)⟩
  ·intro rec;simp only[Q27.s0,aP,cond_false];exact J t.length (BR _)
theorem vB (K:Nat)(t:List af)(f:af)(X:t.length<=1048576)(y:Asc (λg:af=>g.1) t)(R:1048577<K):Q170.f K (t,f,())=some (((bO t f).1,(bO t f).2,()),()):=by
 simp only[Q170.f,Q1.f,Q2.f];rw[dX (by omega)];simp only[BA];obtain⟨m,r,Y⟩:=sE K t f.1 X y R;rw[Y];simp only[BA];by_cases J:∃ h:m<t.length,t[m].1=f.1
 ·obtain⟨O,z⟩:=J;rw[decide_eq_true ⟨O,z⟩,jb y O z];simp only[BI,cond_false,ag O,BA,BE];rw[mM K f t[m] R];simp only[BA];by_cases I:bB f t[m]
  ·rw[decide_eq_true ((ju z.symm).2 I),if_pos I,ii (k:=λg:af=>g.1) y O z];rfl
  ·rw[decide_eq_false (λh=>I ((ju z.symm).1 h)),if_neg I];rfl
 ·rw[decide_eq_false J,gw (λg Z e=>by
   obtain⟨i,u,rfl⟩:=BJ Z;rcases Cs i m with h|h|h
   ·have:=r.lo i u h;omega
   ·subst h;exact J ⟨u,e⟩
   ·have h5:=r.hi m (by omega) (BR _);have M:=cB.1 y m i (by omega) u h;omega)]
  simp only[B4,cond_true];rw[jv r.le (by omega) X];simp only[BA];rw[gv (k:=λg:af=>g.1) r.le r.lo (λi u H=>by
   have:=r.hi i u H;rcases CE H with M|M
   ·have h5:=r.hi m (by omega) (BR _);have h7:=cB.1 y m i (by omega) u M;omega
   ·subst M;have:t[m].1≠f.1:=λe=>J ⟨u,e⟩
    omega)]
def cC (l:List aF)(f:af):List aF:=if ∃ x∈l,x.1.1=f.1/\¬ bB f x.1 then l else bq (λx=>x.1.1) (f,4) l
theorem ua {l:List aF}{f:af}:cC l f=bif l.any (λx=>x.1.1==f.1&&!decide (bB f x.1)) then l else bq (λx=>x.1.1) (f,4) l:=by
 unfold cC;have:(∃ x∈l,x.1.1=f.1/\¬ bB f x.1)<->l.any (λx=>x.1.1==f.1&&!decide (bB f x.1))=true:=by
  rw[List.any_eq_true];simp
 by_cases h:∃ x∈l,x.1.1=f.1/\¬ bB f x.1
 ·rw[if_pos h,this.1 h];rfl
 ·rw[if_neg h,show l.any (λx=>x.1.1==f.1&&!decide (bB f x.1))=false by rw[Bool.eq_false_iff];exact λr=>h (this.2 r)];rfl
theorem zR (K:Nat)(l:List aF)(f:af)(Y:l.length<=1048576)(I:Asc (λx:aF=>x.1.1) l)(X:1048577<K):Q28.f K (l,f,())=some ((cC l f,()),()):=by
 have:=sI (step:=λrec a=>Q28.s0 K (l,f,()) rec a) (λx:aF=>x.1.1) (f,4) l (λx=>x.1.1==f.1&&!decide (bB f x.1)) (some ((l,()),())) (λR=>some ((R,()),())) (λr d i=>(r,d,(i:Int))) ?_ ?_ l.length 0 K [] false (by omega) (by omega) (by simp) (by simp)
 ·refine Cw (this:Q28.f K (l,f,())=_) ?_;rw[B3,ua,kT I];cases l.any (λx=>x.1.1==f.1&&!decide (bB f x.1)) <;> rfl
 ·intro rec r d i M J z;simp only[Q28.s0];rw[bh (by omega:(i:Int)<(BB l:Int)),ag M,ar i (by omega)];simp only[cond_true,BA];have u:decide ((r.length+[((f,4):af×Nat)].length)*40<=an)=true:=szb _ _ _ (by omega) (by simp;omega);have O:decide (((r++[((f,4):aF)]).length+[l[i]].length)*40<=an)=true:=szb _ _ _ (by omega) (by simp;omega);have H:decide ((r.length+[l[i]].length)*40<=an)=true:=szb _ _ _ (by omega) (by simp;omega);by_cases y:l[i].1.1=f.1
  ·rw[show (l[i].1.1==f.1)=true by simpa using y,show (l[i].1.1 != f.1)=false by simpa using y,show decide (f.1<=l[i].1.1)=true from decide_eq_true (by omega)];simp only[cond_true,cond_false,CF,Co,DP,BN];rw[show Q26.f K (f,l[i].1,())=_ from pG K f l[i].1];simp only[BA];cases decide (bB f l[i].1) with
   |false=>rfl
   |true =>
    simp only[BI,cond_false];cases d with
    |true=>simp only[BI,cond_false,BN]
    |false =>
     simp only[B4,cond_true];rw[u];rfl
  ·rw[show (l[i].1.1==f.1)=false by simpa using y,show (l[i].1.1 != f.1)=true by simpa using y];simp only[cond_true,cond_false,CQ];cases d with
   |true =>
    simp only[BI,cond_false,CQ,BN,Cz];rw[H];rfl
   |false =>
    simp only[B4,cond_true,CF,Cv];cases decide (f.1<=l[i].1.1) with
    |true =>
     simp only[cond_true];rw[u];simp only[cond_true];rw[O];rfl
    |false =>
     simp only[cond_false,BN];rw[H];rfl
 ·intro rec r d J z;simp only[Q28.s0,aP];cases d with
  |true=>simp only[BI,cond_false,cond_true,BN]
  |false =>
   have:=z rfl;have u:decide ((r.length+[((f,4):af×Nat)].length)*40<=an)=true:=szb _ _ _ (by omega) (by simp;omega);simp only[B4,cond_true,cond_false];rw[u];rfl
theorem wX (K:Nat)(l:List aF)(f:af)(hl:l.length<=1048576)(X:cO l)(hf:bf f)(Z:1048577<K):Q172.f K (l,f,())=some ((cC l f,()),()):=by
 simp only[Q172.f,Q3.f,Q4.f];obtain⟨b1,e1,e2⟩:=oS K l hl Z;have a1:=e2.2 X;subst a1;obtain⟨b2,e3,e4⟩:=lX K f;have a2:=e4.2 hf;subst a2;rw[e1];simp only[BA,BI,cond_false];rw[e3];simp only[BA,BI,cond_false];rw[dX (by omega)];simp only[BA];rw[uI K l hl Z];simp only[BA];have hA:Asc (λg:af=>g.1) (l.map (·.1)):=by
  have:=X.2;unfold Asc at this ⊢;rw[B7];exact this
 have r:(l.map (·.1)).length=l.length:=BU _;obtain⟨m,hm,h1⟩:=sE K (l.map (·.1)) f.1 (by rw[r];exact hl) hA Z;rw[h1];simp only[BA];have y:∀ i (h:i<l.length),(l.map (·.1))[i]'(by rw[r];exact h)=l[i].1:=λi h=>List.getElem_map _
 have J:=hm.le;rw[r]at J;have lo:∀ i,(u:i<l.length)->i<m->l[i].1.1<f.1:=λi u I=>by have:=hm.lo i (by rw[r];exact u) I;rwa [y i u]at this
 have R:∀ i,(u:i<l.length)->m<=i->f.1<=l[i].1.1:=λi u I=>by have:=hm.hi i (by rw[r];exact u) I;rwa [y i u]at this
 by_cases he:∃ h:m<l.length,l[m].1.1=f.1
 ·obtain⟨z,H⟩:=he;rw[decide_eq_true ⟨by rw[r];exact z,by rw[y m z];exact H⟩];simp only[BI,cond_false,ag z,BA,BE];rw[show Q152.f K (f,l[m].1,())=_ from mM K f l[m].1 Z];simp only[BA];have a0:∀ x∈l,x.1.1=f.1->x=l[m]:=λx M e=>by
   obtain⟨i,u,rfl⟩:=BJ M;have:=oP X.2 u z (by show l[i].1.1=l[m].1.1;rw[e,H]);subst this;rfl
  by_cases Y:bB f l[m].1
  ·rw[decide_eq_true ((ju H.symm).2 Y),cC,if_neg (λ⟨x,M,e,hn⟩=>hn (by rw[a0 x M e];exact Y)),ii (k:=λx:aF=>x.1.1) (x:=(f,4)) X.2 z H];rfl
  ·rw[decide_eq_false (λh=>Y ((ju H.symm).1 h)),cC,if_pos ⟨l[m],BC z,H,Y⟩];rfl
 ·have O:∀ x∈l,x.1.1≠f.1:=λx M e=>by
   obtain⟨i,u,rfl⟩:=BJ M;rcases Cs i m with h|h|h
   ·have:=lo i u h;omega
   ·subst h;exact he ⟨u,e⟩
   ·have h5:=R m (by omega) (BR _);have h6:l[m].1.1<l[i].1.1:=cB.1 X.2 m i (by omega) u h;omega
  rw[decide_eq_false (λ⟨z,H⟩=>he ⟨by rw[r]at z;exact z,by rw[y m (by rw[r]at z;exact z)]at H;exact H⟩),cC,if_neg (λ⟨x,M,e,_⟩=>O x M e)];simp only[B4,cond_true];rw[jv J (by omega) hl];simp only[BA];rw[gv (k:=λx:aF=>x.1.1) (x:=(f,4)) J lo (λi u a3=>by
   have h1:=R i u a3;have z:=O l[i] (BC u);show f.1<l[i].1.1;omega)]
theorem oe {α:Type}{k:α->Int}{x:α}:∀ {r:List α},jR k x true r=r.filter (λy=>k y != k x)
 |[]=>rfl
 |y::r=>by
  simp only[jR,BI,CQ,cond_false,Cz,BO,BV];rw[oe];cases k y != k x <;> rfl
theorem ub {α:Type}{k:α->Int}{x:α}{xs:List α}:bq k x (xs.filter λy=>!(k y==k x))=bq k x xs:=by
 simp only[bq,List.filter_filter];congr 1
 ·refine Ct λy _=>?_
  by_cases h:k y<k x
  ·rw[decide_eq_true h];simp;omega
  ·rw[decide_eq_false h];rfl
 ·congr 1;refine Ct λy _=>?_
  by_cases h:k x<k y
  ·rw[decide_eq_true h];simp;omega
  ·rw[decide_eq_false h];rfl
def mkD (r:Int)(f:af)(b:Int):bN:=(f.1,f.2.1,r,[b])
def cP (r:Int)(ds:List bN)(f:af)(b:Int):List bN:=if f.2.2.1=2 then bq (λd=>d.1) (mkD r f b) ds else ds.filter (λd=>!(d.1==f.1))
theorem zS (K:Nat)(n:aa)(f:af)(b:Int)(Y:(aa.doubts n).length<=1048576)(H:Asc (λd:bN=>d.1) (aa.doubts n))(X:1048577<K) :
  Q29.f K (n,f,b,())=some ((cP n.2.2.2.2.2.1 (aa.doubts n) f b,()),()):=by
 have:=sI (step:=λrec a=>Q29.s0 K (n,f,b,()) rec a) (λd:bN=>d.1) (mkD n.2.2.2.2.2.1 f b) (aa.doubts n) (λ_=>false) none (λO=>some ((O,()),())) (λr d i=>(r,d,(i:Int))) ?_ ?_ (aa.doubts n).length 0 K [] (f.2.2.1 != 2) (by omega) (by omega) (by simp) (by simp)
 ·refine Cw (this:Q29.f K (n,f,b,())=_) ?_;rw[B3,show (aa.doubts n).any (λ_=>false)=false by simp,cP];by_cases u:f.2.2.1=2
  ·rw[if_pos u,show (f.2.2.1 != 2)=false by simpa using u,kT H];rfl
  ·rw[if_neg u,show (f.2.2.1 != 2)=true by simpa using u,oe];rfl
 ·intro rec r d i J I z;simp only[Q29.s0];rw[bh (by omega:(i:Int)<(BB (aa.doubts n):Int)),ag J,ar i (by omega)];simp only[cond_true,cond_false,BA];have y:decide ((r.length+[mkD n.2.2.2.2.2.1 f b].length)*48<=an)=true:=szb _ _ _ (by omega) (by simp;omega);have M:decide (((r++[mkD n.2.2.2.2.2.1 f b]).length+[(aa.doubts n)[i]].length)*48<=an)=true:=szb _ _ _ (by omega) (by simp;omega);have R:decide ((r.length+[(aa.doubts n)[i]].length)*48<=an)=true:=szb _ _ _ (by omega) (by simp;omega);show (bif !d then (bif decide (f.1<=(aa.doubts n)[i].1) then (bif decide ((r.length+[mkD n.2.2.2.2.2.1 f b].length)*48<=an) then (bif (aa.doubts n)[i].1 != f.1 then (bif decide (((r++[mkD n.2.2.2.2.2.1 f b]).length+[(aa.doubts n)[i]].length)*48<=an) then (rec ((r++[mkD n.2.2.2.2.2.1 f b])++[(aa.doubts n)[i]],true,((i+1:Nat):Int))) else none) else (rec (r++[mkD n.2.2.2.2.2.1 f b],true,((i+1:Nat):Int)))) else none) else (bif (aa.doubts n)[i].1 != f.1 then (bif decide ((r.length+[(aa.doubts n)[i]].length)*48<=an) then (rec (r++[(aa.doubts n)[i]],d,((i+1:Nat):Int))) else none) else (rec (r,d,((i+1:Nat):Int))))) else (bif (aa.doubts n)[i].1 != f.1 then (bif decide ((r.length+[(aa.doubts n)[i]].length)*48<=an) then (rec (r++[(aa.doubts n)[i]],d,((i+1:Nat):Int))) else none) else (rec (r,d,((i+1:Nat):Int)))))=rec ((r++(bif !d&&decide (f.1<=(aa.doubts n)[i].1) then [mkD n.2.2.2.2.2.1 f b] else []))++(bif (aa.doubts n)[i].1 != f.1 then [(aa.doubts n)[i]] else []),d||decide (f.1<=(aa.doubts n)[i].1),((i+1:Nat):Int));rw[y,M,R];cases d <;> cases decide (f.1<=(aa.doubts n)[i].1) <;> cases (aa.doubts n)[i].1 != f.1 <;> simp only[BI,B4,CF,CQ,Cz,Cv,cond_true,cond_false,BN]
 ·intro rec r d I z;simp only[Q29.s0,aP];cases d with
  |true=>simp only[BI,cond_false,cond_true,BN]
  |false =>
   have:=z rfl;have y:decide ((r.length+[mkD n.2.2.2.2.2.1 f b].length)*48<=an)=true:=szb _ _ _ (by omega) (by simp;omega);show (bif decide ((r.length+[mkD n.2.2.2.2.2.1 f b].length)*48<=an) then some ((r++[mkD n.2.2.2.2.2.1 f b],()),()) else none)=some ((r++[mkD n.2.2.2.2.2.1 f b],()),());rw[y];rfl
theorem zT (K:Nat)(t:List bN)(r:Int)(ht:t.length<=1048576)(H:Asc (λd:bN=>d.1) t)(h7:∀ d∈t,InP d.1 0 7)(R:InP r 0 7)(hK:1048577<K) :
  ∃ m,m<=t.length/\(∀ i,(h:i<t.length)->i<m->t[i].1<r)/\(∀ i,(h:i<t.length)->m<=i->r<=t[i].1)/\∃ b,Q175.f K (t,r,(λJ=>(Q176.f K (J.1,J.2.1,())).map λy=>y.1.1),())=some ((((m:Nat):Int),b,()),()):=by
 let ks:Nat->Int:=λi=>if h:i<t.length then t[i].1 else 0
 have u:∀ i (h:i<t.length),ks i=t[i].1:=λi h=>by simp[ks,h]
 let I:Nat->Option ((Int×Bool×Unit)×Unit):=λm=>some ((((m:Nat):Int),decide (∃ h:m<t.length,t[m].1=r),()),())
 have Y:∀ d∈t,((Q176.f K (d,r,())).map λy=>y.1.1)=some (d.1-r):=λd Z=>by
  obtain⟨a1,a2⟩:=h7 d Z;obtain⟨a3,a4⟩:=R;simp only[Q176.f];rw[aJ (by omega) (by omega)];rfl
 have:=pA (step:=λrec a=>Q175.s0 K (t,r,(λJ=>(Q176.f K (J.1,J.2.1,())).map λy=>y.1.1),()) rec a) (ks:=ks) (n:=t.length) (t:=r) I ht
  (λi j M X=>by
   rw[u i (by omega),u j X];exact cB.1 H i j (by omega) X M) ?_ ?_ t.length K 0 t.length (by omega) (BX _) (BR _) (by omega) (λi z=>by omega) (λi z R=>by omega)
 ·obtain⟨m,h1,h2,h3,h4⟩:=this;exact⟨m,h1,λi h z=>by rw[<- u i h];exact h2 i z,λi h z=>by rw[<- u i h];exact h3 i z h,_,h4⟩
 ·intro rec a b a0 hb;have O:(a+b) / 2<t.length:=by omega
  simp only[Q175.s0];rw[decide_eq_true (by omega:(a:Int)<(b:Int)),nJ (by omega)];simp only[cond_true];rw[ag O];simp only[BA,Y _ (BC O)];rw[u _ O,ar _ (by omega)];by_cases h:t[(a+b) / 2].1<r
  ·rw[if_pos h,decide_eq_true (by omega:t[(a+b) / 2].1-r<0)];rfl
  ·rw[if_neg h,decide_eq_false (by omega:¬ t[(a+b) / 2].1-r<0)];rfl
 ·intro rec a ha;simp only[Q175.s0];rw[decide_eq_false (by omega)];simp only[cond_false];by_cases h:a<t.length
  ·rw[decide_eq_true (by omega:(a:Int)<(BB t:Int)),ag h];simp only[cond_true,BA,Y _ (BC h)];have:(t[a].1-r==0)=decide (∃ h:a<t.length,t[a].1=r):=by
    rw[CS];simp only[beq_iff_eq,decide_eq_true_eq];exact⟨λe=>⟨h,by omega⟩,λ⟨_,e⟩=>by omega⟩
   rw[this]
  ·rw[decide_eq_false (by omega:¬ (a:Int)<(BB t:Int))];simp only[cond_false,I];rw[decide_eq_false (λ⟨h',_⟩=>h h')]
def fV (n:aa)(t:List af)(c:List aF)(ds:List bN):aa :=
 (n.1,n.2.1,n.2.2.1,n.2.2.2.1,n.2.2.2.2.1,n.2.2.2.2.2.1,n.2.2.2.2.2.2.1,n.2.2.2.2.2.2.2.1,t,c,n.2.2.2.2.2.2.2.2.2.2.1,ds,n.2.2.2.2.2.2.2.2.2.2.2.2)
def jS (n:aa)(f:af):Bool:=decide (∃ g∈aa.table n,g.1=f.1/\g.2.1=f.2.1/\g.2.2.1=f.2.2.1)
def sayOf (n:aa)(f:af)(b:Int):aa :=
 bif (bO (aa.table n) f).2 then fV n (bO (aa.table n) f).1 (cC (aa.cast n) f) (bif jS n f then aa.doubts n else cP n.2.2.2.2.2.1 (aa.doubts n) f b) else n
structure cq (n:aa):Prop where
 table:az (aa.table n)
 cast:cO (aa.cast n)
 asc:Asc (λd:bN=>d.1) (aa.doubts n)
 inp:∀ d∈aa.doubts n,InP d.1 0 7
 lt:(aa.table n).length<=1048576
 lc:(aa.cast n).length<=1048576
 ld:(aa.doubts n).length<=1048576
theorem sJ {n:aa}{f g:af}(u:Asc (λg:af=>g.1) (aa.table n))(r:g∈aa.table n)(e:g.1=f.1):jS n f=(g.2.1==f.2.1&&g.2.2.1==f.2.2.1):=by
 rw[CS,jS,decide_eq_true_eq,CK,beq_iff_eq,beq_iff_eq];constructor
 ·rintro⟨x,hx,h1,h2,h3⟩;have:=gR u hx r (by rw[h1,e]);subst this;exact⟨h2,h3⟩
 ·rintro⟨h1,h2⟩;exact⟨g,r,e,h1,h2⟩
theorem sK {n:aa}{f:af}(h:∀ g∈aa.table n,g.1≠f.1):jS n f=false :=
 decide_eq_false λ⟨g,r,e,_⟩=>h g r e
theorem pH (K:Nat)(n:aa)(f:af)(b:Int)(h:cq n)(r:1048577<K):Q90.f K (n,f,b,())=some ((sayOf n f b,()),()):=by
 simp only[Q90.f,zcp8];rw[show Q27.f K (n.2.2.2.2.2.2.2.2.1,f,())=_ from put_s K (aa.table n) f h.lt h.table.2 r];simp only[BA];cases y:(bO (aa.table n) f).2 with
 |false =>
  simp only[sayOf,y];rfl
 |true =>
  simp only[sayOf,y,BI,cond_false,cond_true];obtain⟨o,J,M⟩:=fk K (aa.table n) f.1 h.lt r;rw[show Q25.f K (n.2.2.2.2.2.2.2.2.1,f.1,())=_ from M];simp only[BA];have I:=zS K (n.1,n.2.1,n.2.2.1,n.2.2.2.1,n.2.2.2.2.1,n.2.2.2.2.2.1,n.2.2.2.2.2.2.1,n.2.2.2.2.2.2.2.1,(bO (aa.table n) f).1,cC (aa.cast n) f,n.2.2.2.2.2.2.2.2.2.2) f b h.ld h.asc r;have H:=zR K (aa.cast n) f h.lc h.cast.2 r;cases J with
  |at_ i z e =>
   simp only;rw[sJ h.table.2 (BC z) e,decide_eq_true (by omega:((i:Nat):Int)>=0)];simp only[cond_true];rw[show idx n.2.2.2.2.2.2.2.2.1 (i:Int)=some (aa.table n)[i] from ag z];simp only[BA];rw[show Q28.f K (n.2.2.2.2.2.2.2.2.2.1,f,())=_ from H];simp only[BA];rw[I];cases (aa.table n)[i].2.1==f.2.1 with
   |true =>
    cases (aa.table n)[i].2.2.1==f.2.2.1 <;> rfl
   |false=>rfl
  |no u =>
   simp only;rw[sK u,decide_eq_false (by omega:¬ (-1:Int)>=0)];simp only[cond_false];rw[show Q28.f K (n.2.2.2.2.2.2.2.2.2.1,f,())=_ from H];simp only[BA];rw[I];rfl
theorem l6 {α:Type}{k:α->Int}{xs:List α}(h:Asc k xs)(p:α->Bool):Asc k (xs.filter p):=CY p h
theorem zU {R:Type}(K:Nat)(r:Int)(ds:List bN)(f:af)(b:Int)(G:List bN->Option R)(X:ds.length<=1048576)(Y:Asc (λd:bN=>d.1) ds)(h7:∀ d∈ds,InP d.1 0 7)(hf:bf f)(hK:1048577<K) :
  ((Q5.f K (ds,(λH=>(Q174.f K (H.1,f,())).map λy=>y.1.1),())).bind λI=>bif f.2.2.1==2 then ((Q175.f K (I.1.1,f.1,(λO=>(Q176.f K (O.1,O.2.1,())).map λy=>y.1.1),())).bind λy7=>(Q6.f K (I.1.1,y7.1.1,[mkD r f b],())).bind λy8=>G y8.1.1) else G I.1.1)=G (cP r ds f b):=by
 rw[show Q5.f K (ds,(λH=>(Q174.f K (H.1,f,())).map λy=>y.1.1),())=some ((ds.filter (λd=>!(d.1==f.1)),()),()) by
  simp only[Q5.f];exact qY _ X (λd _=>rfl)]
 simp only[BA,cP];by_cases z:f.2.2.1=2
 ·rw[if_pos z,show (f.2.2.1==2)=true by simpa using z];simp only[cond_true];have u:(ds.filter (λd=>!(d.1==f.1))).length<=1048576:=B6 (CL _ _) X;obtain⟨m,M,lo,hi,b',e⟩:=zT K (ds.filter (λd=>!(d.1==f.1))) f.1 u (l6 Y _) (λd Z=>h7 d (BH.1 Z).1) hf.1 hK;rw[e];simp only[BA];rw[show Q6.f K (ds.filter (λd=>!(d.1==f.1)),(m:Int),[mkD r f b],())=some (((ds.filter (λd=>!(d.1==f.1))).take m++[mkD r f b]++(ds.filter (λd=>!(d.1==f.1))).drop m,()),()) by
   simp only[Q6.f];exact jv M (by omega) u]
  simp only[BA];have:=gv (k:=λd:bN=>d.1) (x:=mkD r f b) M lo (λi h J=>by
   have h1:=hi i h J;have h3:(!((ds.filter (λd=>!(d.1==f.1)))[i].1==f.1))=true:=(BH.1 (BC h)).2;have h4:(ds.filter (λd=>!(d.1==f.1)))[i].1≠f.1:=by simpa using h3
   show f.1<_;omega)
  rw[this];exact congrArg G (ub (k:=λd:bN=>d.1) (x:=mkD r f b))
 ·rw[if_neg z,show (f.2.2.1==2)=false by simpa using z];rfl
theorem zw (K:Nat)(n:aa)(f:af)(b:Int)(h:cq n)(y:bf f)(u:1048577<K):Q177.f K (n,f,b,())=some ((),(sayOf n f b,())):=by
 simp only[Q177.f,zcp8];have O:∃ g:af,∃ I,Q139.f K (aa.table n,f.1,())=some ((g,I,()),())/\jS n f=(g.2.2.1==f.2.2.1&&g.2.1==f.2.1):=by
  rcases iz K (aa.table n) f.1 h.lt u with ⟨r,_⟩|⟨_,⟨g,M,e,r⟩|⟨J,r⟩⟩
  ·exact absurd h.table r
  ·exact⟨g,_,r,by rw[sJ h.table.2 M e,Bool.and_comm]⟩
  ·refine⟨_,_,r,?_⟩;rw[sK J,show ((0:Int)==f.2.2.1)=false by have:=y.2.2.1;simp;omega];rfl
 obtain⟨g,I,r,X⟩:=O;rw[show Q139.f K (n.2.2.2.2.2.2.2.2.1,f.1,())=_ from r];simp only[BA];rw[show Q170.f K (n.2.2.2.2.2.2.2.2.1,f,())=_ from vB K (aa.table n) f h.lt h.table.2 u];simp only[BA];cases H:(bO (aa.table n) f).2 with
 |false =>
  simp only[sayOf,H];rfl
 |true =>
  simp only[sayOf,H,BI,cond_false,cond_true];rw[show Q172.f K (n.2.2.2.2.2.2.2.2.2.1,f,())=_ from wX K (aa.cast n) f h.lc h.cast y u];simp only[BA];have z:=zU K n.2.2.2.2.2.1 (aa.doubts n) f b (λR=>some ((),(fV n (bO (aa.table n) f).1 (cC (aa.cast n) f) R,()))) h.ld h.asc h.inp y u;rw[X];cases g.2.2.1==f.2.2.1 with
  |true =>
   cases g.2.1==f.2.1 with
   |true=>rfl
   |false=>exact z
  |false=>exact z
theorem iN {α:Type}{k:α->Int}{xs:List α}(h:Asc k xs)(r:∀ x∈xs,InP (k x) 0 7):xs.length<=8:=by
 have:=(i9 (xs.map k) [0,1,2,3,4,5,6,7] (by unfold Asc at h;rw[B7];exact h) (by decide) (λy u=>by
  obtain⟨x,z,rfl⟩:=BZ.1 u;obtain⟨I,H⟩:=r x z;simp only[CI,Cn,or_false];omega)).1
 rw[BU]at this;exact this
theorem gU (t:List af)(f:af):(bO t f).1=t\/(bO t f).1=bq (λg=>g.1) f t:=by
 unfold bO;split
 ·split
  ·exact .inr rfl
  ·exact .inl rfl
 ·exact .inr rfl
theorem kh {t:List af}{f:af}(h:az t)(r:bf f):az (bO t f).1:=by
 rcases gU t f with e|e
 ·rw[e];exact h
 ·rw[e];refine⟨λg u=>?_,e9 h.2⟩;rcases aV.1 u with rfl|⟨y,_⟩
  ·exact r
  ·exact h.1 g y
theorem pI {l:List aF}{f:af}(h:cO l)(r:bf f):cO (cC l f):=by
 unfold cC;split
 ·exact h
 ·refine⟨λx u=>?_,e9 h.2⟩;rcases aV.1 u with rfl|⟨y,_⟩
  ·exact⟨r,show (1:Int)<=4 by omega,show (4:Int)<=4 by omega⟩
  ·exact h.1 x y
theorem ki {r:Int}{ds:List bN}{f:af}{b:Int}{d:bN}(h:d∈cP r ds f b):d=mkD r f b\/d∈ds:=by
 unfold cP at h;split at h
 ·rcases aV.1 h with h|h
  ·exact .inl h
  ·exact .inr h.1
 ·exact .inr (BH.1 h).1
theorem sL {r:Int}{ds:List bN}{f:af}{b:Int}(h:Asc (λd:bN=>d.1) ds):Asc (λd:bN=>d.1) (cP r ds f b):=by
 unfold cP;split
 ·exact e9 h
 ·exact l6 h _
theorem iD (n:aa)(f:af)(b:Int):∃ t c r,sayOf n f b=fV n t c r/\(t=aa.table n\/t=(bO (aa.table n) f).1)/\(c=aa.cast n\/c=cC (aa.cast n) f)/\(r=aa.doubts n\/r=cP n.2.2.2.2.2.1 (aa.doubts n) f b):=by
 unfold sayOf;cases (bO (aa.table n) f).2 with
 |false=>exact⟨aa.table n,aa.cast n,aa.doubts n,rfl,.inl rfl,.inl rfl,.inl rfl⟩
 |true =>
  cases jS n f with
  |true=>exact⟨_,_,_,rfl,.inr rfl,.inr rfl,.inl rfl⟩
  |false=>exact⟨_,_,_,rfl,.inr rfl,.inr rfl,.inr rfl⟩
theorem cq.mk' {n:aa}(u:az (aa.table n))(r:cO (aa.cast n))(z:Asc (λd:bN=>d.1) (aa.doubts n))(y:∀ d∈aa.doubts n,InP d.1 0 7):cq n where
 table:=u
 cast:=r
 asc:=z
 inp:=y
 lt:=B6 (iN u.2 (λg I=>(u.1 g I).1)) (by decide)
 lc:=B6 (iN r.2 (λx H=>(r.1 x H).1.1)) (by decide)
 ld:=B6 (iN z y) (by decide)
theorem ij {n:aa}{f:af}{b:Int}(h:cq n)(r:bf f):cq (sayOf n f b):=by
 obtain⟨t,c,z,e,I,H,y⟩:=iD n f b;rw[e];refine cq.mk' ?_ ?_ ?_ ?_
 ·show az t;rcases I with rfl|rfl
  ·exact h.table
  ·exact kh h.table r
 ·show cO c;rcases H with rfl|rfl
  ·exact h.cast
  ·exact pI h.cast r
 ·show Asc _ z;rcases y with rfl|rfl
  ·exact h.asc
  ·exact sL h.asc
 ·show ∀ d∈z,InP d.1 0 7;rcases y with rfl|rfl
  ·exact h.inp
  ·intro d u;rcases ki u with rfl|u
   ·exact r.1
   ·exact h.inp d u
theorem yu {n:aa}{f:af}{b:Int}(h:∀ d∈aa.doubts n,d.2.2.2.length<=1048576):∀ d∈aa.doubts (sayOf n f b),d.2.2.2.length<=1048576:=by
 obtain⟨t,c,y,e,_,_,u⟩:=iD n f b;rw[e];show ∀ d∈y,_;rcases u with rfl|rfl
 ·exact h
 ·intro d r;rcases ki r with rfl|r
  ·exact Nat.succ_le_of_lt (by decide)
  ·exact h d r
theorem UpP.say {n:aa}(h:UpP n):cq n:=by
 obtain⟨u,_,_,⟨z,_⟩,_,r,_⟩:=h;refine cq.mk' u z r.2.1 λd H=>?_
 obtain⟨f,y,e,_⟩:=(r.1 d H).1;rw[<- e];exact (u.1 f y).1
theorem qs {α β A R:Type}(t:List α)(p:α->Bool)(g:α->β)(S:List β->Nat->A)(u:List β->Option R){step:(A->Option R)->A->Option R}
  (h:∀ (rec:A->Option R) (r:List β) (i:Nat) (M:i<t.length),r.length<=i->step rec (S r i)=rec (S (bif p t[i] then r++[g t[i]] else r) (i+1)))
  (z:∀ (rec:A->Option R) (r:List β),r.length<=t.length->step rec (S r t.length)=u r) {k:Nat} (I:t.length<k) :
  ae step k (S [] 0)=u ((t.filter p).map g):=by
 have:∀ (d i k:Nat) (r:List β),i+d=t.length->d<k->r.length<=i->ae step k (S r i)=u (r++((t.drop i).filter p).map g):=by
  intro d;induction d with
  |zero =>
   intro i k r M I H;obtain⟨k,rfl⟩:∃ J,k=J+1:=⟨k-1,by omega⟩;have:i=t.length:=by omega
   subst this;show step (ae step k) _=_;rw[z _ _ H];simp
  |succ d O =>
   intro i k r M I H;obtain⟨k,rfl⟩:∃ J,k=J+1:=⟨k-1,by omega⟩;have y:i<t.length:=by omega
   show step (ae step k) _=_;rw[h _ _ _ y H,BL y,BV];cases p t[i] with
   |true =>
    simp only[cond_true,if_true,Cu];rw[O (i+1) k _ (by omega) (by omega) (by simp;omega),CH];rfl
   |false =>
    simp only[cond_false];rw[O (i+1) k _ (by omega) (by omega) (by omega)];rfl
 have:=this t.length 0 k [] (by omega) I (BR _)
 rwa [B3,BO]at this
def sM:aa:=(0,false,false,false,0,0,0,0,[],[],(0,0,0,false),[],(0,0,0,0),[],[])
theorem uc:NB sM where
 table:=BX _
 cast:=BX _
 doubts:=BX _
 by_:=λd r=>absurd r Cn
 places:=BX _
 trips:=λd r=>absurd r Cn
 others:=BX _
 facts:=λd r=>absurd r Cn
theorem szw (a b c:Nat)(r:c<=128)(h:a+b<=2097152):decide ((a+b)*c<=an)=true:=by
 have:=Cg h r;exact decide_eq_true (by unfold an;omega)
def kA (n:aa):aa:=(n.1,n.2.1,true,n.2.2.2)
def nO (r:Int)(n:aa)(to:Int):aj:=(1,r,n.1,to,0,n.1,aa.coord n,aa.table n)
theorem zV (K:Nat)(n:aa)(r to:Int)(u:(aa.table n).length<=1048576):Q207.f K (n,r,to,())=some ((nO r n to,()),()):=by
 simp only[Q207.f,zcp4,Q186.f,BA,Q1.f];rw[dX (by show (aa.table n).length*_<=_;omega)];rfl
theorem nP (K:Nat)(n:aa)(r to:Int)(u:(aa.table n).length<=1048576):Q39.f K (n,r,to,0,n.1,aa.table n,())=some ((nO r n to,()),()):=by
 simp only[Q39.f];rw[szb _ _ _ (by omega) (by show (BB ([]:List af))+(aa.table n).length<=_;simp;omega)];rfl
def ez (f:af):Bool:=f.2.2.1==1||f.2.2.1==2
theorem uK (K:Nat)(t:List af)(f:af)(J:az t)(I:t.length<=1048576)(u:f∈t)(y:1048577<K):Q92.f K (t,f.1,())=rb (ez f):=by
 simp only[Q92.f];obtain⟨o,H,z⟩:=fk K t f.1 I y;rw[z];simp only[BA];cases H with
 |at_ i r e =>
  simp only;rw[decide_eq_true (by omega:((i:Nat):Int)>=0),ag r];simp only[cond_true,BA];rw[gR J.2 (BC r) u e,ez];cases f.2.2.1==1 <;> rfl
 |no h=>exact absurd rfl (h f u)
def sN (n:aa)(f:af):Bool:=f.1 != n.1&&ez f
def ly (n:aa):List aj:=((aa.table n).filter (sN n)).map λf=>nO 5 n f.1
def mP (n:aa):aa:=kA (sayOf n (n.1,n.2.2.2.2.1,4,n.2.2.2.1) n.1)
theorem sO (K:Nat)(x:ab Q105.ps)(m:aa)(J:az (aa.table m))(y:(aa.table m).length<=1048576)(z:1048577<K) :
  Q105.l0 K x ([],0,m.1,m.2.1,m.2.2.2.1,m.2.2.2.2.1,m.2.2.2.2.2.1,m.2.2.2.2.2.2.1,m.2.2.2.2.2.2.2.1,m.2.2.2.2.2.2.2.2.1,m.2.2.2.2.2.2.2.2.2.1,m.2.2.2.2.2.2.2.2.2.2.1.1,m.2.2.2.2.2.2.2.2.2.2.1.2.1,m.2.2.2.2.2.2.2.2.2.2.1.2.2.1,m.2.2.2.2.2.2.2.2.2.2.1.2.2.2,m.2.2.2.2.2.2.2.2.2.2.2.1,m.2.2.2.2.2.2.2.2.2.2.2.2.1.1,m.2.2.2.2.2.2.2.2.2.2.2.2.1.2.1,m.2.2.2.2.2.2.2.2.2.2.2.2.1.2.2.1,m.2.2.2.2.2.2.2.2.2.2.2.2.1.2.2.2,m.2.2.2.2.2.2.2.2.2.2.2.2.2.1,m.2.2.2.2.2.2.2.2.2.2.2.2.2.2)=some ((kA m,ly (kA m),()),()):=by
 refine qs (step:=λrec a=>Q105.s0 K x rec a) (aa.table m) (sN (kA m)) (λf=>nO 5 (kA m) f.1) (λr i=>(r,(i:Int),m.1,m.2.1,m.2.2.2.1,m.2.2.2.2.1,m.2.2.2.2.2.1,m.2.2.2.2.2.2.1,m.2.2.2.2.2.2.2.1,m.2.2.2.2.2.2.2.2.1,m.2.2.2.2.2.2.2.2.2.1,m.2.2.2.2.2.2.2.2.2.2.1.1,m.2.2.2.2.2.2.2.2.2.2.1.2.1,m.2.2.2.2.2.2.2.2.2.2.1.2.2.1,m.2.2.2.2.2.2.2.2.2.2.1.2.2.2,m.2.2.2.2.2.2.2.2.2.2.2.1,m.2.2.2.2.2.2.2.2.2.2.2.2.1.1,m.2.2.2.2.2.2.2.2.2.2.2.2.1.2.1,m.2.2.2.2.2.2.2.2.2.2.2.2.1.2.2.1,m.2.2.2.2.2.2.2.2.2.2.2.2.1.2.2.2,m.2.2.2.2.2.2.2.2.2.2.2.2.2.1,m.2.2.2.2.2.2.2.2.2.2.2.2.2.2)) (λH=>some ((kA m,H,()),())) ?_ ?_ (by omega)
 ·intro rec r i u I;simp only[Q105.s0,zceae5f];rw[show decide ((i:Int)<(BB m.2.2.2.2.2.2.2.2.1:Int))=true from bh (by omega:(i:Int)<(BB (aa.table m):Int)),show idx m.2.2.2.2.2.2.2.2.1 (i:Int)=some (aa.table m)[i] from ag u,ar i (by omega)];simp only[cond_true,BA,sN];rw[show (kA m).1=m.1 from rfl];cases M:(aa.table m)[i].1 != m.1 with
  |false=>rfl
  |true =>
   simp only[cond_true,CF];rw[show Q92.f K (m.2.2.2.2.2.2.2.2.1,(aa.table m)[i].1,())=_ from uK K (aa.table m) _ J y (BC u) z];simp only[BA];cases ez (aa.table m)[i] with
   |false=>rfl
   |true =>
    simp only[cond_true];refine (congrArg (λo=>BS o _) (nP K (kA m) 5 (aa.table m)[i].1 y)).trans ?_;simp only[BA];rw[szw _ _ _ (by omega) (by simp;omega)];rfl
 ·intro rec r I;simp only[Q105.s0,zceae5f];rw[show decide ((BB (aa.table m):Int)<(BB m.2.2.2.2.2.2.2.2.1:Int))=false from aP _];rfl
theorem vC {n:aa}(r:eV n):bf (n.1,n.2.2.2.2.1,4,n.2.2.2.1):=⟨r.1,r.2.2.2.2.1,show (1:Int)<=4 by omega,show (4:Int)<=4 by omega⟩
theorem zW (K:Nat)(n:aa)(J:NB n)(u:eV n)(z:n.2.1=true)(I:n.2.2.1=false)(r:1048577<K):Q105.f K (n,())=some ((mP n,ly (mP n),()),()):=by
 have y:=(u.up z).say;have H:=ij (b:=n.1) y (vC u);simp only[Q105.f,Q105.pre];rw[z,I];simp only[BI,cond_false];rw[pH K n _ n.1 y r];exact sO K _ _ H.table H.lt r
theorem kD {α r A R:Type}(ds:List α)(st:r->α->r)(Inv:r->Prop)(S:r->Nat->A)(u:r->Option R){step:(A->Option R)->A->Option R}(n:r)(O:Inv n)
  (h:∀ (rec:A->Option R) (m:r) (i:Nat) (M:i<ds.length),Inv m->step rec (S m i)=rec (S (st m ds[i]) (i+1))/\Inv (st m ds[i]))
  (z:∀ (rec:A->Option R) (m:r),Inv m->step rec (S m ds.length)=u m) {k:Nat} (I:ds.length<k):ae step k (S n 0)=u (ds.foldl st n):=by
 have:∀ (d i k:Nat) (m:r),i+d=ds.length->d<k->Inv m->ae step k (S m i)=u ((ds.drop i).foldl st m):=by
  intro d;induction d with
  |zero =>
   intro i k m M I H;obtain⟨k,rfl⟩:∃ J,k=J+1:=⟨k-1,by omega⟩;have:i=ds.length:=by omega
   subst this;show step (ae step k) _=_;rw[z _ _ H,Cm];rfl
  |succ d Y =>
   intro i k m M I H;obtain⟨k,rfl⟩:∃ J,k=J+1:=⟨k-1,by omega⟩;have y:i<ds.length:=by omega
   show step (ae step k) _=_;obtain⟨X,Z⟩:=h (ae step k) m i y H;rw[X,BL y];exact Y (i+1) k _ (by omega) (by omega) Z
 have:=this ds.length 0 k n (by omega) I O
 rwa [B3]at this
theorem l7 {α r:Type}{st:r->α->r}{Inv:r->Prop}:∀ {ds:List α} {n:r},Inv n->(∀ m,∀ d∈ds,Inv m->Inv (st m d))->Inv (ds.foldl st n)
 |[],_,h,_=>h
 |d::ds,n,h,y=>l7 (ds:=ds) (y n d (by simp) h) (λm z u=>y m z (by simp[u]))
def aQ (t:List af)(r:Int):af:=(t.find? λg=>g.1==r).getD (0,0,0,false)
theorem jx {t:List af}(r:Asc (λg:af=>g.1) t){f:af}(y:f∈t):aQ t f.1=f:=by
 obtain⟨i,u,e⟩:=BJ y;unfold aQ;rw[show t.find? (λg=>g.1==f.1)=some t[i] from oV r u (by rw[e]),e];rfl
theorem jy {t:List af}{r:Int}(h:∀ g∈t,g.1≠r):aQ t r=(0,0,0,false):=by
 unfold aQ;rw[show t.find? (λg=>g.1==r)=none from nN h];rfl
theorem kj (K:Nat)(t:List af)(r:Int)(y:az t)(J:t.length<=1048576)(H:1048577<K):∃ b,Q139.f K (t,r,())=some ((aQ t r,b,()),()):=by
 rcases iz K t r J H with ⟨u,_⟩|⟨_,⟨g,I,e,u⟩|⟨z,u⟩⟩
 ·exact absurd y u
 ·refine⟨true,?_⟩;rw[u,<- e,jx y.2 I]
 ·refine⟨false,?_⟩;rw[u,jy z]
theorem sP (K:Nat)(t:List af)(r:Int)(H:az t)(I:t.length<=1048576)(z:1048577<K):Q92.f K (t,r,())=rb (ez (aQ t r)):=by
 by_cases h:∃ f∈t,f.1=r
 ·obtain⟨f,y,rfl⟩:=h;rw[uK K t f H I y z,jx H.2 y]
 ·have u:∀ g∈t,g.1≠r:=λg R e=>h ⟨g,R,e⟩
  simp only[Q92.f];obtain⟨o,J,M⟩:=fk K t r I z;rw[M,jy u];cases J with
  |at_ i O e=>exact absurd e (u _ (BC O))
  |no _=>rfl
theorem iO (n:aa)(f:af)(b:Int):(sayOf n f b).1=n.1/\(sayOf n f b).2.1=n.2.1/\(sayOf n f b).2.2.1=n.2.2.1/\(sayOf n f b).2.2.2.1=n.2.2.2.1/\(sayOf n f b).2.2.2.2.1=n.2.2.2.2.1/\(sayOf n f b).2.2.2.2.2.1=n.2.2.2.2.2.1/\(sayOf n f b).2.2.2.2.2.2.1=n.2.2.2.2.2.2.1/\(sayOf n f b).2.2.2.2.2.2.2.1=n.2.2.2.2.2.2.2.1/\aa.probe (sayOf n f b)=aa.probe n/\(sayOf n f b).2.2.2.2.2.2.2.2.2.2.2.2=n.2.2.2.2.2.2.2.2.2.2.2.2:=by
 obtain⟨t,c,r,e,_⟩:=iD n f b;rw[e];exact⟨rfl,rfl,rfl,rfl,rfl,rfl,rfl,rfl,rfl,rfl⟩
theorem mQ {t:List af}{f g:af}(r:g∈t):∃ u∈(bO t f).1,u.1=g.1:=by
 rcases gU t f with e|e
 ·rw[e];exact⟨g,r,rfl⟩
 ·rw[e];by_cases h:g.1=f.1
  ·exact⟨f,aV.2 (.inl rfl),h.symm⟩
  ·exact⟨g,aV.2 (.inr ⟨r,h⟩),rfl⟩
theorem jz {n:aa}{f:af}{b:Int}{g:af}(r:g∈aa.table n):∃ u∈aa.table (sayOf n f b),u.1=g.1:=by
 obtain⟨t,c,z,e,y,_⟩:=iD n f b;rw[e];rcases y with rfl|rfl
 ·exact⟨g,r,rfl⟩
 ·exact mQ r
def qt (u r:Int)(len:Nat):Bool:=decide (u-r>=if 6-(len:Int)+1<3 then 3 else 6-(len:Int)+1)
def kE (f:af):af:=(f.1,f.2.1,3,f.2.2.2)
def ik (n:aa)(d:bN):aa:=bif qt n.2.2.2.2.2.1 d.2.2.1 d.2.2.2.length then sayOf n (kE (aQ (aa.table n) d.1)) n.1 else n
def kk (n:aa):aa:=(aa.doubts n).foldl ik n
theorem due_s (K:Nat)(r:Int)(d:bN)(u:0<=d.2.2.1)(H:d.2.2.1<=r)(y:r<=1000000)(z:d.2.2.2.length<=1048576):Q89.f K (r,d,())=rb (qt r d.2.2.1 d.2.2.2.length):=by
 simp only[Q89.f];rw[aJ (n:=6-(BB d.2.2.2:Int)) (by omega) (by omega),aJ (n:=6-(BB d.2.2.2:Int)+1) (by omega) (by omega),aJ (n:=r-d.2.2.1) (by omega) (by omega)];unfold qt;by_cases h:6-(BB d.2.2.2:Int)+1<3
 ·rw[decide_eq_true h,if_pos h];rfl
 ·rw[decide_eq_false h,if_neg h];rfl
structure pJ (ds:List bN) (now:Int) (n:aa):Prop where
 ok:cq n
 key:∀ d∈ds,∃ f∈aa.table n,f.1=d.1
 now_:n.2.2.2.2.2.1=now
theorem uL {f:af}(h:bf f):bf (kE f):=⟨h.1,h.2.1,show (1:Int)<=3 by omega,show (3:Int)<=4 by omega⟩
theorem ei {t:List af}{r:Int}(y:az t)(h:∃ f∈t,f.1=r):bf (aQ t r)/\(aQ t r).1=r/\aQ t r∈t:=by
 obtain⟨f,u,rfl⟩:=h;rw[jx y.2 u];exact⟨y.1 f u,rfl,u⟩
theorem ud {ds:List bN}{r:Int}{n:aa}{d:bN}(h:pJ ds r n)(O:d∈ds):pJ ds r (ik n d):=by
 unfold ik;cases qt n.2.2.2.2.2.1 d.2.2.1 d.2.2.2.length with
 |false=>exact h
 |true =>
  have J:=uL (ei h.ok.table (h.key d O)).1;refine⟨ij h.ok J,λI y=>?_,(iO n _ _).2.2.2.2.2.1.trans h.now_⟩;obtain⟨g,M,e⟩:=h.key I y;obtain⟨z,u,H⟩:=jz (f:=kE (aQ (aa.table n) d.1)) (b:=n.1) M;exact⟨z,u,H.trans e⟩
theorem AN (K:Nat)(n:aa)(h:pJ (aa.doubts n) n.2.2.2.2.2.1 n)(Y:∀ d∈aa.doubts n,0<=d.2.2.1/\d.2.2.1<=n.2.2.2.2.2.1/\d.2.2.2.length<=1048576)(z:n.2.2.2.2.2.1<=1000000)(M:1048577<K):Q91.f K (n,())=some ((kk n,()),()):=by
 have hl:=h.ok.ld;refine kD (step:=λrec a=>Q91.s0 K (n,()) rec a) (aa.doubts n) ik (pJ (aa.doubts n) n.2.2.2.2.2.1) (λm i=>((i:Int),m.1,m.2.1,m.2.2.1,m.2.2.2.1,m.2.2.2.2.1,m.2.2.2.2.2.1,m.2.2.2.2.2.2.1,m.2.2.2.2.2.2.2.1,m.2.2.2.2.2.2.2.2.1,m.2.2.2.2.2.2.2.2.2.1,m.2.2.2.2.2.2.2.2.2.2.1.1,m.2.2.2.2.2.2.2.2.2.2.1.2.1,m.2.2.2.2.2.2.2.2.2.2.1.2.2.1,m.2.2.2.2.2.2.2.2.2.2.1.2.2.2,m.2.2.2.2.2.2.2.2.2.2.2.1,m.2.2.2.2.2.2.2.2.2.2.2.2.1.1,m.2.2.2.2.2.2.2.2.2.2.2.2.1.2.1,m.2.2.2.2.2.2.2.2.2.2.2.2.1.2.2.1,m.2.2.2.2.2.2.2.2.2.2.2.2.1.2.2.2,m.2.2.2.2.2.2.2.2.2.2.2.2.2.1,m.2.2.2.2.2.2.2.2.2.2.2.2.2.2)) (λm=>some ((m,()),())) n h ?_ ?_ (by omega)
 ·intro rec m i H u;refine⟨?_,ud u (BC H)⟩;simp only[Q91.s0,zc286a0,zc3ec45];obtain⟨I,J,O⟩:=Y _ (BC H);rw[show decide ((i:Int)<(BB n.2.2.2.2.2.2.2.2.2.2.2.1:Int))=true from bh (by omega:(i:Int)<(BB (aa.doubts n):Int)),show idx n.2.2.2.2.2.2.2.2.2.2.2.1 (i:Int)=some (aa.doubts n)[i] from ag H,ar i (by omega)];simp only[cond_true,BA];rw[due_s K m.2.2.2.2.2.1 (aa.doubts n)[i] I (by rw[u.now_];exact J) (by rw[u.now_];exact z) O];simp only[BA];have r:=u.key _ (BC H);generalize (aa.doubts n)[i]=d at r I J O ⊢;unfold ik;cases qt m.2.2.2.2.2.1 d.2.2.1 d.2.2.2.length with
  |false=>rfl
  |true =>
   simp only[cond_true];have y:=ei u.ok.table r;obtain⟨o,X,Z⟩:=fk K (aa.table m) d.1 u.ok.lt M;rw[show Q25.f K (m.2.2.2.2.2.2.2.2.1,d.1,())=_ from Z];simp only[BA];cases X with
   |no h=>exact absurd r (λ⟨f,hf,e⟩=>h f hf e)
   |at_ j R e =>
    simp only;rw[show idx m.2.2.2.2.2.2.2.2.1 ((j:Nat):Int)=some (aa.table m)[j] from ag R,gR u.ok.table.2 (BC R) y.2.2 (by rw[e,y.2.1])];simp only[BA];refine (congrArg (λo=>BS o _) (pH K m (kE (aQ (aa.table m) d.1)) m.1 u.ok M)).trans ?_;rfl
 ·intro rec m u;simp only[Q91.s0,zc286a0,zc3ec45];rw[show decide ((BB (aa.doubts n):Int)<(BB n.2.2.2.2.2.2.2.2.2.2.2.1:Int))=false from aP _];rfl
def setP (n:aa)(p:af):aa:=(n.1,n.2.1,n.2.2.1,n.2.2.2.1,n.2.2.2.2.1,n.2.2.2.2.2.1,n.2.2.2.2.2.2.1,n.2.2.2.2.2.2.2.1,n.2.2.2.2.2.2.2.2.1,n.2.2.2.2.2.2.2.2.2.1,p,n.2.2.2.2.2.2.2.2.2.2.2)
def noP:af:=(-1,0,0,false)
def pK (f:af):af:=(f.1,f.2.1,2,f.2.2.2)
def vD (n:aa)(f:af):Bool:=f.2.2.1==1&&f.1 != n.1&&f.1 != (aa.probe n).1
def fy (n:aa):List Int:=(((aa.table n).filter (vD n)).map (·.1)).take 2
def askW (n:aa)(to:Int):aj:=(1,3,n.1,to,(aa.probe n).2.2.1,(aa.probe n).1,aa.coord n,[])
def lz (n:aa):aa:=setP n ((aa.probe n).1,(aa.probe n).2.1,(aa.probe n).2.2.1,true)
def dl (n:aa):aa×List aj :=
 bif (aa.probe n).1==-1 then (n,[]) else
 bif !ez (aQ (aa.table n) (aa.probe n).1) then (setP n noP,[]) else
 bif decide (n.2.2.2.2.2.1-(aa.probe n).2.1>=4) then (bif (aQ (aa.table n) (aa.probe n).1).2.2.1==1 then sayOf (setP n noP) (pK (aQ (aa.table n) (aa.probe n).1)) n.1 else setP n noP,[]) else
 bif decide (n.2.2.2.2.2.1-(aa.probe n).2.1>=2) then (bif !(aa.probe n).2.2.2 then (lz n,(fy n).map (askW n)) else (n,[])) else (n,[])
theorem cq.setP {n:aa}(h:cq n)(p:af):cq (setP n p):=⟨h.table,h.cast,h.asc,h.inp,h.lt,h.lc,h.ld⟩
theorem zX {f:af}(h:bf f):bf (pK f):=⟨h.1,h.2.1,show (1:Int)<=2 by omega,show (2:Int)<=4 by omega⟩
theorem gV {t:List af}{r:Int}(h:ez (aQ t r)=true):∃ f∈t,f.1=r:=by
 by_cases u:∃ f∈t,f.1=r
 ·exact u
 ·rw[jy (λg y e=>u ⟨g,y,e⟩)]at h;simp[ez]at h
theorem wY (K:Nat)(n:aa)(J:(aa.table n).length<=1048576)(I:1048577<K):Q93.f K (n,())=some ((fy n,()),()):=by
 have:=kS (step:=λrec a=>Q93.s0 K (n,()) rec a) (aa.table n) (vD n) (λf=>f.1) 2 (λz=>some ((z,()),())) ?_ ?_ ?_ (aa.table n).length 0 K [] (by omega) (by omega) (BR _) (by simp)
 ·exact this
 ·intro rec r i u H y;simp only[Q93.s0];rw[show decide ((i:Int)<(BB n.2.2.2.2.2.2.2.2.1:Int))=true from bh (by omega:(i:Int)<(BB (aa.table n):Int)),show idx n.2.2.2.2.2.2.2.2.1 (i:Int)=some (aa.table n)[i] from ag u,ar i (by omega),decide_eq_true (by omega:(BB r:Int)<2)];simp only[cond_true,BA,vD];show (bif (aa.table n)[i].1 != n.1 then (bif (aa.table n)[i].1 != (aa.probe n).1 then (bif (aa.table n)[i].2.2.1==1 then (bif decide ((BB r+BB ([(aa.table n)[i].1]))*8<=an) then (rec (r++([(aa.table n)[i].1]),((i+1:Nat):Int))) else none) else (rec (r,((i+1:Nat):Int)))) else (rec (r,((i+1:Nat):Int)))) else (rec (r,((i+1:Nat):Int))))=_;rw[szb _ _ _ (by omega) (by simp;omega)];cases (aa.table n)[i].1 != n.1 <;> cases (aa.table n)[i].1 != (aa.probe n).1 <;> cases (aa.table n)[i].2.2.1==1 <;> rfl
 ·intro rec r i u H y;simp only[Q93.s0];rw[show decide ((i:Int)<(BB n.2.2.2.2.2.2.2.2.1:Int))=true from bh (by omega:(i:Int)<(BB (aa.table n):Int)),decide_eq_false (by omega:¬ (BB r:Int)<2)];rfl
 ·intro rec r _;simp only[Q93.s0];rw[show decide ((BB (aa.table n):Int)<(BB n.2.2.2.2.2.2.2.2.1:Int))=false from aP _];rfl
theorem AO (K:Nat)(n:aa)(h:cq n)(Y:(aa.probe n).1≠-1)(h0:0<=(aa.probe n).2.1)(h1:(aa.probe n).2.1<=1000000)(a0:0<=n.2.2.2.2.2.1)(Z:n.2.2.2.2.2.1<=1000000)(y:1048577<K) :
  Q94.f K (n,())=some (((dl n).1,(dl n).2,()),()):=by
 simp only[Q94.f,Q94.pre,zcp8,dl];rw[show ((aa.probe n).1==-1)=false by simpa using Y];simp only[cond_false];rw[show Q92.f K (n.2.2.2.2.2.2.2.2.1,n.2.2.2.2.2.2.2.2.2.2.1.1,())=_ from sP K (aa.table n) (aa.probe n).1 h.table h.lt y];simp only[BA];cases M:ez (aQ (aa.table n) (aa.probe n).1) with
 |false=>rfl
 |true =>
  have u:=ei h.table (gV M);simp only[BI,cond_false];rw[aJ (n:=n.2.2.2.2.2.1-n.2.2.2.2.2.2.2.2.2.2.1.2.1) (by show -9223372036854775808<=n.2.2.2.2.2.1-(aa.probe n).2.1;omega) (by show n.2.2.2.2.2.1-(aa.probe n).2.1<=9223372036854775807;omega)];show (bif decide (n.2.2.2.2.2.1-(aa.probe n).2.1>=4) then _ else _)=_;cases decide (n.2.2.2.2.2.1-(aa.probe n).2.1>=4) with
  |true =>
   simp only[cond_true];obtain⟨o,R,e1⟩:=fk K (aa.table n) (aa.probe n).1 h.lt y;rw[show Q25.f K (n.2.2.2.2.2.2.2.2.1,n.2.2.2.2.2.2.2.2.2.2.1.1,())=_ from e1];simp only[BA];cases R with
   |no z=>exact absurd (gV M) (λ⟨f,u,e⟩=>z f u e)
   |at_ j O e =>
    simp only;rw[show idx n.2.2.2.2.2.2.2.2.1 ((j:Nat):Int)=some (aa.table n)[j] from ag O,gR h.table.2 (BC O) u.2.2 (by rw[e,u.2.1])];simp only[BA];cases (aQ (aa.table n) (aa.probe n).1).2.2.1==1 with
    |true =>
     simp only[cond_true];refine (congrArg (λo=>BS o _) (pH K (setP n noP) (pK (aQ (aa.table n) (aa.probe n).1)) n.1 (h.setP noP) y)).trans ?_;rfl
    |false=>rfl
  |false =>
   simp only[cond_false];show (bif decide (n.2.2.2.2.2.1-(aa.probe n).2.1>=2) then _ else _)=_;cases decide (n.2.2.2.2.2.1-(aa.probe n).2.1>=2) with
   |false=>rfl
   |true =>
    simp only[cond_true];show (bif !(aa.probe n).2.2.2 then _ else _)=_;cases H:(aa.probe n).2.2.2 with
    |true=>rfl
    |false =>
     simp only[B4,cond_true];refine (congrArg (λo=>BS o _) (wY K (lz n) h.lt y)).trans ?_;simp only[BA];rw[show fy (lz n)=fy n from rfl];have I:(fy n).length<=2:=Cd _ _;refine Cw (qs (step:=λrec a=>Q94.s0 K (n,()) rec a) (fy n) (λ_=>true) (askW n) (λr i=>(r,fy n,(i:Int))) (λws=>some ((lz n,ws,()),())) ?_ ?_ (by omega)) (by rw[BT.2 (λ_ _=>rfl)])
     ·intro rec r i J X;simp only[Q94.s0,zcp8];rw[bh (by omega:(i:Int)<(BB (fy n):Int)),ag J,ar i (by omega),BE,ag J];simp only[cond_true,BA,Q39.f];rw[szb _ _ _ (by omega) (by simp)];simp only[cond_true,BA];rw[szw _ _ _ (by omega) (by simp;omega)];rfl
     ·intro rec r X;simp only[Q94.s0,zcp8,aP];rfl
def fW (n:aa)(i:Int):aa:=(n.1,n.2.1,n.2.2.1,n.2.2.2.1,i,n.2.2.2.2.2)
def dF (n:aa)(f:af):aa:=bif decide (bB f (aQ (aa.table n) n.1))&&decide (f.2.1<999) then sayOf (fW n (f.2.1+1)) (n.1,f.2.1+1,1,n.2.2.2.1) n.1 else n
def dK (f:af)(b:Int)(d:bN):bN:=bif d.1==f.1&&d.2.1==f.2.1&&f.2.2.1==2 then (d.1,d.2.1,d.2.2.1,bq (λx:Int=>x) b d.2.2.2) else d
def iE (n:aa)(f:af)(b:Int):aa:=fV n (aa.table n) (aa.cast n) ((aa.doubts n).map (dK f b))
def cI (b:Int)(n:aa)(f:af):aa:=bif f.1==n.1 then dF n f else iE (sayOf n f b) f b
def eO (n:aa)(t:List af)(b:Int):aa:=t.foldl (cI b) n
def kU (l:List Int):Prop:=Asc (λx:Int=>x) l/\∀ x∈l,InP x 0 7
theorem kU.len {l:List Int}(h:kU l):l.length<=8:=iN h.1 h.2
theorem kU.put {l:List Int}{b:Int}(h:kU l)(u:InP b 0 7):kU (bq (λx:Int=>x) b l) :=
 ⟨e9 h.1,λx r=>by
  rcases aV.1 r with rfl|⟨r,_⟩
  ·exact u
  ·exact h.2 x r⟩
structure dr (n:aa):Prop where
 say:cq n
 me:InP n.1 0 7
 has:∃ g∈aa.table n,g.1=n.1
 by_:∀ d∈aa.doubts n,kU d.2.2.2
theorem cq.inc {n:aa}(h:cq n)(i:Int):cq (fW n i):=⟨h.table,h.cast,h.asc,h.inp,h.lt,h.lc,h.ld⟩
theorem jT {n:aa}{f:af}{b:Int}(u:InP b 0 7)(h:∀ d∈aa.doubts n,kU d.2.2.2):∀ d∈aa.doubts (sayOf n f b),kU d.2.2.2:=by
 obtain⟨t,c,H,e,_,_,y⟩:=iD n f b;rw[e];intro d r;have r:d∈H:=r;rcases y with rfl|rfl
 ·exact h d r
 ·rcases ki r with rfl|r
  ·exact⟨Cx _ _,λx z=>by rw[B8.1 z];exact u⟩
  ·exact h d r
theorem nQ {n:aa}{f:af}(u:InP n.1 0 7)(r:bf f)(h:f.2.1<999):bf (n.1,f.2.1+1,1,n.2.2.2.1):=by
 obtain⟨_,⟨z,y⟩,_⟩:=r;exact⟨u,⟨show (0:Int)<=f.2.1+1 by omega,show f.2.1+1<=999 by omega⟩,show (1:Int)<=1 by omega,show (1:Int)<=4 by omega⟩
theorem dr.refute {n:aa}{f:af}(h:dr n)(J:bf f):dr (dF n f):=by
 unfold dF;cases z:decide (bB f (aQ (aa.table n) n.1))&&decide (f.2.1<999) with
 |false=>exact h
 |true =>
  have I:f.2.1<999:=by
   rw[CK]at z;exact of_decide_eq_true z.2
  obtain⟨y,_⟩:=iO (fW n (f.2.1+1)) (n.1,f.2.1+1,1,n.2.2.2.1) n.1;refine⟨ij (h.say.inc _) (nQ h.me J I),?_,?_,jT h.me h.by_⟩
  ·show InP (sayOf (fW n (f.2.1+1)) (n.1,f.2.1+1,1,n.2.2.2.1) n.1).1 0 7;rw[y];exact h.me
  ·obtain⟨g,M,e⟩:=h.has;obtain⟨u,r,H⟩:=jz (n:=fW n (f.2.1+1)) (f:=(n.1,f.2.1+1,1,n.2.2.2.1)) (b:=n.1) (g:=g) M;refine⟨u,r,?_⟩;show u.1=(sayOf (fW n (f.2.1+1)) (n.1,f.2.1+1,1,n.2.2.2.1) n.1).1;rw[y,H,e];rfl
theorem dr.confirm {n:aa}{f:af}{b:Int}(h:dr n)(X:bf f)(M:InP b 0 7):dr (iE (sayOf n f b) f b):=by
 have u:=ij (b:=b) h.say X;obtain⟨O,_⟩:=iO n f b;have z:=jT (f:=f) M h.by_;obtain⟨g,Y,e⟩:=h.has;obtain⟨R,I,Z⟩:=jz (n:=n) (f:=f) (b:=b) Y;have J:∀ d,(dK f b d).1=d.1:=λd=>by unfold dK;cases d.1==f.1&&d.2.1==f.2.1&&f.2.2.1==2 <;> rfl
 refine⟨⟨u.table,u.cast,?_,λd H=>?_,u.lt,u.lc,?_⟩,?_,⟨R,I,?_⟩,λd H=>?_⟩
 ·show Asc (λd:bN=>d.1) ((aa.doubts (sayOf n f b)).map (dK f b));unfold Asc;rw[B7];exact u.asc.imp λ {a c} h=>by show (dK f b a).1<(dK f b c).1;rw[J,J];exact h
 ·obtain⟨y,r,rfl⟩:=BZ.1 H;rw[J];exact u.inp y r
 ·show ((aa.doubts (sayOf n f b)).map (dK f b)).length<=_;rw[BU];exact u.ld
 ·show InP (sayOf n f b).1 0 7;rw[O];exact h.me
 ·show R.1=(sayOf n f b).1;rw[O,Z,e]
 ·obtain⟨y,r,rfl⟩:=BZ.1 H;unfold dK;cases y.1==f.1&&y.2.1==f.2.1&&f.2.2.1==2 with
  |false=>exact z y r
  |true=>exact (z y r).put M
theorem dr.step {n:aa}{f:af}{b:Int}(h:dr n)(r:bf f)(u:InP b 0 7):dr (cI b n f):=by
 unfold cI;cases f.1==n.1 with
 |true=>exact h.refute r
 |false=>exact h.confirm r u
theorem sQ {α A R:Type}(ds:List α)(g:α->α)(S:List α->Nat->A)(u:List α->Option R){step:(A->Option R)->A->Option R}
  (h:∀ (rec:A->Option R) (cur:List α) (i:Nat) (X:i<ds.length),cur.length=ds.length->cur[i]?=some ds[i]->step rec (S cur i)=rec (S (cur.set i (g ds[i])) (i+1)))
  (z:∀ (rec:A->Option R) (cur:List α),cur.length=ds.length->step rec (S cur ds.length)=u cur) {k:Nat} (J:ds.length<k):ae step k (S ds 0)=u (ds.map g):=by
 have:∀ (d i k:Nat) (cur:List α),i+d=ds.length->d<k->cur.length=ds.length->(∀ j,(r:j<ds.length)->cur[j]?=some (if j<i then g ds[j] else ds[j]))->ae step k (S cur i)=u (ds.map g):=by
  intro d;induction d with
  |zero =>
   intro i k cur X J H I;obtain⟨k,rfl⟩:∃ M,k=M+1:=⟨k-1,by omega⟩;have:i=ds.length:=by omega
   subst this;show step (ae step k) _=_;rw[z _ _ H];congr 1;refine List.ext_getElem? λj=>?_
   rw[List.getElem?_map];by_cases r:j<ds.length
   ·rw[I j r,if_pos r,BK r];rfl
   ·rw[CU (by omega),CU (by omega)];rfl
  |succ d Y =>
   intro i k cur X J H I;obtain⟨k,rfl⟩:∃ M,k=M+1:=⟨k-1,by omega⟩;have y:i<ds.length:=by omega
   show step (ae step k) _=_;rw[h (ae step k) cur i y H (by rw[I i y,if_neg (by omega)])];refine Y (i+1) k _ (by omega) (by omega) (by rw[C4,H]) λj r=>?_
   rw[List.getElem?_set];by_cases e:i=j
   ·subst e;rw[if_pos rfl,if_pos (by omega),if_pos (by omega)]
   ·rw[if_neg e,I j r];by_cases O:j<i
    ·rw[if_pos O,if_pos (by omega)]
    ·rw[if_neg O,if_neg (by omega)]
 exact this ds.length 0 k ds (by omega) J rfl (λj r=>by rw[if_neg (by omega),BK r])
theorem l8 {α:Type}{cur:List α}{i:Nat}{x:α}(h:cur[i]?=some x):cur.set i x=cur:=by
 obtain⟨r,e⟩:=List.getElem?_eq_some_iff.1 h;rw[<- e,List.set_getElem_self]
theorem sR {by_:List Int}{b:Int}{m:Nat}(u:m<=by_.length)(y:by_.length<=8){R:Type}(G:List Int->Option R) :
  (bif decide ((0:Int)<=0)&&decide ((0:Int)<=(m:Int))&&decide ((m:Int)<=(BB by_:Int))&&true then (bif decide ((BB ([]:List Int)+BB ((by_.take (BD (m:Int))).drop (BD 0)))*8<=an) then (bif decide ((BB ([]++((by_.take (BD (m:Int))).drop (BD 0)))+BB ([b]))*8<=an) then (bif decide ((0:Int)<=(m:Int))&&decide ((m:Int)<=(BB by_:Int))&&decide ((BB by_:Int)<=(BB by_:Int))&&true then (bif decide ((BB (([]++((by_.take (BD (m:Int))).drop (BD 0)))++([b]))+BB ((by_.take (BD (BB by_:Int))).drop (BD (m:Int))))*8<=an) then G ((([]++((by_.take (BD (m:Int))).drop (BD 0)))++([b]))++((by_.take (BD (BB by_:Int))).drop (BD (m:Int)))) else none) else none) else none) else none) else none)=G (by_.take m++[b]++by_.drop m):=by
 rw[decide_eq_true (by omega:(0:Int)<=0),decide_eq_true (by omega:(0:Int)<=(m:Int)),decide_eq_true (by omega:(m:Int)<=(BB by_:Int)),decide_eq_true (by omega:(BB by_:Int)<=(BB by_:Int))];simp only[BE,CX,B3,BO,CR,CT,cond_true];have z:(by_.take m).length=m:=by rw[BW];omega
 have r:(by_.drop m).length=by_.length-m:=B9;rw[szb _ _ _ (by omega) (by simp only[BM];omega),szb _ _ _ (by omega) (by simp only[BG,BM];omega),szb _ _ _ (by omega) (by simp only[BP,BG,BM];omega)];rfl
theorem wZ (K:Nat)(n:aa)(f:af)(b:Int)(hd:∀ d∈aa.doubts n,kU d.2.2.2)(hl:(aa.doubts n).length<=1048576)(hK:1048577<K):Q32.f K (n,f,b,())=some ((iE n f b,()),()):=by
 simp only[Q32.f,Q32.pre];refine sQ (step:=λrec a=>Q32.s0 K (n,f,b,()) (Q32.l1 K (n,f,b,()) rec) rec a) (aa.doubts n) (dK f b) (λu i=>((i:Int),u)) (λu=>some ((fV n (aa.table n) (aa.cast n) u,()),())) ?_ ?_ (by omega)
 ·intro rec u i hi X I;have J:i<u.length:=by omega
  have a2:u[i]=(aa.doubts n)[i]:=by
   rw[BK J]at I;exact DL I
  have R:=hd _ (BC hi);simp only[Q32.s0,zcp8];rw[bh (by omega:(i:Int)<(BB u:Int)),ag J,ar i (by omega),BE,ag J,a2];simp only[cond_true,BA];generalize a9:(aa.doubts n)[i]=d at R I ⊢;have y:rec (((i+1:Nat):Int),u)=rec (((i+1:Nat):Int),u.set i d):=by rw[l8 I]
  unfold dK;by_cases h1:d.1=f.1
  case neg =>
   rw[show (d.1 != f.1)=true by simpa using h1,show (d.1==f.1)=false by simpa using h1];exact y
  by_cases h2:d.2.1=f.2.1
  case neg =>
   rw[show (d.1 != f.1)=false by simpa using h1,show (d.2.1 != f.2.1)=true by simpa using h2,show (d.2.1==f.2.1)=false by simpa using h2,C6];exact y
  by_cases h3:f.2.2.1=2
  case neg =>
   rw[show (d.1 != f.1)=false by simpa using h1,show (d.2.1 != f.2.1)=false by simpa using h2,show (f.2.2.1 != 2)=true by simpa using h3,show (f.2.2.1==2)=false by simpa using h3,C6];exact y
  rw[show (d.1 != f.1)=false by simpa using h1,show (d.2.1 != f.2.1)=false by simpa using h2,show (f.2.2.1 != 2)=false by simpa using h3,show (d.1==f.1)=true by simpa using h1,show (d.2.1==f.2.1)=true by simpa using h2,show (f.2.2.1==2)=true by simpa using h3];simp only[cond_false,CT,cond_true];have a1:=R.len;have a0:∀ m:Nat,m<=d.2.2.2.length->(∀ j,(M:j<d.2.2.2.length)->j<m->d.2.2.2[j]<b)->(∀ j,(M:j<d.2.2.2.length)->m<=j->b<d.2.2.2[j])->d.2.2.2.take m++[b]++d.2.2.2.drop m=bq (λx:Int=>x) b d.2.2.2:=λm Y lo hi=>gv (k:=λx:Int=>x) Y lo hi
  have:=co (step:=λr a=>Q32.s1 K (n,f,b,()) rec r a) d.2.2.2.length (λj=>((i:Int),(j:Int),u,d.1,d.2.1,d.2.2.1,d.2.2.2)) (λj=>∃ h:j<d.2.2.2.length,¬ d.2.2.2[j]<b)
   (rec (((i+1:Nat):Int),u.set i (d.1,d.2.1,d.2.2.1,d.2.2.2.take d.2.2.2.length++[b]++d.2.2.2.drop d.2.2.2.length)))
   (λj=>if h:j<d.2.2.2.length then (if d.2.2.2[j]=b then rec (((i+1:Nat):Int),u) else rec (((i+1:Nat):Int),u.set i (d.1,d.2.1,d.2.2.1,d.2.2.2.take j++[b]++d.2.2.2.drop j))) else none) ?_ ?_ d.2.2.2.length K 0 (by omega) (by omega)
  ·rcases this with ⟨a4,he⟩|⟨j,_,M,⟨Z,ad⟩,a3,he⟩
   ·refine Cw he ?_;rw[a0 _ (BR _) (λj M _=>by
     by_cases O:d.2.2.2[j]<b
     ·exact O
     ·exact absurd ⟨M,O⟩ (a4 j (BX _) M)) (λj M Y=>by omega)]
   ·refine Cw he ?_;rw[dif_pos Z];have lo:∀ m,(Y:m<d.2.2.2.length)->m<j->d.2.2.2[m]<b:=λm Y a5=>by
     by_cases O:d.2.2.2[m]<b
     ·exact O
     ·exact absurd ⟨Y,O⟩ (a3 m (BX _) a5)
    by_cases H:d.2.2.2[j]=b
    ·rw[if_pos H,<- ii (k:=λx:Int=>x) R.1 Z H];rw[show d.2.2.2.set j b=d.2.2.2 from l8 (by rw[BK Z,H])];exact y
    ·rw[if_neg H,a0 j (by omega) lo (λm Y a6=>by
      rcases CE a6 with h4|rfl
      ·have:=cB.1 R.1 j m (by omega) Y h4;omega
      ·omega)]
  ·intro r j M;simp only[Q32.s1];rw[bh (by omega:(j:Int)<(BB d.2.2.2:Int)),ag M,ar j (by omega)];simp only[cond_true,BA];by_cases O:d.2.2.2[j]<b
   ·left;refine⟨λ⟨_,h⟩=>h O,?_⟩;rw[decide_eq_true O];rfl
   ·right;refine⟨⟨M,O⟩,?_⟩;rw[decide_eq_false O,show ((j:Int)==(BB d.2.2.2:Int))=false by simp;omega,dif_pos M];simp only[cond_false];by_cases H:d.2.2.2[j]=b
    ·rw[if_pos H,show (d.2.2.2[j] != b)=false by simpa using H,ar i (by omega)];rfl
    ·rw[if_neg H,show (d.2.2.2[j] != b)=true by simpa using H];simp only[cond_true];refine (sR (m:=j) (b:=b) (Nat.le_of_lt M) a1 (λz=>(idx u (i:Int)).bind λ_=>(idx u (BD (i:Int):Nat)).bind λ_=>rec (wr .i64 ((i:Int)+1),u.set (BD (i:Int)) (d.1,(d.2.1,(d.2.2.1,z)))))).trans ?_;rw[BE,ag J,ar i (by omega)];rfl
  ·intro r;simp only[Q32.s1];rw[aP];simp only[cond_false,beq_self_eq_true,cond_true];refine (sR (b:=b) (BR _) a1 (λz=>(idx u (i:Int)).bind λ_=>(idx u (BD (i:Int):Nat)).bind λ_=>rec (wr .i64 ((i:Int)+1),u.set (BD (i:Int)) (d.1,(d.2.1,(d.2.2.1,z)))))).trans ?_;rw[BE,ag J,ar i (by omega)];rfl
 ·intro rec u X;simp only[Q32.s0,zcp8];rw[<- X,aP];rfl
theorem yw (K:Nat)(n:aa)(f:af)(h:dr n)(M:bf f)(z:1048577<K):Q31.f K (n,f,())=some ((dF n f,()),()):=by
 simp only[Q31.f,zcp4];have r:=ei h.say.table h.has;obtain⟨o,I,J⟩:=fk K (aa.table n) n.1 h.say.lt z;rw[show Q25.f K (n.2.2.2.2.2.2.2.2.1,n.1,())=_ from J];simp only[BA];cases I with
 |no u=>exact absurd h.has (λ⟨g,O,e⟩=>u g O e)
 |at_ j H e =>
  simp only;rw[show idx n.2.2.2.2.2.2.2.2.1 ((j:Nat):Int)=some (aa.table n)[j] from ag H,gR h.say.table.2 (BC H) r.2.2 (by rw[e,r.2.1])];simp only[BA];rw[pG];obtain⟨_,⟨X,R⟩,_⟩:=M;simp only[rb,BA,dF];cases decide (bB f (aQ (aa.table n) n.1)) with
  |false=>rfl
  |true =>
   simp only[BI,cond_false,CF];by_cases y:f.2.1<999
   ·rw[decide_eq_false (by omega:¬ f.2.1>=999),decide_eq_true y,aJ (by omega) (by omega)];simp only[cond_false,cond_true];refine (congrArg (λo=>BS o _) (pH K (fW n (f.2.1+1)) (n.1,f.2.1+1,1,n.2.2.2.1) n.1 (h.say.inc _) z)).trans ?_;rfl
   ·rw[decide_eq_true (by omega:f.2.1>=999),decide_eq_false y];rfl
theorem uM (K:Nat)(n:aa)(t:List af)(b:Int)(h:dr n)(I:∀ f∈t,bf f)(J:t.length<=1048576)(z:InP b 0 7)(y:1048577<K):Q33.f K (n,t,b,())=some ((eO n t b,()),()):=by
 refine kD (step:=λrec a=>Q33.s0 K (n,t,b,()) rec a) t (cI b) dr (λm i=>((i:Int),m.1,m.2.1,m.2.2.1,m.2.2.2.1,m.2.2.2.2.1,m.2.2.2.2.2.1,m.2.2.2.2.2.2.1,m.2.2.2.2.2.2.2.1,m.2.2.2.2.2.2.2.2.1,m.2.2.2.2.2.2.2.2.2.1,m.2.2.2.2.2.2.2.2.2.2.1.1,m.2.2.2.2.2.2.2.2.2.2.1.2.1,m.2.2.2.2.2.2.2.2.2.2.1.2.2.1,m.2.2.2.2.2.2.2.2.2.2.1.2.2.2,m.2.2.2.2.2.2.2.2.2.2.2.1,m.2.2.2.2.2.2.2.2.2.2.2.2.1.1,m.2.2.2.2.2.2.2.2.2.2.2.2.1.2.1,m.2.2.2.2.2.2.2.2.2.2.2.2.1.2.2.1,m.2.2.2.2.2.2.2.2.2.2.2.2.1.2.2.2,m.2.2.2.2.2.2.2.2.2.2.2.2.2.1,m.2.2.2.2.2.2.2.2.2.2.2.2.2.2)) (λm=>some ((m,()),())) n h ?_ ?_ (by omega)
 ·intro rec m i H r;have u:=I _ (BC H);refine⟨?_,r.step u z⟩;simp only[Q33.s0,zc286a0,zc3ec45];rw[bh (by omega:(i:Int)<(BB t:Int)),ag H,ar i (by omega)];simp only[cond_true,BA];generalize t[i]=f at u ⊢;unfold cI;cases f.1==m.1 with
  |true =>
   simp only[cond_true];refine (congrArg (λo=>BS o _) (yw K m f r u y)).trans ?_;rfl
  |false =>
   simp only[cond_false];refine (congrArg (λo=>BS o _) (pH K m f b r.say y)).trans ?_;simp only[BA];rw[wZ K (sayOf m f b) f b (jT z r.by_) (ij r.say u).ld y];rfl
 ·intro rec m r;simp only[Q33.s0,zc286a0,zc3ec45];rw[aP];rfl
theorem zY (K:Nat)(l:List Int)(v:Int)(X:l.length<=1048576)(J:Asc (λx:Int=>x) l)(hK:1048577<K) :
  ∃ m,m<=l.length/\(∀ i,(h:i<l.length)->i<m->l[i]<v)/\(∀ i,(h:i<l.length)->m<=i->v<=l[i])/\Q180.f K (l,v,())=some ((((m:Nat):Int),decide (∃ h:m<l.length,l[m]=v),()),()):=by
 let ks:Nat->Int:=λi=>if h:i<l.length then l[i] else 0
 have r:∀ i (h:i<l.length),ks i=l[i]:=λi h=>by simp[ks,h]
 let u:Nat->Option ((Int×Bool×Unit)×Unit):=λm=>some ((((m:Nat):Int),decide (∃ h:m<l.length,l[m]=v),()),())
 have:=pA (step:=λrec a=>Q180.s0 K (l,v,()) rec a) (ks:=ks) (n:=l.length) (t:=v) u X
  (λi j z I=>by
   rw[r i (by omega),r j I];exact cB.1 J i j (by omega) I z) ?_ ?_ l.length K 0 l.length (by omega) (BX _) (BR _) (by omega) (λi y=>by omega) (λi y hn=>by omega)
 ·obtain⟨m,M,h2,Z,h4⟩:=this;exact⟨m,M,λi h y=>by rw[<- r i h];exact h2 i y,λi h y=>by rw[<- r i h];exact Z i y h,h4⟩
 ·intro rec a b O hb;have H:(a+b) / 2<l.length:=by omega
  simp only[Q180.s0];rw[decide_eq_true (by omega:(a:Int)<(b:Int)),nJ (by omega)];simp only[cond_true];rw[ag H];simp only[BA,Q178.f,Q135.f,bne_self_eq_false,cond_false];rw[r _ H,ar _ (by omega)];by_cases h:l[(a+b) / 2]<v
  ·rw[if_pos h,decide_eq_true h];rfl
  ·rw[if_neg h,decide_eq_false h];rfl
 ·intro rec a ha;simp only[Q180.s0];rw[decide_eq_false (by omega)];simp only[cond_false];by_cases h:a<l.length
  ·rw[decide_eq_true (by omega:(a:Int)<(BB l:Int)),ag h];simp only[cond_true,BA,Q179.f,bne_self_eq_false,cond_false];by_cases e:l[a]=v
   ·rw[show (l[a]==v)=true by simpa using e];simp only[cond_true,u];rw[decide_eq_true ⟨h,e⟩]
   ·rw[show (l[a]==v)=false by simpa using e];simp only[cond_false,u];rw[decide_eq_false (λ⟨_,Y⟩=>e Y)]
  ·rw[decide_eq_false (by omega:¬ (a:Int)<(BB l:Int))];simp only[cond_false,u];rw[decide_eq_false (λ⟨R,_⟩=>h R)]
abbrev flN {R:Type}(n:aa)(r:R):=(n.1,n.2.1,n.2.2.1,n.2.2.2.1,n.2.2.2.2.1,n.2.2.2.2.2.1,n.2.2.2.2.2.2.1,n.2.2.2.2.2.2.2.1,n.2.2.2.2.2.2.2.2.1,n.2.2.2.2.2.2.2.2.2.1,n.2.2.2.2.2.2.2.2.2.2.1.1,n.2.2.2.2.2.2.2.2.2.2.1.2.1,n.2.2.2.2.2.2.2.2.2.2.1.2.2.1,n.2.2.2.2.2.2.2.2.2.2.1.2.2.2,n.2.2.2.2.2.2.2.2.2.2.2.1,n.2.2.2.2.2.2.2.2.2.2.2.2.1.1,n.2.2.2.2.2.2.2.2.2.2.2.2.1.2.1,n.2.2.2.2.2.2.2.2.2.2.2.2.1.2.2.1,n.2.2.2.2.2.2.2.2.2.2.2.2.1.2.2.2,n.2.2.2.2.2.2.2.2.2.2.2.2.2.1,n.2.2.2.2.2.2.2.2.2.2.2.2.2.2,r)
abbrev flE (n:aa):=(n.1,n.2.1,n.2.2.1,n.2.2.2.1,n.2.2.2.2.1,n.2.2.2.2.2.1,n.2.2.2.2.2.2.1,n.2.2.2.2.2.2.2.1,n.2.2.2.2.2.2.2.2.1,n.2.2.2.2.2.2.2.2.2.1,n.2.2.2.2.2.2.2.2.2.2.1.1,n.2.2.2.2.2.2.2.2.2.2.1.2.1,n.2.2.2.2.2.2.2.2.2.2.1.2.2.1,n.2.2.2.2.2.2.2.2.2.2.1.2.2.2,n.2.2.2.2.2.2.2.2.2.2.2.1,n.2.2.2.2.2.2.2.2.2.2.2.2.1.1,n.2.2.2.2.2.2.2.2.2.2.2.2.1.2.1,n.2.2.2.2.2.2.2.2.2.2.2.2.1.2.2.1,n.2.2.2.2.2.2.2.2.2.2.2.2.1.2.2.2,n.2.2.2.2.2.2.2.2.2.2.2.2.2.1,n.2.2.2.2.2.2.2.2.2.2.2.2.2.2)
theorem w8 (K:Nat)(n0:aa)(t:List af)(n:aa)(f:af)(b:Int)(i:Nat)(hi:i<=1048576)(hd:∀ d∈aa.doubts n,kU d.2.2.2)(hl:(aa.doubts n).length<=1048576)(hK:1048577<K)(I:Q181.A0->Option Q181.Res) :
  Q181.l1 K (n0,t,b,()) I ((i:Int),(BB (aa.doubts n):Int),0,flN n f)=I (((i+1:Nat):Int),flE (iE n f b)):=by
 refine sQ (step:=λr a=>Q181.s1 K (n0,t,b,()) I r a) (aa.doubts n) (dK f b) (λu k=>((i:Int),(BB (aa.doubts n):Int),(k:Int),flN (fV n (aa.table n) (aa.cast n) u) f)) (λu=>I (((i+1:Nat):Int),flE (fV n (aa.table n) (aa.cast n) u))) ?_ ?_ (by omega)
 ·intro rec u k hk M H;have O:k<u.length:=by omega
  have Z:u[k]=(aa.doubts n)[k]:=by
   rw[BK O]at H;exact DL H
  have J:=hd _ (BC hk);have z:idx u (k:Int)=some (aa.doubts n)[k]:=by rw[ag O,Z]
  simp only[Q181.s1,zcp4,zcp8];rw[bh (by omega:(k:Int)<(BB (aa.doubts n):Int)),ar k (by omega),BE];simp only[cond_true];refine (congrArg (λo=>BS o _) z).trans ?_;simp only[BA];generalize a1:(aa.doubts n)[k]=d at J H z ⊢;have y:rec ((i:Int),(BB (aa.doubts n):Int),((k+1:Nat):Int),flN (fV n (aa.table n) (aa.cast n) u) f)=rec ((i:Int),(BB (aa.doubts n):Int),((k+1:Nat):Int),flN (fV n (aa.table n) (aa.cast n) (u.set k d)) f):=by rw[l8 H]
  unfold dK;by_cases h3:f.2.2.1=2
  case neg =>
   rw[show (f.2.2.1 != 2)=true by simpa using h3,show (f.2.2.1==2)=false by simpa using h3,C6];exact y
  rw[show (f.2.2.1 != 2)=false by simpa using h3,show (f.2.2.1==2)=true by simpa using h3];simp only[cond_false,Co];refine (congrArg (λo=>BS o _) z).trans ?_;simp only[BA];by_cases h1:d.1=f.1
  case neg =>
   rw[show (d.1 != f.1)=true by simpa using h1,show (d.1==f.1)=false by simpa using h1,CQ];exact y
  rw[show (d.1 != f.1)=false by simpa using h1,show (d.1==f.1)=true by simpa using h1];simp only[cond_false,CF];refine (congrArg (λo=>BS o _) z).trans ?_;simp only[BA];by_cases h2:d.2.1=f.2.1
  case neg =>
   rw[show (d.2.1 != f.2.1)=true by simpa using h2,show (d.2.1==f.2.1)=false by simpa using h2];exact y
  rw[show (d.2.1 != f.2.1)=false by simpa using h2,show (d.2.1==f.2.1)=true by simpa using h2];simp only[cond_false,cond_true];refine (congrArg (λo=>BS o _) z).trans ?_;simp only[BA];have a2:=J.len;obtain⟨m,hm,lo,Y,hs⟩:=zY K d.2.2.2 b (by omega) J.1 hK;refine (congrArg (λo=>BS o _) hs).trans ?_;simp only[BA];by_cases hb:∃ h:m<d.2.2.2.length,d.2.2.2[m]=b
  ·rw[decide_eq_true hb];obtain⟨R,e⟩:=hb;rw[show bq (λx:Int=>x) b d.2.2.2=d.2.2.2 by rw[<- ii (k:=λx:Int=>x) J.1 R e];exact l8 (by rw[BK R,e])];exact y
  ·rw[decide_eq_false hb];simp only[B4,cond_true];refine (congrArg (λo=>BS o _) z).trans ?_;simp only[BA];refine (congrArg (λo=>BS o _) z).trans ?_;simp only[BA];have a0:Q7.f K (d.2.2.2,(m:Int),[b],())=some ((d.2.2.2.take m++[b]++d.2.2.2.drop m,()),()):=jv hm (by decide) (by show d.2.2.2.length<=1048576;omega);refine (congrArg (λo=>BS o _) a0).trans ?_;simp only[BA];refine (congrArg (λo=>BS o _) z).trans ?_;rw[<- gv (k:=λx:Int=>x) hm lo (λj hj X=>by
    rcases Int.lt_or_eq_of_le (Y j hj X) with h|h
    ·exact h
    ·exfalso;rcases CE X with h4|rfl
     ·have:=cB.1 J.1 m j (by omega) hj h4;have h5:=Y m (by omega) (BR _);omega
     ·exact hb ⟨hj,h.symm⟩)]
   simp only[BA,Nat.beq_refl,cond_true];rfl
 ·intro rec u M;simp only[Q181.s1,zcp4,zcp8];rw[aP,ar i (by omega)];rfl
theorem yx {R:Type}(K:Nat)(n:aa)(f:af)(h:dr n)(u:bf f)(e:f.1=n.1)(y:1048577<K)(G:aa->Option R) :
  ((Q139.f K (aa.table n,n.1,())).bind λO=>(Q153.f K (f,O.1.1,())).bind λX=>bif X.1.1 then (bif decide (f.2.1<999) then ((Q177.f K (fW n (wr .i64 (f.2.1+1)),(n.1,wr .i64 (f.2.1+1),1,n.2.2.2.1),n.1,())).bind λH=>G H.2.1) else G n) else G n)=G (dF n f):=by
 obtain⟨b',I⟩:=kj K (aa.table n) n.1 h.say.table h.say.lt y;rw[I];simp only[BA];obtain⟨z,J,p3⟩:=ei h.say.table h.has;obtain⟨c,Z,Y⟩:=pB K f (aQ (aa.table n) n.1) y;rw[Z];have M:c=decide (bB f (aQ (aa.table n) n.1)):=by
  rw[CS,Y,decide_eq_true_eq];exact⟨λh=>h.2.2.2,λh=>⟨u,z,e.trans J.symm,h⟩⟩
 subst M;obtain⟨_,⟨i0,i1⟩,_⟩:=id u;simp only[rb,BA,dF];cases decide (bB f (aQ (aa.table n) n.1)) with
 |false=>rfl
 |true =>
  simp only[cond_true,CF];by_cases r:f.2.1<999
  ·rw[decide_eq_true r,aJ (by omega) (by omega)];simp only[cond_true];rw[zw K (fW n (f.2.1+1)) (n.1,f.2.1+1,1,n.2.2.2.1) n.1 (h.say.inc _) (nQ h.me u r) y];rfl
  ·rw[decide_eq_false r];rfl
theorem uN (K:Nat)(n:aa)(t:List af)(b:Int)(h:dr n)(J:∀ f∈t,bf f)(M:t.length<=1048576)(H:InP b 0 7)(y:1048577<K):Q181.f K (n,t,b,())=some ((),(eO n t b,())):=by
 refine kD (step:=λrec a=>Q181.s0 K (n,t,b,()) (Q181.l1 K (n,t,b,()) rec) rec a) t (cI b) dr (λm i=>((i:Int),flE m)) (λm=>some ((),(m,()))) n h ?_ ?_ (by omega)
 ·intro rec m i I r;have u:=J _ (BC I);refine⟨?_,r.step u H⟩;simp only[Q181.s0,zc286a0,zc3ec45,zcf8680,zcp4];rw[bh (by omega:(i:Int)<(BB t:Int)),ag I,ar i (by omega)];simp only[cond_true,BA];generalize t[i]=f at u ⊢;unfold cI;by_cases e:f.1=m.1
  ·rw[show (f.1==m.1)=true by simpa using e];simp only[cond_true];exact yx K m f r u e y (λz=>rec (((i+1:Nat):Int),flE z))
  ·rw[show (f.1==m.1)=false by simpa using e];simp only[cond_false];refine (congrArg (λo=>BS o _) (zw K m f b r.say u y)).trans ?_;simp only[BA];exact w8 K n t (sayOf m f b) f b i (by omega) (jT H r.by_) (ij r.say u).ld y rec
 ·intro rec m r;simp only[Q181.s0,zc286a0,zc3ec45,zcf8680,zcp4];rw[aP];rfl
def dx {α:Type}(r:α->α->Bool)(x:α):List α->List α->List α
 |[],B=>x::B
 |y::A,B=>bif r x y then dx r x A (y::B) else (y::A).reverse++x::B
def cS {α:Type}(r:α->α->Bool):List α->List α->List α
 |done,[]=>done
 |done,x::u=>cS r (dx r x done.reverse []) u
theorem oW {α:Type}(r:α->α->Bool)(x:α):∀ (A B C:List α),dx r x A (B++C)=dx r x A B++C
 |[],B,C=>rfl
 |y::A,B,C=>by
  simp only[dx];cases r x y with
  |true=>exact oW r x A (y::B) C
  |false=>simp
theorem oX {α:Type}(r:α->α->Bool)(x:α):∀ (A B:List α),(dx r x A B).length=A.length+B.length+1
 |[],B=>by simp[dx]
 |y::A,B=>by
  simp only[dx];cases r x y with
  |true=>simp only[cond_true];rw[oX r x A (y::B)];simp;omega
  |false=>simp;omega
theorem mR {α:Type}(r:α->α->Bool)(x:α):∀ (A B:List α),(dx r x A B).Perm (x::(A.reverse++B))
 |[],B=>by simp[dx]
 |y::A,B=>by
  simp only[dx];cases r x y with
  |true=>exact (mR r x A (y::B)).trans (by simp)
  |false=>simp only[cond_false];exact DE
theorem l9 {α:Type}(r:α->α->Bool):∀ (xs done:List α),(cS r done xs).Perm (done++xs)
 |[],done=>by simp[cS]
 |x::xs,done=>by
  simp only[cS];refine (l9 r xs _).trans ?_;have:=mR r x done.reverse [];simp only[B5,BN]at this;exact (this.append_right xs).trans (by simpa using (DE (a:=x) (l₁:=done) (l₂:=xs)).symm)
def jF {α:Type}(r:α->α->Bool)(xs:List α):Prop:=xs.Pairwise λa b=>r b a=false
theorem kV {α:Type}(r:α->α->Bool)(I:∀ a b c,r a b=false->r b c=false->r a c=false)(x:α) :
  ∀ (A B:List α),jF r A.reverse->dx r x A B=(A.reverse.filter λy=>!r x y)++x::((A.reverse.filter λy=>r x y)++B)
 |[],B,_=>rfl
 |y::A,B,h=>by
  simp only[dx];have J:jF r A.reverse:=by
   unfold jF at h ⊢;rw[CP,CN]at h;exact h.1
  cases z:r x y with
  |true =>
   simp only[cond_true];rw[kV r I x A (y::B) J];simp[z,CD]
  |false =>
   have H:∀ a∈A.reverse,r x a=false:=λa u=>by
    unfold jF at h;rw[CP,CN]at h;exact I x y a z (h.2.2 a u y (by simp))
   simp only[cond_false];have O:(y::A).reverse.filter (λy=>!r x y)=(y::A).reverse:=BT.2 λa u=>by
    rw[CP,CC,B8]at u;rcases u with u|rfl
    ·rw[H a u];rfl
    ·rw[z];rfl
   have M:(y::A).reverse.filter (λy=>r x y)=[]:=BY.2 λa u=>by
    rw[CP,CC,B8]at u;rcases u with u|rfl
    ·rw[H a u];simp
    ·rw[z];simp
   rw[O,M];rfl
theorem vE {α:Type}(r:α->α->Bool)(H:∀ a b c,r a b=false->r b c=false->r a c=false)(u:∀ a b,r a b=true->r b a=false)(x:α)(A:List α)(h:jF r A):jF r (dx r x A.reverse []):=by
 rw[kV r H x A.reverse [] (by rwa [B5])];unfold jF at h ⊢;simp only[B5,BN];rw[CN];refine⟨h.filter _,?_,?_⟩
 ·rw[BQ];refine⟨λa z=>?_,h.filter _⟩;exact u _ _ (by simpa using (BH.1 z).2)
 ·intro a z b y;have I:r x a=false:=by simpa using (BH.1 z).2
  rcases CI.1 y with rfl|y
  ·exact I
  ·have J:r x b=true:=by simpa using (BH.1 y).2
   exact H b x a (u _ _ J) I
theorem mS {α:Type}(r:α->α->Bool)(y:∀ a b c,r a b=false->r b c=false->r a c=false)(u:∀ a b,r a b=true->r b a=false):∀ (xs done:List α),jF r done->jF r (cS r done xs)
 |[],done,h=>h
 |x::xs,done,h=>mS r y u xs _ (vE r y u x done h)
theorem oh {α:Type}(J:α->α->Bool):∀ {u H:List α},u.Perm H->jF J u->H.Pairwise (λa b=>J a b=true)->u=H
 |u,[],r,_,_=>r.eq_nil
 |[],z::H,r,_,_=>absurd r.symm.eq_nil (by simp)
 |y::u,z::H,r,I,M=>by
  unfold jF at I;rw[BQ]at I M;have e:y=z:=by
   rcases CI.1 (r.mem_iff.1 (DA ..)) with h|h
   ·exact h
   ·have R:=M.1 y h;rcases CI.1 (r.symm.mem_iff.1 (DA ..)) with O|O
    ·exact O.symm
    ·rw[I.1 z O]at R;cases R
  subst e;rw[oh J r.cons_inv I.2 M.2]
abbrev SoR (α:Type):=Unit×(List α×Unit)
theorem vF {α R:Type}(u:α->α->Bool)(i:Int)(r:List α×Int->Option R){step:(List α×Int×Int->Option R)->List α×Int×Int->Option R}
  (h:∀ (rec:List α×Int×Int->Option R) (A:List α) (y x:α) (B:List α),A.length+B.length<=1048576->step rec (A++y::x::B,i,((A.length+1:Nat):Int))=bif u x y then rec (A++x::y::B,i,(A.length:Int)) else r (A++y::x::B,wr .i64 (i+1)))
  (O:∀ (rec:List α×Int×Int->Option R) (I:List α),step rec (I,i,0)=r (I,wr .i64 (i+1))) :
  ∀ (A B:List α) (x:α) (k:Nat),A.length+B.length<=1048576->A.length<k->ae step k (A.reverse++x::B,i,(A.length:Int))=r (dx u x A B,wr .i64 (i+1)):=by
 intro A;induction A with
 |nil =>
  intro B x k M z;obtain⟨k,rfl⟩:∃ H,k=H+1:=⟨k-1,by simp at z;omega⟩;exact O (ae step k) (x::B)
 |cons y A X =>
  intro B x k M z;simp only[BG]at z M;obtain⟨k,rfl⟩:∃ H,k=H+1:=⟨k-1,by omega⟩;have J:=h (ae step k) A.reverse y x B (by simp;omega);simp only[Ce]at J;show step (ae step k) _=_;rw[CP,CH];simp only[BG,DF,BO,dx];rw[J];cases u x y with
  |true=>exact X (y::B) x k (by simp;omega) (by omega)
  |false=>simp
theorem ue {α:Type}(r:α->α->Bool){step:(List α×Int->Option (SoR α))->List α×Int->Option (SoR α)}(n:Nat)(O:n<=1048576)
  (h:∀ (rec:List α×Int->Option (SoR α)) (done:List α) (x:α) (xs:List α),done.length+1+xs.length=n->step rec (done++x::xs,(done.length:Int))=rec (dx r x done.reverse xs,wr .i64 ((done.length:Int)+1)))
  (J:∀ (rec:List α×Int->Option (SoR α)) (z:List α) (i:Int),(n:Int)<=i->step rec (z,i)=some ((),(z,()))) :
  ∀ (xs done:List α) (k:Nat),done.length+xs.length=n->xs.length<k->ae step k (done++xs,(done.length:Int))=some ((),(cS r done xs,())):=by
 intro xs;induction xs with
 |nil =>
  intro done k u I;obtain⟨k,rfl⟩:∃ y,k=y+1:=⟨k-1,by omega⟩;show step (ae step k) _=_;rw[J _ _ _ (by simp at u;omega)];simp[cS]
 |cons x xs M =>
  intro done k u I;simp only[BG]at I u;obtain⟨k,rfl⟩:∃ y,k=y+1:=⟨k-1,by omega⟩;show step (ae step k) _=_;rw[h _ _ _ _ (by omega),ar _ (by omega)];have e:dx r x done.reverse xs=dx r x done.reverse []++xs:=oW r x done.reverse [] xs;have H:(dx r x done.reverse []).length=done.length+1:=by rw[oX];simp
  rw[e,<- H];exact M _ k (by rw[H];omega) (by omega)
theorem yy {α:Type}(u:α->α->Bool){step:(List α×Int->Option (SoR α))->List α×Int->Option (SoR α)}(xs:List α)(I:xs.length<=1048576)
  (h:∀ (rec:List α×Int->Option (SoR α)) (done:List α) (x:α) (r:List α),done.length+1+r.length=xs.length->step rec (done++x::r,(done.length:Int))=rec (dx u x done.reverse r,wr .i64 ((done.length:Int)+1)))
  (y:∀ (rec:List α×Int->Option (SoR α)) (z:List α) (i:Int),(xs.length:Int)<=i->step rec (z,i)=some ((),(z,()))) {k:Nat} (H:xs.length<k) :
  ae step k (xs,1)=some ((),(cS u [] xs,())):=by
 cases xs with
 |nil =>
  obtain⟨k,rfl⟩:∃ J,k=J+1:=⟨k-1,by simp at H;omega⟩;exact y (ae step k) [] 1 (by simp)
 |cons x xs =>
  simp only[BG]at H;have:=ue u (xs.length+1) (by simpa using I) h y xs [x] k (by simp;omega) (by omega);exact this
theorem uO {α:Type}(A B:List α)(x:α):idx (A++x::B) (A.length:Int)=some x:=by
 rw[qp];simp
theorem sS {α:Type}(A B:List α)(y x:α):idx (A++y::x::B) ((A.length+1:Nat):Int)=some x:=by
 rw[qp];simp[List.getElem?_append_right]
theorem uP {α:Type}(A B:List α)(x v:α):(A++x::B).set A.length v=A++v::B:=by simp
theorem sU {α:Type}(A B:List α)(y x v:α):(A++y::x::B).set (A.length+1) v=A++y::v::B:=by
 simp[C5]
theorem uf {α R:Type}(P:α->Prop)(H:α->α->Bool)(i:Int)(r:List α×Int->Option R){step:(List α×Int×Int->Option R)->List α×Int×Int->Option R}
  (h:∀ (rec:List α×Int×Int->Option R) (A:List α) (y x:α) (B:List α),P y->P x->A.length+B.length<=1048576->step rec (A++y::x::B,i,((A.length+1:Nat):Int))=bif H x y then rec (A++x::y::B,i,(A.length:Int)) else r (A++y::x::B,wr .i64 (i+1)))
  (Z:∀ (rec:List α×Int×Int->Option R) (O:List α),step rec (O,i,0)=r (O,wr .i64 (i+1))) :
  ∀ (A B:List α) (x:α) (k:Nat),(∀ y∈A,P y)->P x->A.length+B.length<=1048576->A.length<k->ae step k (A.reverse++x::B,i,(A.length:Int))=r (dx H x A B,wr .i64 (i+1)):=by
 intro A;induction A with
 |nil =>
  intro B x k u I Y J;obtain⟨k,rfl⟩:∃ M,k=M+1:=⟨k-1,by simp at J;omega⟩;exact Z (ae step k) (x::B)
 |cons y A ih =>
  intro B x k u I Y J;simp only[BG]at J Y;obtain⟨k,rfl⟩:∃ M,k=M+1:=⟨k-1,by omega⟩;have X:=h (ae step k) A.reverse y x B (u y (by simp)) I (by simp;omega);simp only[Ce]at X;show step (ae step k) _=_;rw[CP,CH];simp only[BG,DF,BO,dx];rw[X];cases H x y with
  |true=>exact ih (y::B) x k (λz hz=>u z (by simp[hz])) I (by simp;omega) (by omega)
  |false=>simp
theorem sW {α:Type}(P:α->Prop)(r:α->α->Bool){step:(List α×Int->Option (SoR α))->List α×Int->Option (SoR α)}(n:Nat)(hn:n<=1048576)
  (h:∀ (rec:List α×Int->Option (SoR α)) (done:List α) (x:α) (xs:List α),(∀ y∈done,P y)->P x->done.length+1+xs.length=n->step rec (done++x::xs,(done.length:Int))=rec (dx r x done.reverse xs,wr .i64 ((done.length:Int)+1)))
  (Z:∀ (rec:List α×Int->Option (SoR α)) (R:List α) (i:Int),(n:Int)<=i->step rec (R,i)=some ((),(R,()))) :
  ∀ (xs done:List α) (k:Nat),(∀ y∈done,P y)->(∀ y∈xs,P y)->done.length+xs.length=n->xs.length<k->ae step k (done++xs,(done.length:Int))=some ((),(cS r done xs,())):=by
 intro xs;induction xs with
 |nil =>
  intro done k I H M Y;obtain⟨k,rfl⟩:∃ O,k=O+1:=⟨k-1,by omega⟩;show step (ae step k) _=_;rw[Z _ _ _ (by simp at M;omega)];simp[cS]
 |cons x xs ih =>
  intro done k I H M Y;simp only[BG]at Y M;obtain⟨k,rfl⟩:∃ O,k=O+1:=⟨k-1,by omega⟩;show step (ae step k) _=_;rw[h _ _ _ _ I (H x (by simp)) (by omega),ar _ (by omega)];have e:dx r x done.reverse xs=dx r x done.reverse []++xs:=oW r x done.reverse [] xs;have X:(dx r x done.reverse []).length=done.length+1:=by rw[oX];simp
  rw[e,<- X];refine ih _ k (λz J=>?_) (λz J=>H z (by simp[J])) (by rw[X];omega) (by omega);have u:=(mR r x done.reverse []).mem_iff.1 J;simp only[B5,BN,CI]at u;rcases u with rfl|u
  ·exact H z (by simp)
  ·exact I z u
theorem xa {α:Type}(P:α->Prop)(z:α->α->Bool){step:(List α×Int->Option (SoR α))->List α×Int->Option (SoR α)}(xs:List α)(J:∀ y∈xs,P y)(O:xs.length<=1048576)
  (h:∀ (rec:List α×Int->Option (SoR α)) (done:List α) (x:α) (r:List α),(∀ y∈done,P y)->P x->done.length+1+r.length=xs.length->step rec (done++x::r,(done.length:Int))=rec (dx z x done.reverse r,wr .i64 ((done.length:Int)+1)))
  (H:∀ (rec:List α×Int->Option (SoR α)) (I:List α) (i:Int),(xs.length:Int)<=i->step rec (I,i)=some ((),(I,()))) {k:Nat} (M:xs.length<k) :
  ae step k (xs,1)=some ((),(cS z [] xs,())):=by
 cases xs with
 |nil =>
  obtain⟨k,rfl⟩:∃ R,k=R+1:=⟨k-1,by simp at M;omega⟩;exact H (ae step k) [] 1 (by simp)
 |cons x xs =>
  simp only[BG]at M;have:=sW P z (xs.length+1) (by simpa using O) h H xs [x] k (λy u=>J y (by simpa using .inl (by simpa using u))) (λy u=>J y (by simp[u])) (by simp;omega) (by omega);exact this
def ltZ (a b:Int):Bool:=decide (a<b)
theorem AP (K:Nat)(a b:Int):Q178.f K (a,b,())=some ((ltZ a b,()),()):=by
 simp only[Q178.f,Q135.f,ltZ];simp
theorem yz (K:Nat)(xs:List Int)(H:Int×Int×Unit->Option Int)(I:Int->Int->Bool)(P:Int->Prop)(Y:∀ y∈xs,P y)(hφ:∀ y z,P y->P z->∃ c,H (y,z,())=some c/\decide (c<0)=I y z)(hx:xs.length<=1048576)(hK:1048577<K) :
  Q190.f K (xs,0,(xs.length:Int),H,())=some ((),(cS I [] xs,())):=by
 refine xa P (step:=λrec a=>Q190.s0 K (xs,0,(xs.length:Int),H,()) (Q190.l1 K (xs,0,(xs.length:Int),H,()) rec) rec a) I xs Y hx ?_ ?_ (by omega)
 ·intro rec done x r J O hl;simp only[Q190.s0];rw[decide_eq_true (by omega:((done.length:Int))<(xs.length:Int))];simp only[cond_true];have:=uf P I (done.length:Int) rec (step:=λu a=>Q190.s1 K (xs,0,(xs.length:Int),H,()) rec u a) ?_ ?_ done.reverse r x K (λy M=>J y (by simpa using M)) O (by simp;omega) (by simp;omega)
  ·rw[B5,Ce]at this;exact this
  ·intro u A y z B M Z X;simp only[Q190.s1];have e1:wr .i64 (((A.length+1:Nat):Int)-1)=(A.length:Int):=(aJ (by omega) (by omega)).trans (by omega);rw[decide_eq_true (by omega:((A.length+1:Nat):Int)>0)];obtain⟨c,hc,J⟩:=hφ z y Z M;simp only[cond_true,e1,BE,sS,uO,BA,hc,J,sU,uP]
  ·intro u R;simp only[Q190.s1];rw[decide_eq_false (by omega:¬ (0:Int)>0)];rfl
 ·intro rec R i hi;simp only[Q190.s0];rw[decide_eq_false (by omega:¬ i<(xs.length:Int))];rfl
theorem yA (K:Nat)(xs:List Int)(H:Int×Int×Unit->Option Int)(u:Int->Int->Bool)(P:Int->Prop)(I:∀ y∈xs,P y)(hφ:∀ y z,P y->P z->∃ c,H (y,z,())=some c/\decide (c<0)=u y z)(R:xs.length<=19)(J:1048577<K) :
  Q192.f K (xs,H,())=some ((),(cS u [] xs,())):=by
 simp only[Q192.f];have:Q191.f K (xs,(xs.length:Int),H,())=some ((),(cS u [] xs,())):=by
  obtain⟨k,rfl⟩:∃ O,K=O+1:=⟨K-1,by omega⟩;show Q191.s0 _ _ _ _ _=_;simp only[Q191.s0];rw[decide_eq_false (by omega:¬ (20:Int)<=(xs.length:Int))];simp only[cond_false];rw[yz (k+1) xs H u P I hφ (by omega) J];simp only[BA];have M:∀ (r:Q191.A1->Option Q191.Res),Q191.s1 (k+1) (xs,(xs.length:Int),H,()) (Q191.l2 (k+1) (xs,(xs.length:Int),H,()) r) r (cS u [] xs,20)=some ((),(cS u [] xs,())):=by
   intro r;simp only[Q191.s1];rw[decide_eq_false (by omega:¬ (20:Int)<(xs.length:Int))];rfl
  exact M _
 rw[this];rfl
theorem yB (K:Nat)(xs:List Int)(J:xs.length<=1048576)(R:1048577<K) :
  Q194.f K (xs,0,(xs.length:Int),())=some ((),(cS ltZ [] xs,())):=by
 refine yy (step:=λrec a=>Q194.s0 K (xs,0,(xs.length:Int),()) (Q194.l1 K (xs,0,(xs.length:Int),()) rec) rec a) ltZ xs J ?_ ?_ (by omega)
 ·intro rec done x r X;simp only[Q194.s0];rw[decide_eq_true (by omega:((done.length:Int))<(xs.length:Int))];simp only[cond_true];have:=vF ltZ (done.length:Int) rec (step:=λu a=>Q194.s1 K (xs,0,(xs.length:Int),()) rec u a) ?_ ?_ done.reverse r x K (by simp;omega) (by simp;omega)
  ·rw[B5,Ce]at this;exact this
  ·intro u A y z B I;simp only[Q194.s1];have M:wr .i64 (((A.length+1:Nat):Int)-1)=(A.length:Int):=(aJ (by omega) (by omega)).trans (by omega);rw[decide_eq_true (by omega:((A.length+1:Nat):Int)>0)];simp only[cond_true,M,BE,sS,uO,BA,sU,uP];rw[show Q178.f K (z,y,())=_ from AP K z y];rfl
  ·intro u H;simp only[Q194.s1];rw[decide_eq_false (by omega:¬ (0:Int)>0)];rfl
 ·intro rec H i O;simp only[Q194.s0];rw[decide_eq_false (by omega:¬ i<(xs.length:Int))];rfl
theorem yC (K:Nat)(xs:List Int)(y:xs.length<=12)(r:1048577<K) :
  Q202.f K (xs,())=some ((),(cS ltZ [] xs,())):=by
 simp only[Q202.f,Q201.f];obtain⟨l,H⟩:∃ l:Int,Q200.f K (wr .u64 (xs.length:Int),())=some ((l,()),()):=by
  have e:wr .u64 (xs.length:Int)=(xs.length:Int):=by
   show IntKind.u64.wrap _=_;have u:IntKind.u64.wrap (xs.length:Int)=(xs.length:Int) % 18446744073709551616:=by simp[IntKind.wrap,IntKind.bits,IntKind.signed]
   rw[u];omega
  rw[e];generalize J:xs.length=n at y;have:n=0\/n=1\/n=2\/n=3\/n=4\/n=5\/n=6\/n=7\/n=8\/n=9\/n=10\/n=11\/n=12:=by omega
  rcases this with rfl|rfl|rfl|rfl|rfl|rfl|rfl|rfl|rfl|rfl|rfl|rfl|rfl
  ·exact⟨0,by kernel_rfl⟩
  ·exact⟨1,by kernel_rfl⟩
  ·exact⟨2,by kernel_rfl⟩
  ·exact⟨2,by kernel_rfl⟩
  ·exact⟨3,by kernel_rfl⟩
  ·exact⟨3,by kernel_rfl⟩
  ·exact⟨3,by kernel_rfl⟩
  ·exact⟨3,by kernel_rfl⟩
  ·exact⟨4,by kernel_rfl⟩
  ·exact⟨4,by kernel_rfl⟩
  ·exact⟨4,by kernel_rfl⟩
  ·exact⟨4,by kernel_rfl⟩
  ·exact⟨4,by kernel_rfl⟩
 rw[H];simp only[BA];have:Q199.f K (xs,0,(xs.length:Int),l,())=some ((),(cS ltZ [] xs,())):=by
  obtain⟨k,rfl⟩:∃ I,K=I+1:=⟨K-1,by omega⟩;have z:∀ (rec:Q199.A0->Option Q199.Res) (a:Q199.A0),Q199.s0 (k+1) (xs,0,(xs.length:Int),l,()) rec a=some ((),(cS ltZ [] xs,())):=by
   intro rec a;simp only[Q199.s0];have e:wr .i64 ((xs.length:Int)-0)=(xs.length:Int):=(aJ (by omega) (by omega)).trans (by omega);rw[e,decide_eq_true (by omega:(xs.length:Int)<=12)];simp only[cond_true];rw[yB (k+1) xs (by omega) r];rfl
  exact z (λ_=>none) ()
 rw[this];rfl
def d4 (l:List aF)(i:Int):Int:=((l[i.toNat]?).map (·.2)).getD 0
def ltL (l:List aF)(a b:Int):Bool:=decide (d4 l b<d4 l a)
def lt2 (l:List aF)(a b:Int):Prop:=d4 l b<d4 l a\/(d4 l a=d4 l b/\a<b)
def ct (n:Nat):List Int:=(List.range n).map λ (i:Nat)=>(i:Int)
def bw (l:List aF):List Int:=cS (ltL l) [] (ct l.length)
theorem il {n:Nat}{i:Int}:i∈ct n<->0<=i/\i<n:=by
 unfold ct;rw[BZ];constructor
 ·rintro⟨j,hj,rfl⟩;have:=DO.1 hj;omega
 ·rintro⟨h0,h1⟩;exact⟨i.toNat,DO.2 (by omega),by omega⟩
theorem jc (n:Nat):(ct n).Pairwise (·<·):=by
 unfold ct;rw[B7];exact List.pairwise_lt_range.imp λh=>by omega
theorem dL {l:List aF}{i:Nat}(h:i<l.length):d4 l (i:Int)=l[i].2:=by
 unfold d4;rw[BE,BK h];rfl
theorem sX (l:List aF):∀ (xs done:List Int),done.Pairwise (lt2 l)->(∀ a∈done,∀ b∈xs,a<b)->xs.Pairwise (·<·)->(cS (ltL l) done xs).Pairwise (lt2 l)
 |[],done,h,_,_=>h
 |x::xs,done,h,H,R=>by
  have z:=BQ.1 R;have J:jF (ltL l) done:=h.imp λ {a b} M=>by
   unfold ltL;rw[decide_eq_false_iff_not];rcases M with y|⟨y,_⟩ <;> omega
  have e:=kV (ltL l) (λa b c y I=>by
   unfold ltL at y I ⊢;rw[decide_eq_false_iff_not]at y I ⊢;omega) x done.reverse [] (by rw[B5];exact J)
  rw[B5,BN]at e;simp only[cS];rw[e];refine sX l xs _ ?_ ?_ z.2
  ·rw[CN,BQ];refine⟨h.filter _,⟨λb u=>?_,h.filter _⟩,λa r b u=>?_⟩
   ·have y:ltL l x b=true:=by simpa using (BH.1 u).2
    exact .inl (by simpa[ltL]using y)
   ·have y:ltL l x a=false:=by simpa using (BH.1 r).2
    have Y:¬ d4 l a<d4 l x:=by simpa[ltL]using y
    have O:=H a (BH.1 r).1 x (by simp);rcases CI.1 u with rfl|u
    ·by_cases I:d4 l b<d4 l a
     ·exact .inl I
     ·exact .inr ⟨by omega,O⟩
    ·have I:ltL l x b=true:=by simpa using (BH.1 u).2
     have X:d4 l b<d4 l x:=by simpa[ltL]using I
     exact .inl (by omega)
  ·intro a r b u;rcases CC.1 r with r|r
   ·exact H a (BH.1 r).1 b (by simp[u])
   ·rcases CI.1 r with rfl|r
    ·exact z.1 b u
    ·exact H a (BH.1 r).1 b (by simp[u])
theorem pL (l:List aF):(bw l).Pairwise (lt2 l):=sX l _ [] List.Pairwise.nil (by simp) (jc _)
theorem ma (l:List aF):(bw l).Perm (ct l.length):=by
 unfold bw;simpa using l9 (ltL l) (ct l.length) []
theorem iF {l:List aF}{i:Int}:i∈bw l<->0<=i/\i<l.length:=by rw[(ma l).mem_iff,il]
theorem xb (l:List aF):(bw l).length=l.length:=by rw[(ma l).length_eq];simp[ct]
theorem ug (l:List aF):(bw l).Nodup:=(ma l).nodup_iff.2 ((jc _).imp λh=>by omega)
def dm (T:List Int)(n:Nat):List Bool:=(ct n).map λi=>decide (i∈T)
theorem eW (T:List Int)(n:Nat):(dm T n).length=n:=by simp[dm,ct]
theorem iG (T:List Int){n i:Nat}(h:i<n):(dm T n)[i]'(by rw[eW];exact h)=decide ((i:Int)∈T):=by
 simp[dm,ct]
theorem xc {T:List Int}{n b:Nat}(u:b<n):(dm T n).set b true=dm (T++[(b:Int)]) n:=by
 refine Cb (by rw[C4,eW,eW]) λi y r=>?_
 rw[eW]at r;rw[DG,iG _ r];by_cases h:b=i
 ·subst h;rw[if_pos rfl,iG _ r];simp
 ·rw[if_neg h,iG _ r];have:¬ (i:Int)=(b:Int):=by omega
  simp[this]
def pM (l:List aF)(T:List Int)(i:Nat)(r:Int):Prop :=
 (r=-1/\∀ j:Nat,j<i->(j:Int)∈T)\/(0<=r/\r<i/\r∉T/\∀ j:Nat,j<i->(j:Int)∉T->(j:Int)≠r->lt2 l r (j:Int))
theorem zZ (K:Nat)(l:List aF)(T:List Int)(hl:l.length<=1048576):∀ (d i k:Nat) (r:Int),i+d=l.length->d<k->pM l T i r ->
  ∃ b:Int,ae (λrec a=>Q41.s0 K (l,dm T l.length,()) rec a) k (r,(i:Int))=some ((b,()),())/\pM l T l.length b:=by
 intro d;induction d with
 |zero =>
  intro i k r hi hk X;obtain⟨k,rfl⟩:∃ k',k=k'+1:=⟨k-1,by omega⟩;have:i=l.length:=by omega
  subst this;refine⟨r,?_,X⟩;show Q41.s0 K (l,dm T l.length,()) _ _=_;simp only[Q41.s0,aP];rfl
 |succ d ih =>
  intro i k r hi hk X;obtain⟨k,rfl⟩:∃ k',k=k'+1:=⟨k-1,by omega⟩;have y:i<l.length:=by omega
  have H:∀ r,pM l T (i+1) r->∃ b:Int,ae (λrec a=>Q41.s0 K (l,dm T l.length,()) rec a) k (r,((i+1:Nat):Int))=some ((b,()),())/\pM l T l.length b:=λr h=>ih (i+1) k r (by omega) (by omega) h
  show ∃ b:Int,Q41.s0 K (l,dm T l.length,()) (ae (λrec a=>Q41.s0 K (l,dm T l.length,()) rec a) k) (r,(i:Int))=_/\_;generalize ae (λrec a=>Q41.s0 K (l,dm T l.length,()) rec a) k=REC at H ⊢;simp only[Q41.s0];rw[bh (by omega:(i:Int)<(BB l:Int)),ag (show i<(dm T l.length).length by rw[eW];exact y),iG T y,ar i (by omega)];simp only[cond_true,BA];by_cases O:(i:Int)∈T
  ·rw[decide_eq_true O];simp only[BI,cond_false];refine H r ?_;rcases X with ⟨rfl,h⟩|⟨h0,h1,h2,Z⟩
   ·refine .inl ⟨rfl,λj Y=>?_⟩;by_cases z:j=i
    ·subst z;exact O
    ·exact h j (by omega)
   ·refine .inr ⟨h0,by omega,h2,λj Y u I=>?_⟩;by_cases z:j=i
    ·subst z;exact absurd O u
    ·exact Z j (by omega) u I
  ·rw[decide_eq_false O];simp only[B4,cond_true];rcases X with ⟨rfl,h⟩|⟨h0,h1,h2,Z⟩
   ·rw[show decide ((-1:Int)<0)=true from rfl];refine H (i:Int) (.inr ⟨by omega,by omega,O,λj Y u I=>?_⟩);exact absurd (h j (by omega)) u
   ·rw[decide_eq_false (by omega:¬ r<0)];obtain⟨b,rfl⟩:=BF h0;have J:b<l.length:=by omega
    simp only[cond_false];rw[ag y,ag J];simp only[BA];by_cases M:l[i].2>l[b].2
    ·rw[decide_eq_true M];refine H (i:Int) (.inr ⟨by omega,by omega,O,λj Y u I=>?_⟩);have z:j<i:=by omega
     have a1:j<l.length:=by omega
     by_cases R:(j:Int)=(b:Int)
     ·rw[R];exact .inl (by rw[dL y,dL J];exact M)
     ·have:=Z j z u R;rcases this with h4|⟨h4,_⟩
      ·exact .inl (by rw[dL J]at h4;rw[dL y];omega)
      ·exact .inl (by rw[dL J]at h4;rw[dL y];omega)
    ·rw[decide_eq_false M];refine H (b:Int) (.inr ⟨by omega,by omega,h2,λj Y u I=>?_⟩);by_cases z:j=i
     ·subst z;by_cases a0:d4 l (b:Int)=d4 l (j:Int)
      ·exact .inr ⟨a0,h1⟩
      ·refine .inl ?_;rw[dL y,dL J]at *;omega
     ·exact Z j (by omega) u I
theorem AQ (K:Nat)(l:List aF)(n:Nat)(hl:l.length<=1048576)(hK:1048577<K):Q41.f K (l,dm ((bw l).take n) l.length,())=some ((((bw l)[n]?).getD (-1),()),()):=by
  obtain⟨b,e,Z⟩:=zZ K l ((bw l).take n) hl l.length 0 K (-1) (by omega) (by omega) (.inl ⟨rfl,λj z=>by omega⟩);have:b=((bw l)[n]?).getD (-1):=by
    by_cases y:n<(bw l).length
    · rw[BK y]
      show b=(bw l)[n];have hm:(bw l)[n]∉(bw l).take n:=λh=>by
        obtain⟨j,z,e⟩:=BJ h;rw[BW]at z;rw[Cf]at e;have:=CM.1 (pL l) j n (by omega) y (by omega);rw[e]at this;rcases this with u|⟨_,u⟩ <;> omega
      have hr:=iF.1 (BC y);obtain⟨m,r⟩:=BF hr.1;rcases Z with ⟨rfl,h⟩|⟨J,M,H,h3⟩
      · have:=h m (by omega)
        rw[<- r]at this;exact absurd this hm
      · by_cases Y:b=(bw l)[n]
        · exact Y
        · exfalso
          have I:=h3 m (by omega) (by rw[<- r];exact hm) (by rw[<- r];exact λh=>Y h.symm);rw[<- r]at I;have R:b∈bw l:=iF.2 ⟨J,M⟩;obtain⟨j,z,X⟩:=BJ R;have O:n<j:=by
            rcases Cs j n with h|h|h
            · exact absurd (List.mem_take_iff_getElem.2 ⟨j,by omega,X⟩) H
            · subst h;exact absurd X.symm Y
            · exact h
          have u:=CM.1 (pL l) n j y z O;rw[X]at u;rcases I with I|⟨I,h6⟩ <;> rcases u with u|⟨u,h7⟩ <;> omega
    · rw[CU (by omega)]
      show b=-1;rcases Z with ⟨rfl,_⟩|⟨J,M,H,_⟩
      · rfl
      · exfalso
        rw[CA (by omega)]at H;exact H (iF.2 ⟨J,M⟩)
  rw[<- this];exact e
def bX (l:List aF):List Int:=(bw l).take 3
def gx (l:List aF)(i:Int):aF:=(l[i.toNat]?).getD ((0,0,0,false),0)
def dM (l:List aF)(T:List Int)(i:Int):aF:=bif decide (i∈T) then ((gx l i).1,(gx l i).2-1) else gx l i
def ea (l:List aF)(T:List Int)(n:Nat):List af:=((ct n).filter λi=>decide (i∈T)).map λi=>(gx l i).1
def fX (l:List aF)(T:List Int)(n:Nat):List aF:=(ct n).map (dM l T)
def dA (l:List aF)(T:List Int)(n:Nat):List aF:=(fX l T n).filter λx=>decide (x.2>0)
theorem cr {l:List aF}{i:Nat}(h:i<l.length):gx l (i:Int)=l[i]:=by
 unfold gx;rw[BE,BK h];rfl
theorem mT (n:Nat):ct (n+1)=ct n++[(n:Int)]:=by
 unfold ct;rw[List.range_succ,Cp];rfl
theorem vG (l:List aF)(T:List Int)(n:Nat):ea l T (n+1)=ea l T n++(bif decide ((n:Int)∈T) then [(gx l (n:Int)).1] else []):=by
 unfold ea;rw[mT,CD,Cp,BV];cases decide ((n:Int)∈T) <;> rfl
theorem vH (l:List aF)(T:List Int)(n:Nat):dA l T (n+1)=dA l T n++(bif decide ((dM l T (n:Int)).2>0) then [dM l T (n:Int)] else []):=by
 unfold dA fX;rw[mT,Cp,CD,Cu,BV];cases decide ((dM l T (n:Int)).2>0) <;> rfl
theorem xd (l:List aF)(T:List Int)(n:Nat):(ea l T n).length<=n:=by
 unfold ea;rw[BU];refine B6 (CL _ _) ?_;simp[ct]
theorem xe (l:List aF)(T:List Int)(n:Nat):(dA l T n).length<=n:=by
 unfold dA;refine B6 (CL _ _) ?_;simp[fX,ct]
theorem z7 (K:Nat)(l:List aF)(m:Int)(T:List Int)(O:l.length<=1048576)(H:cO l)(M:1048577<K) :
  Q42.l1 K (l,m,()) (dm T l.length,[],[],0)=some ((ea l T l.length,dA l T l.length,()),()):=by
 refine er (step:=λrec a=>Q42.s1 K (l,m,()) rec a) l.length (λi=>(dm T l.length,ea l T i,dA l T i,(i:Int))) (some ((ea l T l.length,dA l T l.length,()),())) ?_ ?_ (by omega)
 ·intro rec i r;simp only[Q42.s1];have u:i<(dm T l.length).length:=by rw[eW];exact r
  have J:=xd l T i;have X:=xe l T i;obtain⟨R,I⟩:=(H.1 l[i] (BC r)).2;rw[bh (by omega:(i:Int)<(BB l:Int)),ag r,ag u,ar i (by omega),BE,ag u,iG T r,vG,vH,cr r];simp only[cond_true,BA];cases z:decide ((i:Int)∈T) with
  |true =>
   have y:dM l T (i:Int)=(l[i].1,l[i].2-1):=by unfold dM;rw[z,cr r];rfl
   rw[y];simp only[cond_true];rw[szb _ _ _ (by omega) (by simp;omega),aJ (n:=l[i].2-1) (by omega) (by omega)];simp only[cond_true];cases decide (l[i].2-1>0) with
   |true =>
    simp only[cond_true];rw[szb _ _ _ (by omega) (by simp;omega)];rfl
   |false =>
    simp only[cond_false,BN]
  |false =>
   have y:dM l T (i:Int)=l[i]:=by unfold dM;rw[z,cr r];rfl
   rw[y];simp only[cond_false,BN];cases decide (l[i].2>0) with
   |true =>
    simp only[cond_true];rw[szb _ _ _ (by omega) (by simp;omega)];rfl
   |false =>
    simp only[cond_false,BN]
 ·intro rec;simp only[Q42.s1,aP];rfl
theorem AR (K:Nat)(l:List aF)(R:l.length<=1048576)(hC:cO l)(O:1048577<K):Q42.f K (l,3,())=some ((ea l (bX l) l.length,dA l (bX l) l.length,()),()):=by
 have u:∀ T,Q42.l1 K (l,3,()) (dm T l.length,[],[],0)=some ((ea l T l.length,dA l T l.length,()),()):=λT=>z7 K l 3 T R hC O
 have Z:∀ (d n k:Nat),n+d=3->d<k->ae (λrec a=>Q42.s0 K (l,3,()) (Q42.l1 K (l,3,())) rec a) k (dm ((bw l).take n) l.length,(n:Int))=some ((ea l (bX l) l.length,dA l (bX l) l.length,()),()):=by
  intro d;induction d with
  |zero =>
   intro n k hn hk;obtain⟨k,rfl⟩:∃ I,k=I+1:=⟨k-1,by omega⟩;have:n=3:=by omega
   subst this;exact u _
  |succ d ih =>
   intro n k hn hk;obtain⟨k,rfl⟩:∃ I,k=I+1:=⟨k-1,by omega⟩;have y:=ih (n+1) k (by omega) (by omega);show Q42.s0 K (l,3,()) (Q42.l1 K (l,3,())) (ae (λrec a=>Q42.s0 K (l,3,()) (Q42.l1 K (l,3,())) rec a) k) (dm ((bw l).take n) l.length,(n:Int))=_;generalize ae (λrec a=>Q42.s0 K (l,3,()) (Q42.l1 K (l,3,())) rec a) k=REC at y ⊢;simp only[Q42.s0];rw[decide_eq_true (by omega:(n:Int)<3),AQ K l n R O,ar n (by omega)];simp only[cond_true,BA];by_cases r:n<(bw l).length
   ·rw[BK r];have M:=iF.1 (BC r);have H:(bw l).take (n+1)=(bw l).take n++[(bw l)[n]]:=CO r;rw[H]at y;simp only[DH];generalize (bw l)[n]=v at M y ⊢;obtain⟨b,rfl⟩:=BF M.1;have J:b<l.length:=by omega
    have z:b<(dm ((bw l).take n) l.length).length:=by rw[eW];exact J
    rw[decide_eq_false (by omega:¬ (b:Int)<0),ag z,BE,ag z,xc J];exact y
   ·rw[CU (by omega)];show Q42.l1 K (l,3,()) (dm ((bw l).take n) l.length,[],[],0)=_;rw[u,show (bw l).take n=bX l by unfold bX;rw[CA (by omega),CA (by omega)]]
 simp only[Q42.f,Q42.pre];rw[decide_eq_true (by omega:(0:Int)<=(BB l:Int)),show decide ((BB l:Int)*(1:Nat)<=an)=true from decide_eq_true (by simp only[an];omega),BE];simp only[decide_true,CT,cond_true];have Y:CZ l.length false=dm ((bw l).take 0) l.length:=by
  refine Cb (by rw[Cl,eW]) λi h1 X=>?_
  rw[eW]at X;rw[List.getElem_replicate,iG _ X];simp
 have:=Z 3 0 K (by omega) (by omega);rw[<- Y]at this;exact this
theorem rU {a b:List Int}(u:a.Nodup)(r:b.Nodup)(h:∀ x,x∈a<->x∈b):a.Perm b:=by
 rw[List.perm_iff_count];intro x;rw[u.count,r.count];simp[h]
def cW (l:List aF):List Int:=(ct l.length).filter λi=>decide (i∈bX l)
theorem uh (l:List aF):cS ltZ [] (bX l)=cW l:=by
 have u:(bX l).Nodup:=(ug l).sublist (List.take_sublist _ _);have r:((ct l.length).filter λi=>decide (i∈bX l)).Nodup:=((jc l.length).imp (λh=>by omega:∀ {a b:Int},a<b->a≠b)).filter _;refine oh ltZ ?_ (mS ltZ (λa b c u r=>by
  unfold ltZ at u r ⊢;rw[decide_eq_false_iff_not]at u r ⊢;omega) (λa b h=>by
  unfold ltZ at h ⊢;rw[decide_eq_true_eq]at h;rw[decide_eq_false_iff_not];omega) (bX l) [] List.Pairwise.nil) ?_
 ·refine (by simpa using l9 ltZ (bX l) []:(cS ltZ [] (bX l)).Perm (bX l)).trans (rU u r λx=>?_);rw[cW,BH,decide_eq_true_eq,il];exact⟨λh=>⟨iF.1 (C7 h),h⟩,λh=>h.2⟩
 ·exact ((jc l.length).filter _).imp λh=>by unfold ltZ;exact decide_eq_true h
theorem xf {l:List aF}{i:Int}:i∈cW l<->i∈bX l:=by
 unfold cW;rw[BH,decide_eq_true_eq,il];exact⟨λh=>h.2,λh=>⟨iF.1 (C7 h),h⟩⟩
theorem xg (l:List aF):(cW l).Pairwise (·<·):=(jc l.length).filter _
theorem eA (l:List aF)(T:List Int)(n:Nat):(fX l T n).length=n:=by simp[fX,ct]
theorem fa (l:List aF)(T:List Int){n i:Nat}(h:i<n):(fX l T n)[i]'(by rw[eA];exact h)=dM l T (i:Int):=by
 simp[fX,ct]
theorem yD (l:List aF):fX l [] l.length=l:=by
 refine Cb (eA _ _ _) λi u r=>?_
 rw[fa l [] r];unfold dM;rw[cr r];simp
theorem yE {l:List aF}{T:List Int}{b:Nat}(y:b<l.length):(fX l T l.length).set b ((gx l (b:Int)).1,(gx l (b:Int)).2-1)=fX l (T++[(b:Int)]) l.length:=by
 refine Cb (by rw[C4,eA,eA]) λi u r=>?_
 rw[eA]at r;rw[DG,fa _ _ r];by_cases h:b=i
 ·subst h;rw[if_pos rfl,fa _ _ r];unfold dM;rw[decide_eq_true (by simp:(b:Int)∈T++[(b:Int)])];rfl
 ·rw[if_neg h,fa _ _ r];unfold dM;have:((i:Int)∈T++[(b:Int)])<->(i:Int)∈T:=by
   rw[CC,B8];exact⟨λu=>u.resolve_right (by omega),.inl⟩
  rw[show decide ((i:Int)∈T++[(b:Int)])=decide ((i:Int)∈T) by rw[decide_eq_decide];exact this]
theorem vI {l:List aF}{T T':List Int}(h:∀ i,i∈T<->i∈T')(n:Nat):fX l T n=fX l T' n:=by
 unfold fX;refine List.map_congr_left λi _=>?_
 unfold dM;rw[show decide (i∈T)=decide (i∈T') by rw[decide_eq_decide];exact h i]
theorem ui (K:Nat)(x:ab Q204.ps)(l:List aF)(hl:l.length<=1048576)(Y:cO l)(hK:1048577<K) :
  Q204.l1 K x (l,cW l,[],(BB (cW l):Int),0)=some ((ea l (bX l) l.length,dA l (bX l) l.length,()),()):=by
 have a0:(cW l).length<=l.length:=by
  refine B6 (CL _ _) ?_;simp[ct]
 refine Cw ?_ (er (step:=λrec a=>Q204.s1 K x rec a) (cW l).length (λi=>(fX l ((cW l).take i) l.length,cW l,((cW l).take i).map (λj=>(gx l j).1),(BB (cW l):Int),(i:Int))) (some ((ea l (bX l) l.length,dA l (bX l) l.length,()),())) ?_ ?_ (by omega:(cW l).length<K))
 ·simp only[List.take_zero,DQ,yD];rfl
 ·intro rec i r;simp only[Q204.s1];have X:=il.1 ((BH.1 (BC r)).1);have u:(cW l)[i]∉(cW l).take i:=λh=>by
   obtain⟨j,hj,e⟩:=BJ h;rw[BW]at hj;rw[Cf]at e;have:=CM.1 (xg l) j i (by omega) r (by omega);omega
  have M:(cW l).take (i+1)=(cW l).take i++[(cW l)[i]]:=CO r;rw[M,Cp];have H:(((cW l).take i).map (λj=>(gx l j).1)).length<=1048576:=by rw[BU,BW];omega
  rw[bh (by omega:(i:Int)<(BB (cW l):Int)),ag r,ar i (by omega),BE,ag r];simp only[cond_true,BA];generalize (cW l)[i]=v at X u ⊢;obtain⟨b,rfl⟩:=BF X.1;have z:b<l.length:=by omega
  have I:b<(fX l ((cW l).take i) l.length).length:=by rw[eA];exact z
  have Z:dM l ((cW l).take i) (b:Int)=l[b]:=by
   unfold dM;rw[decide_eq_false u,cr z];rfl
  obtain⟨c0,c1⟩:=(Y.1 l[b] (BC z)).2;rw[ag I,BE,ag I,fa l _ z,Z];simp only[BA];rw[szb _ _ _ (by omega) (by simp only[BU,BG,BM]at H ⊢;omega),aJ (n:=l[b].2-1) (by omega) (by omega),<- yE z,cr z];simp only[cond_true,Cu,DQ,cr z]
 ·intro rec;simp only[Q204.s1,aP,cond_false,CR,Q10.f];have e:∀ J:List aF,J.length<=1048576->gJ t3 J (λR=>(Q203.f K (R.1,())).map λy=>y.1.1)=some ((J.filter (λx=>!(x.2==0)),()),()):=λJ O=>qY (e:=t3) (λx=>x.2==0) O (λx _=>rfl)
  rw[e _ (by rw[eA];exact hl)];simp only[BA];rw[vI (l:=l) (T:=cW l) (T':=bX l) (λi=>xf) l.length];have ef:(fX l (bX l) l.length).filter (λx=>!(x.2==0))=dA l (bX l) l.length:=by
   unfold dA;refine Ct λx hx=>?_
   have h0:0<=x.2:=by
    obtain⟨i,r,rfl⟩:=BJ hx;rw[eA]at r;rw[fa l _ r];obtain⟨c0,c1⟩:=(Y.1 l[i] (BC r)).2;unfold dM;rw[cr r];cases decide ((i:Int)∈bX l) with
    |true=>show 0<=l[i].2-1;omega
    |false=>show 0<=l[i].2;omega
   rw[CS];simp;omega
  rw[ef];rfl
theorem vJ (K:Nat)(l:List aF)(hl:l.length<=8)(I:cO l)(H:1048577<K):Q204.f K (l,3,())=some ((ea l (bX l) l.length,dA l (bX l) l.length,()),()):=by
 simp only[Q204.f,Q204.pre];obtain⟨b1,e1,e2⟩:=oS K l (by omega) H;have Y:=e2.2 I;subst Y;rw[e1];simp only[BA,BI,cond_false];rw[decide_eq_true (by omega:(0:Int)<=(BB l:Int)),show decide ((BB l:Int)*(8:Nat)<=an)=true from decide_eq_true (by simp only[an];omega),BE];simp only[decide_true,CT,cond_true];have M:(ct l.length).length=l.length:=by simp[ct]
 have hS:∀ i,i<=l.length->(ct i++CZ (l.length-i) (0:Int)).length=l.length:=λi hi=>by simp[ct];omega
 refine Cw ?_ (er (step:=λrec a=>Q204.s0 K (l,3,()) (Q204.l1 K (l,3,())) rec a) l.length (λi=>(ct i++CZ (l.length-i) (0:Int),(i:Int))) (some ((ea l (bX l) l.length,dA l (bX l) l.length,()),())) ?_ ?_ (by omega:l.length<K))
 ·rfl
 ·intro rec i hi;simp only[Q204.s0];have u:i<(ct i++CZ (l.length-i) (0:Int)).length:=by rw[hS i (by omega)];exact hi
  rw[decide_eq_true (by rw[Cl];show (i:Int)<((BD (BB l:Int):Nat):Int);omega),ag u,ar i (by omega),BE,ag u];simp only[cond_true,BA];have e:(ct i++CZ (l.length-i) (0:Int)).set i (i:Int)=ct (i+1)++CZ (l.length-(i+1)) (0:Int):=by
   obtain⟨m,hm⟩:∃ m,l.length-i=m+1:=⟨l.length-i-1,by omega⟩;have O:(ct i).length=i:=by simp[ct]
   rw[hm,show l.length-(i+1)=m by omega,mT,C5 _ _ (by omega),O,Nat.sub_self,List.replicate_succ,List.set_cons_zero,CH];rfl
  rw[e]
 ·intro rec;simp only[Q204.s0];rw[decide_eq_false (by rw[Cl];show ¬ (BB l:Int)<((BD (BB l:Int):Nat):Int);omega),Nat.sub_self,List.replicate_zero,BN];simp only[cond_false,Q3.f];have r:=yA K (ct l.length) (λZ=>(Q193.f K (Z.1,Z.2.1,l,())).map λy=>y.1.1) (ltL l) (λi=>0<=i/\i<l.length) (λy X=>il.1 X) (λy z X hz=>by
   obtain⟨a,rfl⟩:=BF X.1;obtain⟨b,rfl⟩:=BF hz.1;have R:a<l.length:=by omega
   have J:b<l.length:=by omega
   obtain⟨c0,c1⟩:=(I.1 l[a] (BC R)).2;obtain⟨c2,c3⟩:=(I.1 l[b] (BC J)).2;refine⟨l[b].2-l[a].2,?_,?_⟩
   ·simp only[Q193.f];rw[ag R,ag J];simp only[BA];rw[aJ (n:=l[b].2-l[a].2) (by omega) (by omega)];rfl
   ·unfold ltL;rw[dL R,dL J,decide_eq_decide];omega) (by rw[M];omega) H
  rw[r];simp only[BA];rw[dX (by omega)];simp only[BA];rw[show Q189.f K (cS (ltL l) [] (ct l.length),3,())=some ((bX l,()),()) from zP K (bw l) 3 (by rw[xb];omega)];simp only[BA];rw[yC K (bX l) (B6 (Cd _ _) (by omega)) H,uh];simp only[BA];exact ui K (l,3,()) l (by omega) I H
theorem AS {a b:Int}(y:0<=a)(r:a<4611686018427387904)(u:0<=b)(z:b<4611686018427387904):0<=qn .i64 a b:=by
 obtain⟨m,rfl⟩:=BF y;obtain⟨n,rfl⟩:=BF u;have h:(BitVec.ofInt 64 (m:Int) ^^^ BitVec.ofInt 64 (n:Int)).toNat=m ^^^ n:=by
  rw[BitVec.toNat_xor,BitVec.toNat_ofInt,BitVec.toNat_ofInt];congr 1
  ·omega
  ·omega
 have H:m ^^^ n<2 ^ 62:=Nat.xor_lt_two_pow (by omega) (by omega);show 0<=IntKind.i64.wrap (((BitVec.ofInt 64 (m:Int) ^^^ BitVec.ofInt 64 (n:Int)).toNat:Nat):Int);rw[h,DI];omega
structure fF (b:List Int):Prop where
 byte:∀ y∈b,0<=y/\y<=255
 len:b.length<=2000
theorem z8 (K:Nat)(b:List Int)(q:Nat)(n:Int)(h:fF b)(hq:q<=100000)(hn:1<=n):∃ v:Int,Q12.f K ((b,(q:Int)),n,())=some ((v,()),((b,((q+1:Nat):Int)),()))/\0<=v/\v<n:=by
 have w1:wr .i64 ((q:Int)+1)=((q+1:Nat):Int):=ar q (by omega);have w2:wr .i64 (((q+1:Nat):Int)-1)=(q:Int):=by rw[aJ (n:=((q+1:Nat):Int)-1) (by omega) (by omega)];omega
 have hl:=h.len;have J:decide (n=0)=false:=decide_eq_false (by omega);have r:∀ x:Int,0<=x->0<=Ca x n/\Ca x n<n:=λx u=>⟨DM _ u,DB _ (by omega)⟩
 simp only[Q12.f];rw[decide_eq_false (by omega:¬ n<1)];simp only[cond_false,w1,w2,J];by_cases M:b.length=0
 ·rw[show ((b.length:Int)==0)=true by simpa using M];exact⟨0,rfl,by omega,by omega⟩
 ·rw[show ((b.length:Int)==0)=false by simpa using M];simp only[cond_false];by_cases H:q<b.length
  ·rw[decide_eq_true (by omega:(q:Int)<(b.length:Int)),ag H];simp only[cond_true,BA];obtain⟨I,Y⟩:=h.byte b[q] (BC H);rw[aJ (n:=b[q]) (by omega) (by omega)];exact⟨_,rfl,r _ I⟩
  ·rw[decide_eq_false (by omega:¬ (q:Int)<(b.length:Int)),decide_eq_false (by omega:¬ (b.length:Int)=0)];simp only[cond_false];have t1:Ca (q:Int) (b.length:Int)=((q % b.length:Nat):Int):=by rw[Cr (by omega)];rfl
   have t2:wr .i64 (wr .i64 ((q:Int)*7)+3)=((q*7+3:Nat):Int):=by rw[aJ (n:=(q:Int)*7) (by omega) (by omega),aJ (n:=(q:Int)*7+3) (by omega) (by omega)];omega
   have t3:Ca (((q*7+3:Nat)):Int) (b.length:Int)=(((q*7+3) % b.length:Nat):Int):=by rw[Cr (by omega)];rfl
   have R:q % b.length<b.length:=Nat.mod_lt _ (by omega);have O:(q*7+3) % b.length<b.length:=Nat.mod_lt _ (by omega);rw[t1,t2,t3,ag R,ag O];simp only[BA];obtain⟨I,Y⟩:=h.byte b[q % b.length] (BC R);obtain⟨z0,z1⟩:=h.byte b[(q*7+3) % b.length] (BC O);generalize b[q % b.length]=y at I Y ⊢;generalize b[(q*7+3) % b.length]=z at z0 z1 ⊢;have Z:0<=Ch (q:Int) (b.length:Int)/\Ch (q:Int) (b.length:Int)<=q:=⟨DN (by omega) (by omega),DJ _ (by omega)⟩;generalize Ch (q:Int) (b.length:Int)=e at Z ⊢;have x1:wr .i64 (wr .i64 (wr .i64 (wr .i64 (wr .i64 y*131)+wr .i64 (wr .i64 z*1117))+wr .i64 ((q:Int)*29))+wr .i64 (wr .i64 e*53))=y*131+z*1117+q*29+e*53:=by
    rw[aJ (n:=y) (by omega) (by omega),aJ (n:=z) (by omega) (by omega),aJ (n:=e) (by omega) (by omega),aJ (n:=y*131) (by omega) (by omega),aJ (n:=z*1117) (by omega) (by omega),aJ (n:=(q:Int)*29) (by omega) (by omega),aJ (n:=e*53) (by omega) (by omega),
     aJ (n:=y*131+z*1117) (by omega) (by omega),aJ (n:=y*131+z*1117+(q:Int)*29) (by omega) (by omega),aJ (n:=y*131+z*1117+(q:Int)*29+e*53) (by omega) (by omega)]
   rw[x1];have u:0<=y*131+z*1117+q*29+e*53/\y*131+z*1117+q*29+e*53<=10000000:=by omega
   generalize y*131+z*1117+(q:Int)*29+e*53=X at u ⊢;have d2:0<=Ch X 64/\Ch X 64<=X:=⟨DN u.1 (by omega),DJ _ u.1⟩;rw[aJ (n:=Ch X 64) (by omega) (by omega)];exact⟨_,rfl,r _ (AS u.1 (by omega) d2.1 (by omega))⟩
theorem vK (K:Nat)(t:List af)(f:af)(ht:t.length<=1048576)(O:Asc (λg:af=>g.1) t)(Z:1048577<K):Q34.f K (t,f,())=some (((bO t f).1,(bO t f).2,()),()):=by
 simp only[Q34.f,Q34.pre];obtain⟨o,z,I⟩:=fk K t f.1 ht Z;rw[I];simp only[BA];cases z with
 |at_ i r e =>
  simp only;rw[jb O r e,decide_eq_true (by omega:((i:Nat):Int)>=0),ag r];simp only[cond_true,BA,BE,ag r];rw[show Q26.f K (f,t[i],())=_ from pG K f t[i]];simp only[BA];by_cases z:bB f t[i]
  ·rw[decide_eq_true z,if_pos z];simp only[BI,cond_false];rw[szb _ _ _ (by omega) (by show (BB ([]:List af))+t.length<=_;simp;omega)];simp only[cond_true,BO,ag r,BA,BE];rw[ii (k:=λg:af=>g.1) O r e]
  ·rw[decide_eq_false z,if_neg z];rfl
 |no h =>
  simp only;rw[gw h,decide_eq_false (by omega:¬ (-1:Int)>=0)];simp only[cond_false];have J:∀ m:Nat,m<=t.length->(bif decide ((0:Int)<=0)&&decide ((0:Int)<=(m:Int))&&decide ((m:Int)<=(BB t:Int))&&true then (bif decide ((BB ([]:List af)+BB ((t.take (BD (m:Int))).drop (BD 0)))*32<=an) then (bif decide ((BB ([]++((t.take (BD (m:Int))).drop (BD 0)))+BB ([f]))*32<=an) then (bif decide ((0:Int)<=(m:Int))&&decide ((m:Int)<=(BB t:Int))&&decide ((BB t:Int)<=(BB t:Int))&&true then (bif decide ((BB (([]++((t.take (BD (m:Int))).drop (BD 0)))++([f]))+BB ((t.take (BD (BB t:Int))).drop (BD (m:Int))))*32<=an) then (some (((([]++((t.take (BD (m:Int))).drop (BD 0)))++([f]))++((t.take (BD (BB t:Int))).drop (BD (m:Int))),true,()),())) else none) else none) else none) else none) else (none:Option ((List af×Bool×Unit)×Unit)))=some ((t.take m++[f]++t.drop m,true,()),()):=by
   intro m X;rw[decide_eq_true (by omega:(0:Int)<=0),decide_eq_true (by omega:(0:Int)<=(m:Int)),decide_eq_true (by omega:(m:Int)<=(BB t:Int)),decide_eq_true (by omega:(BB t:Int)<=(BB t:Int))];simp only[BE,CX,B3,BO,CR,CT,cond_true];have I:(t.take m).length=m:=by rw[BW];omega
   have H:(t.drop m).length=t.length-m:=B9;rw[szb _ _ _ (by omega) (by simp only[BM];omega),szb _ _ _ (by omega) (by simp only[BG,BM];omega),szb _ _ _ (by omega) (by simp only[BP,BG,BM];omega)];rfl
  have:=co (step:=λrec a=>Q34.s0 K (t,f,()) rec a) t.length (λi=>(i:Int)) (λj=>∃ h:j<t.length,¬ t[j].1<f.1) (some ((t.take t.length++[f]++t.drop t.length,true,()),())) (λj=>some ((t.take j++[f]++t.drop j,true,()),())) ?_ ?_ t.length K 0 (by omega) (by omega)
  ·have M:∀ m,m<=t.length->(∀ i,(r:i<t.length)->i<m->t[i].1<f.1)->(∀ i,(r:i<t.length)->m<=i->f.1<t[i].1)->t.take m++[f]++t.drop m=bq (λg=>g.1) f t:=λm X lo r=>gv (k:=λg:af=>g.1) X lo r
   rcases this with ⟨I,H⟩|⟨j,_,I,⟨h3,h4⟩,h5,H⟩
   ·rw[M t.length (BR _) (λi r _=>by
     have:=I i (BX _) r;exact CW.1 λh=>this ⟨r,h⟩) (λi r h=>by omega)]at H
    exact H
   ·rw[M j (by omega) (λi r y=>by
     have:=h5 i (BX _) y;exact CW.1 λh=>this ⟨r,h⟩) (λi r y=>by
     have Y:=h t[i] (BC r);rcases CE y with R|R
     ·have:=cB.1 O j i h3 r R;omega
     ·subst R;omega)]at H
    exact H
  ·intro rec i r;simp only[Q34.s0];rw[bh (by omega:(i:Int)<(BB t:Int)),ag r,ar i (by omega)];simp only[cond_true,BA];rw[show idx t ((BD (i:Int):Nat):Int)=some t[i] by rw[BE];exact ag r];simp only[BA];by_cases u:t[i].1<f.1
   ·exact .inl ⟨λ⟨_,h⟩=>h u,by rw[decide_eq_true u];rfl⟩
   ·exact .inr ⟨⟨r,u⟩,by rw[decide_eq_false u];exact J i (by omega)⟩
  ·intro rec;simp only[Q34.s0,aP,cond_false];exact J t.length (BR _)
def eX (t:List af)(fs:List af):List af:=fs.foldl (λt f=>(bO t f).1) t
theorem qZ:∀ {fs t:List af},az t->(∀ f∈fs,bf f)->az (eX t fs)
 |[],_,h,_=>h
 |f::fs,t,h,r=>qZ (fs:=fs) (kh h (r f (by simp))) (λg u=>r g (by simp[u]))
theorem bT {t:List af}(h:az t):t.length<=1048576:=B6 (iN h.2 (λg r=>(h.1 g r).1)) (by decide)
theorem oi {R:Type}(a fs:List af)(M:az a)(O:∀ f∈fs,bf f)(u:List af->Option R){step:(List af×Int->Option R)->List af×Int->Option R}
  (h:∀ (rec:List af×Int->Option R) (t:List af) (i:Nat) (I:i<fs.length),az t->step rec (t,(i:Int))=rec ((bO t fs[i]).1,((i+1:Nat):Int)))
  (y:∀ (rec:List af×Int->Option R) (t:List af),step rec (t,(fs.length:Int))=u t) {k:Nat} (z:fs.length<k):ae step k (a,0)=u (eX a fs):=by
 have:∀ (d i k:Nat) (t:List af),i+d=fs.length->d<k->az t->ae step k (t,(i:Int))=u (eX t (fs.drop i)):=by
  intro d;induction d with
  |zero =>
   intro i k t I z _;obtain⟨k,rfl⟩:∃ H,k=H+1:=⟨k-1,by omega⟩;have:i=fs.length:=by omega
   subst this;show step (ae step k) _=_;rw[y,Cm];rfl
  |succ d X =>
   intro i k t I z J;obtain⟨k,rfl⟩:∃ H,k=H+1:=⟨k-1,by omega⟩;have r:i<fs.length:=by omega
   show step (ae step k) _=_;rw[h _ _ _ r J,BL r];exact X (i+1) k _ (by omega) (by omega) (kh J (O _ (BC r)))
 have:=this fs.length 0 k a (by omega) z M
 rwa [B3]at this
theorem AT (K:Nat)(a b:List af)(r:az a)(u:az b)(y:1048577<K):Q171.f K (a,b,())=some ((eX a b,()),()):=by
 simp only[Q171.f,Q171.pre,Q1.f];obtain⟨b1,J,M⟩:=gr K a (bT r) y;obtain⟨Z,R,X⟩:=gr K b (bT u) y;have Y:=M.2 r;have H:=X.2 u;subst Y H;have O:=bT u;rw[J,R];simp only[BA,BI,cond_false];rw[dX (by have:=bT r;omega)];simp only[BA];refine oi a b r u.1 (step:=λrec x=>Q171.s0 K (a,b,()) rec x) (λt=>some ((t,()),())) ?_ ?_ (by omega)
 ·intro rec t i I z;simp only[Q171.s0];rw[bh (by omega:(i:Int)<(BB b:Int)),ag I,ar i (by omega)];simp only[cond_true,BA];rw[vB K t _ (bT z) z.2 y];rfl
 ·intro rec t;simp only[Q171.s0,aP];rfl
theorem xh (f:af):¬ bB f f:=by
 unfold bB;simp
theorem kl (K:Nat)(xs:List af)(z:xs.length<=1048576)(y:1048577<K):Q223.f K (xs,xs,())=rb true:=by
 have u:Q223.l0 K (xs,xs,()) 0=rb true:=by
  refine er (step:=λrec a=>Q223.s0 K (xs,xs,()) rec a) xs.length (λi=>(i:Int)) (rb true) ?_ ?_ (by omega)
  ·intro rec i r;simp only[Q223.s0];rw[decide_eq_true (by omega:(i:Int)<(BB xs:Int)),ag r,ar i (by omega)];simp only[cond_true,BA];rw[show Ty.eqv t2 xs[i] xs[i]=decide (xs[i]=xs[i]) from fI _ _,decide_eq_true rfl];rfl
  ·intro rec;simp only[Q223.s0,aP];rfl
 simp only[Q223.f,Q223.pre,bne_self_eq_false,cond_false];exact u
theorem oY {l:List aF}(O:cO l)(T:List Int):az (ea l T l.length):=by
 unfold ea;constructor
 ·intro f hf;obtain⟨i,I,rfl⟩:=BZ.1 hf;obtain⟨R,h1⟩:=il.1 (BH.1 I).1;obtain⟨b,rfl⟩:=BF R;have J:b<l.length:=by omega
  rw[cr J];exact (O.1 l[b] (BC J)).1
 ·unfold Asc;rw[B7];have Z:((ct l.length).filter λi=>decide (i∈T)).Pairwise λ (a b:Int)=>(0<=a/\a<l.length)/\(0<=b/\b<l.length)/\a<b:=by
   refine CY _ ?_;have:∀ u:List Int,(∀ x∈u,0<=x/\x<l.length)->u.Pairwise (·<·)->u.Pairwise λ (a b:Int)=>(0<=a/\a<l.length)/\(0<=b/\b<l.length)/\a<b:=by
    intro u z r;induction u with
    |nil=>exact List.Pairwise.nil
    |cons x u ih =>
     rw[BQ]at r ⊢;exact⟨λy H=>⟨z x (by simp),z y (by simp[H]),r.1 y H⟩,ih (λy H=>z y (by simp[H])) r.2⟩
   exact this _ (λx z=>il.1 z) (jc _)
  refine Z.imp λ {a b} h=>?_
  obtain⟨⟨a0,a1⟩,⟨X,b1⟩,Y⟩:=h;obtain⟨i,rfl⟩:=BF a0;obtain⟨j,rfl⟩:=BF X;have I:i<l.length:=by omega
  have M:j<l.length:=by omega
  rw[cr I,cr M];exact cB.1 O.2 i j I M (by omega)
theorem yF {l:List aF}(J:cO l)(T:List Int):cO (dA l T l.length):=by
 have r:∀ i (h:i<l.length),(dM l T (i:Int)).1=l[i].1:=λi h=>by
  unfold dM;rw[cr h];cases decide ((i:Int)∈T) <;> rfl
 have z:∀ i (h:i<l.length),(dM l T (i:Int)).2<=l[i].2:=λi h=>by
  unfold dM;rw[cr h];cases decide ((i:Int)∈T) with
  |true=>show l[i].2-1<=l[i].2;omega
  |false=>exact CJ _
 unfold dA;constructor
 ·intro x M;obtain⟨O,I⟩:=BH.1 M;have I:x.2>0:=by simpa using I
  obtain⟨i,u,rfl⟩:=BJ O;rw[eA]at u;rw[fa l T u]at I ⊢;have:=(J.1 l[i] (BC u));refine⟨by rw[r i u];exact this.1,?_,?_⟩
  ·omega
  ·have R:=z i u;have X:=this.2.2;omega
 ·unfold Asc;refine CY _ ?_;rw[CM];intro i j u y H;rw[eA]at u y;show (fX l T l.length)[i].1.1<(fX l T l.length)[j].1.1;rw[fa l T u,fa l T y,r i u,r j y];exact cB.1 J.2 i j u y H
def gW (n:aa)(to:Int):List af :=
 bif (aQ (aa.table n) to).2.2.1==2 then (bO (ea (aa.cast n) (bX (aa.cast n)) (aa.cast n).length) (aQ (aa.table n) to)).1 else ea (aa.cast n) (bX (aa.cast n)) (aa.cast n).length
def iP (n:aa):aa:=fV n (aa.table n) (dA (aa.cast n) (bX (aa.cast n)) (aa.cast n).length) (aa.doubts n)
theorem nR {n:aa}(h:cq n)(to:Int):az (gW n to):=by
 have y:=oY h.cast (bX (aa.cast n));unfold gW;cases u:(aQ (aa.table n) to).2.2.1==2 with
 |false=>exact y
 |true =>
  refine kh y (ei h.table ?_).1;by_cases r:∃ f∈aa.table n,f.1=to
  ·exact r
  ·rw[jy (λg z e=>r ⟨g,z,e⟩)]at u;simp at u
theorem clen {n:aa}(h:cq n):(aa.cast n).length<=8:=iN h.cast.2 (λx r=>(h.cast.1 x r).1.1)
theorem uQ (K:Nat)(n:aa)(to:Int)(h:cq n)(r:1048577<K):Q95.f K (n,to,())=some ((gW n to,iP n,()),()):=by
 have M:=clen h;simp only[Q95.f,zcp8];rw[show Q42.f K (n.2.2.2.2.2.2.2.2.2.1,3,())=_ from AR K (aa.cast n) (by omega) h.cast r];simp only[BA];obtain⟨o,J,I⟩:=fk K (aa.table n) to h.lt r;rw[show Q25.f K (n.2.2.2.2.2.2.2.2.1,to,())=_ from I];simp only[BA,gW];have z:=oY h.cast (bX (aa.cast n));cases J with
 |no u =>
  rw[jy u];rfl
 |at_ j H e =>
  have y:aQ (aa.table n) to=(aa.table n)[j]:=by rw[<- e];exact jx h.table.2 (BC H)
  rw[y];simp only;rw[decide_eq_true (by omega:((j:Nat):Int)>=0),show idx n.2.2.2.2.2.2.2.2.1 ((j:Nat):Int)=some (aa.table n)[j] from ag H];simp only[cond_true,BA];cases (aa.table n)[j].2.2.1==2 with
  |false=>rfl
  |true =>
   simp only[cond_true];rw[vK K _ _ (bT z) z.2 r];rfl
theorem vL (K:Nat)(n:aa)(to:Int)(h:cq n)(r:1048577<K):Q205.f K (n,to,())=some ((gW n to,()),(iP n,())):=by
 simp only[Q205.f,zcp8];rw[show Q204.f K (n.2.2.2.2.2.2.2.2.2.1,3,())=_ from vJ K (aa.cast n) (clen h) h.cast r];simp only[BA];obtain⟨b,y⟩:=kj K (aa.table n) to h.table h.lt r;rw[show Q139.f K (n.2.2.2.2.2.2.2.2.1,to,())=_ from y];simp only[BA,gW];have u:=oY h.cast (bX (aa.cast n));cases (aQ (aa.table n) to).2.2.1==2 with
 |false=>rfl
 |true =>
  simp only[cond_true];rw[vB K _ _ (bT u) u.2 r];rfl
def cJ (n:aa)(k:Nat):Int:=Ca (n.2.2.2.2.2.2.2.1+(k:Int)) 8
def hH (n:aa)(k:Nat):Prop:=cJ n k≠n.1/\ez (aQ (aa.table n) (cJ n k))=true
def askN (n:aa)(to:Int):aa :=
 let m:=iP n
 (m.1,m.2.1,m.2.2.1,m.2.2.2.1,m.2.2.2.2.1,m.2.2.2.2.2.1,m.2.2.2.2.2.2.1+1,to+1,m.2.2.2.2.2.2.2.2.1,m.2.2.2.2.2.2.2.2.2.1,(to,m.2.2.2.2.2.1,m.2.2.2.2.2.2.1+1,false),m.2.2.2.2.2.2.2.2.2.2.2)
def pingW (n:aa)(to:Int):aj:=(1,1,n.1,to,n.2.2.2.2.2.2.1+1,n.1,aa.coord n,gW n to)
theorem z9 (K:Nat)(n:aa)(h:cq n)(Z:0<=n.2.2.2.2.2.2.2.1)(O:n.2.2.2.2.2.2.2.1<=8)(Y:1048577<K) :
  ∃ to:Int,Q96.f K (n,())=some ((to,()),())/\((to=-1/\∀ k,k<8->¬ hH n k)\/∃ k,k<8/\hH n k/\(∀ j,j<k->¬ hH n j)/\to=cJ n k):=by
 have u:∀ k:Nat,k<8->wr .i64 (n.2.2.2.2.2.2.2.1+(k:Int))=n.2.2.2.2.2.2.2.1+(k:Int):=λk M=>aJ (by omega) (by omega)
 have:=co (step:=λrec a=>Q96.s0 K (n,()) rec a) 8 (λi=>(i:Int)) (hH n) (some ((-1,()),())) (λj=>some ((cJ n j,()),())) ?_ ?_ 8 K 0 (by omega) (by omega)
 ·rcases this with ⟨y,J⟩|⟨j,_,y,h3,h4,J⟩
  ·exact⟨-1,J,.inl ⟨rfl,λk M=>y k (BX _) M⟩⟩
  ·exact⟨_,J,.inr ⟨j,y,h3,λm R=>h4 m (BX _) R,rfl⟩⟩
 ·intro rec i X;simp only[Q96.s0];rw[decide_eq_true (by omega:(i:Int)<=7),u i X,ar i (by omega)];simp only[cond_true];show (¬ hH n i/\(bif cJ n i != n.1 then ((Q92.f K (aa.table n,cJ n i,())).bind λI=>bif I.1.1 then (some ((cJ n i,()),())) else (rec ((i+1:Nat):Int))) else (rec ((i+1:Nat):Int)))=rec ((i+1:Nat):Int))\/(hH n i/\(bif cJ n i != n.1 then ((Q92.f K (aa.table n,cJ n i,())).bind λI=>bif I.1.1 then (some ((cJ n i,()),())) else (rec ((i+1:Nat):Int))) else (rec ((i+1:Nat):Int)))=some ((cJ n i,()),()));rw[sP K (aa.table n) (cJ n i) h.table h.lt Y];by_cases r:cJ n i=n.1
  ·exact .inl ⟨λz=>z.1 r,by rw[show (cJ n i != n.1)=false by simpa using r];rfl⟩
  ·rw[show (cJ n i != n.1)=true by simpa using r];cases H:ez (aQ (aa.table n) (cJ n i)) with
   |true=>exact .inr ⟨⟨r,H⟩,rfl⟩
   |false=>exact .inl ⟨λz=>(by rw[z.2]at H;cases H),rfl⟩
 ·intro rec;simp only[Q96.s0];rfl
abbrev lA:=Int×ByteArray×Bool
abbrev bR:=List aa×List lA×List Int×List af
abbrev bR.radio (w:bR):List lA:=w.2.1
abbrev bR.sides (w:bR):List Int:=w.2.2.1
abbrev bR.born (w:bR):List af:=w.2.2.2
theorem jd {n:Int}(h:InP n 0 7):ak n=n / 4:=by
 obtain⟨r,u⟩:=h;unfold ak;rw[CB r,aJ (by omega) (by omega)]
theorem Aa {α:Type}{k:α->Int}{xs:List α}(h:Asc k xs):∀ i (r:i<xs.length),k (xs[0]'(by omega))+i<=k xs[i]:=by
 rw[gL]at h;intro i;induction i with
 |zero=>intro r;simp
 |succ i y =>
  intro r;have z:=y (by omega);have u:=h (i+1) r (by omega);simp only[Nat.add_sub_cancel]at u;omega
theorem uj {t:List af}{s:Int}(u:az t)(z:b8 t s):t.length<=4:=by
 cases h:t.length with
 |zero=>omega
 |succ m =>
  have r:m<t.length:=by omega
  have y:0<t.length:=by omega
  have O:=Aa u.2 m r;have H:=z _ (BC r);have M:=z _ (BC y);have J:=(u.1 _ (BC r)).1;have I:=(u.1 _ (BC y)).1;rw[jd J]at H;rw[jd I]at M;omega
theorem sY {z:Int}{l:List bY}(u:InP z 0 7)(h:c8 z l):l=[]\/∃ x,l=[x]:=by
 match l,h with
 |[],_=>exact .inl rfl
 |[x],_=>exact .inr ⟨x,rfl⟩
 |x::y::r,h =>
  exfalso;have I:=h.1 x (by simp);have M:=h.1 y (by simp);have h3:x.1<y.1:=by
   have:=h.2;unfold Asc at this;rw[BQ]at this;exact this.1 y (by simp)
  have e:=jd u;obtain⟨⟨Z,a2⟩,H,_⟩:=I;obtain⟨⟨R,O⟩,J,_⟩:=M;obtain⟨X,Y⟩:=u;rw[e]at H J;omega
theorem lB {a:Int}{m:Nat}(u:m<4611686018427387904):0<=bA .i64 a (m:Int)/\bA .i64 a (m:Int)<=m:=by
 have h:(BitVec.ofInt 64 a &&& BitVec.ofInt 64 (m:Int)).toNat<=m:=by
  rw[BitVec.toNat_and];refine B6 Nat.and_le_right ?_;rw[BitVec.toNat_ofInt];omega
 show 0<=IntKind.i64.wrap (((BitVec.ofInt 64 a &&& BitVec.ofInt 64 (m:Int)).toNat:Nat):Int)/\IntKind.i64.wrap (((BitVec.ofInt 64 a &&& BitVec.ofInt 64 (m:Int)).toNat:Nat):Int)<=m;generalize (BitVec.ofInt 64 a &&& BitVec.ofInt 64 (m:Int)).toNat=r at h ⊢;rw[DI];omega
def gM (g:List Int)(d:Int):Int:=g.getD (BD (Ca (bA .i64 d 255) (g.length:Int))) 0
theorem im {g:List Int}{d:Int}(h:g≠[]):idx g (Ca (bA .i64 d 255) (g.length:Int))=some (gM g d)/\idx g ((BD (Ca (bA .i64 d 255) (g.length:Int)):Nat):Int)=some (gM g d)/\gM g d∈g:=by
 have I:0<g.length:=Cq.2 h;have u:=(lB (a:=d) (m:=255) (by omega)).1;have H:0<=Ca (bA .i64 d 255) (g.length:Int):=DM _ u;have y:Ca (bA .i64 d 255) (g.length:Int)<g.length:=DB _ (by omega);unfold gM;obtain⟨v,z⟩:=BF H;rw[z]at y ⊢;have r:v<g.length:=by omega
 rw[BE,ag r,List.getD_eq_getElem?_getD,BK r];exact⟨rfl,rfl,BC r⟩
def mb (n:aa)(r d:Int):Int :=
 bif decide (fE (eE (aa.others n) r)≠[])&&bA .i64 d 4==0 then gM (fE (eE (aa.others n) r)) (CG d (2 ^ 3)) else r*4+bA .i64 (CG d (2 ^ 3)) 3
structure nS (n:aa):Prop where
 short:(aa.others n).length<=1
 table:∀ x∈aa.others n,az x.2/\x.2.length<=1048576
theorem AU {r d:Int}(z:0<=r)(H:r<=1):wr .i64 (wr .i64 (r*4)+bA .i64 (CG d (2 ^ 3)) 3)=r*4+bA .i64 (CG d (2 ^ 3)) 3:=by
 obtain⟨y,u⟩:=lB (a:=CG d (2 ^ 3)) (m:=3) (by omega);have y:0<=bA .i64 (CG d (2 ^ 3)) 3:=y;have u:bA .i64 (CG d (2 ^ 3)) 3<=3:=u;rw[aJ (n:=r*4) (by omega) (by omega),aJ (by omega) (by omega)]
theorem far_s (K:Nat)(n:aa)(r d:Int)(h:nS n)(J:0<=r)(O:r<=1)(R:1048577<K):Q101.f K (n,r,d,())=some ((mb n r d,()),()):=by
 obtain⟨k,rfl⟩:∃ k,K=k+2:=⟨K-2,by omega⟩;show Q101.s0 (k+2) (n,r,d,()) (ae (λrec a=>Q101.s0 (k+2) (n,r,d,()) rec a) (k+1)) 0=_;have y:∀ (rec:Int->Option ((Int×Unit)×Unit)) (a:Int),¬ a<(aa.others n).length->Q101.s0 (k+2) (n,r,d,()) rec a=some ((r*4+bA .i64 (CG d (2 ^ 3)) 3,()),()):=by
  intro rec a M;simp only[Q101.s0];rw[show decide (a<(BB n.2.2.2.2.2.2.2.2.2.2.2.2.2.2:Int))=false from decide_eq_false M,AU J O];rfl
 match z:aa.others n with
 |[] =>
  rw[y _ _ (by rw[z];simp),mb,z];rfl
 |[x] =>
  have X:=h.table x (by rw[z];simp);have u:ae (λrec a=>Q101.s0 (k+2) (n,r,d,()) rec a) (k+1) 1=some ((r*4+bA .i64 (CG d (2 ^ 3)) 3,()),()):=y _ _ (by rw[z];simp);generalize ae (λrec a=>Q101.s0 (k+2) (n,r,d,()) rec a) (k+1)=rec at u ⊢;simp only[Q101.s0];rw[show decide ((0:Int)<(BB n.2.2.2.2.2.2.2.2.2.2.2.2.2.2:Int))=true from decide_eq_true (by show (0:Int)<((aa.others n).length:Int);rw[z];simp),show idx n.2.2.2.2.2.2.2.2.2.2.2.2.2.2 (0:Int)=some x by show idx (aa.others n) (0:Int)=some x;rw[z];rfl,show wr .i64 ((0:Int)+1)=1 from rfl];simp only[cond_true,BA,u];rw[mb,z];cases I:x.1==r with
  |false =>
   simp only[cond_false,eE,C0,I,List.find?_nil];rfl
  |true =>
   simp only[cond_true,eE,C0,I,DK,DH];rw[uJ (k+2) x.2 X.2 R];simp only[BA];by_cases H:fE x.2=[]
   ·rw[H];rfl
   ·have Y:0<(fE x.2).length:=Cq.2 H;rw[decide_eq_true H,decide_eq_true (by omega:((fE x.2).length:Int)>0)];simp only[cond_true,CF];cases bA .i64 d 4==0 with
    |false=>rfl
    |true =>
     simp only[cond_true];rw[decide_eq_false (by omega:¬ ((fE x.2).length:Int)=0),(im H).1,(im H).2.1];rfl
 |_::_::_=>exact absurd h.short (by rw[z];simp)
def lC (n:aa):Bool:=decide (n.1∈fE (aa.table n))
theorem yG (K:Nat)(n:aa)(R:(aa.table n).length<=1048576)(I:1048577<K):Q100.f K (n,())=rb (lC n):=by
 simp only[Q100.f,Q100.pre];rw[show Q99.f K (n.2.2.2.2.2.2.2.2.1,2,())=_ from uJ K (aa.table n) R I];simp only[BA];have J:=wW (aa.table n);unfold lC;generalize fE (aa.table n)=g at J ⊢;have:=co (step:=λrec a=>Q100.s0 K (n,()) rec a) g.length (λi=>(g,(i:Int))) (λj=>∃ h:j<g.length,g[j]=n.1) (rb false) (λ_=>rb true) ?_ ?_ g.length K 0 (by omega) (by omega)
 ·rcases this with ⟨y,u⟩|⟨j,_,y,⟨M,O⟩,_,u⟩
  ·rw[decide_eq_false (λz=>by
    obtain⟨i,r,e⟩:=BJ z;exact y i (BX _) r ⟨r,e⟩)]
   exact u
  ·rw[decide_eq_true (O ▸ BC M:n.1∈g)];exact u
 ·intro rec i r;simp only[Q100.s0];rw[bh (by omega:(i:Int)<(BB g:Int)),ag r,ar i (by omega),BE,ag r];simp only[cond_true,BA];by_cases h:g[i]=n.1
  ·exact .inr ⟨⟨r,h⟩,by rw[show (g[i]==n.1)=true by simpa using h];rfl⟩
  ·exact .inl ⟨λ⟨_,H⟩=>h H,by rw[show (g[i]==n.1)=false by simpa using h];rfl⟩
 ·intro rec;simp only[Q100.s0,aP];rfl
def wanW (n:aa)(d r:Int):aj:=(2,(nO 6 n (mb n r d)).2)
def mc (n:aa)(d:Int):List aj:=bif lC n then (([0,1]:List Int).filter (λs=>s != ak n.1)).map (wanW n d) else []
theorem wan_s (K:Nat)(n:aa)(d:Int)(h:nS n)(y:(aa.table n).length<=1048576)(u:1048577<K):Q102.f K (n,d,())=some ((mc n d,()),()):=by
 simp only[Q102.f,Q102.pre];rw[yG K n y u];simp only[BA,mc];cases lC n with
 |false=>rfl
 |true =>
  simp only[BI,cond_false,cond_true];refine qs (step:=λrec a=>Q102.s0 K (n,d,()) rec a) ([0,1]:List Int) (λs=>s != ak n.1) (wanW n d) (λr i=>(r,(i:Int))) (λM=>some ((M,()),())) ?_ ?_ (by simp;omega)
  ·intro rec r i I z;have J:i<2:=I;have H:([0,1]:List Int)[i]=(i:Int):=by
    have:i=0\/i=1:=by omega
    rcases this with rfl|rfl <;> rfl
   simp only[Q102.s0,H];rw[decide_eq_true (by omega:(i:Int)<=1),ar i (by omega),dk K n.1];simp only[cond_true,BA];cases (i:Int) != ak n.1 with
   |false=>rfl
   |true =>
    simp only[cond_true];rw[far_s K n (i:Int) d h (by omega) (by omega) u];simp only[BA];refine (congrArg (λo=>BS o _) (nP K n 6 (mb n (i:Int) d) y)).trans ?_;simp only[BA];rw[szw _ _ _ (by omega) (by simp;omega)];rfl
  ·intro rec r z;simp only[Q102.s0];rfl
def sZ (n:aa)(f:af):Bool:=f.2.2.1 != 4&&f.1 != n.1
def fp (n:aa):List Int:=((aa.table n).filter (sZ n)).map (·.1)
def ta (n:aa)(to:Int):List aj:=match aa.others n with
 |[]=>[]
 |x::_=>[(1,6,n.1,to,0,n.1,aa.coord n,x.2)]
def j8 (n:aa)(r:Int):List aj :=
 bif bA .i64 r 3==1 then mc n (CG r (2 ^ 2)) else
 bif bA .i64 r 3==3||decide (fp n=[]) then [] else
 bif bA .i64 r 3==0 then [nO 4 n (gM (fp n) (CG r (2 ^ 2)))] else ta n (gM (fp n) (CG r (2 ^ 2)))
theorem and3 (a:Int):bA .i64 a 3=0\/bA .i64 a 3=1\/bA .i64 a 3=2\/bA .i64 a 3=3:=by
 obtain⟨u,r⟩:=lB (a:=a) (m:=3) (by omega);have u:0<=bA .i64 a 3:=u;have r:bA .i64 a 3<=3:=r;omega
theorem xi {n:aa}(y:az (aa.table n)){v:Int}(u:v∈fp n):0<=v:=by
 obtain⟨f,r,rfl⟩:=BZ.1 u;exact (y.1 f (BH.1 r).1).1.1
theorem AV (K:Nat)(n:aa)(d:Int)(M:(aa.table n).length<=1048576)(H:1048577<K):Q98.f K (n,d,())=some ((bif decide (fp n=[]) then -1 else gM (fp n) d,()),()):=by
 refine (vA (step:=λrec a=>Q98.s0 K (n,d,()) rec a) (aa.table n) (sZ n) (λf=>f.1) (λy=>some ((bif decide (y=[]) then -1 else gM y d,()),())) ?_ ?_ (by omega)).trans rfl
 ·intro rec r i z J;simp only[Q98.s0];rw[show decide ((i:Int)<(BB n.2.2.2.2.2.2.2.2.1:Int))=true from bh (by omega:(i:Int)<(BB (aa.table n):Int)),show idx n.2.2.2.2.2.2.2.2.1 (i:Int)=some (aa.table n)[i] from ag z,ar i (by omega)];simp only[cond_true,BA,sZ];rw[szb _ _ _ (by omega) (by simp;omega)];cases (aa.table n)[i].1 != n.1 <;> cases (aa.table n)[i].2.2.1 != 4 <;> rfl
 ·intro rec r _;simp only[Q98.s0];rw[show decide ((BB (aa.table n):Int)<(BB n.2.2.2.2.2.2.2.2.1:Int))=false from aP _];simp only[cond_false];by_cases u:r=[]
  ·subst u;rfl
  ·have I:0<r.length:=Cq.2 u;rw[show ((r.length:Int)==0)=false by simp;exact u,decide_eq_false (by omega:¬ (r.length:Int)=0),decide_eq_false u,(im u).1,(im u).2.1];rfl
theorem AW (K:Nat)(n:aa)(r:Int)(h:nS n)(M:az (aa.table n))(H:(aa.table n).length<=1048576)(I:1048577<K):Q103.f K (n,r,())=some ((j8 n r,()),()):=by
 simp only[Q103.f];rw[AV K n _ H I];simp only[BA];rw[wan_s K n _ h H I];simp only[BA,j8];by_cases u:fp n=[]
 ·rw[decide_eq_true u];simp only[cond_true,DP,show decide ((-1:Int)>=0)=false from rfl,cond_false];rcases and3 r with e|e|e|e <;> rw[e] <;> rfl
 ·have O:=xi M (im (d:=CG r (2 ^ 2)) u).2.2;rw[decide_eq_false u];simp only[cond_false,Bool.or_false];rw[decide_eq_true (by omega:gM (fp n) (CG r (2 ^ 2))>=0)];simp only[cond_true];rw[show Q39.f K (n,4,gM (fp n) (CG r (2 ^ 2)),0,n.1,n.2.2.2.2.2.2.2.2.1,())=_ from nP K n 4 _ H];simp only[BA];rcases and3 r with e|e|e|e
  ·rw[e];rfl
  ·rw[e];rfl
  ·rw[e];simp only[show ((2:Int)==0)=false from rfl,show ((2:Int)==1)=false from rfl,show ((2:Int)==2)=true from rfl,show ((2:Int)==3)=false from rfl,cond_false,cond_true];unfold ta
   match y:aa.others n with
   |[] =>
    rw[show decide ((BB n.2.2.2.2.2.2.2.2.2.2.2.2.2.2:Int)>0)=false by show decide (((aa.others n).length:Int)>0)=false;rw[y];rfl];rfl
   |[x] =>
    have J:=h.table x (by rw[y];simp);have z:(aa.others n).length=1:=by rw[y];rfl
    rw[show decide ((BB n.2.2.2.2.2.2.2.2.2.2.2.2.2.2:Int)>0)=true by show decide (((aa.others n).length:Int)>0)=true;rw[z];rfl,show decide ((BB n.2.2.2.2.2.2.2.2.2.2.2.2.2.2:Int)=0)=false by show decide (((aa.others n).length:Int)=0)=false;rw[z];rfl];simp only[cond_true,cond_false];rw[show idx n.2.2.2.2.2.2.2.2.2.2.2.2.2.2 (Ca (bA .i64 (CG r (2 ^ 10)) 255) (BB n.2.2.2.2.2.2.2.2.2.2.2.2.2.2:Int))=some x by
     show idx (aa.others n) (Ca (bA .i64 (CG r (2 ^ 10)) 255) ((aa.others n).length:Int))=some x;rw[z,y,show ((1:Nat):Int)=1 from rfl,Int.tmod_one];rfl]
    simp only[BA,Q39.f];rw[szb _ _ _ (by omega) (by have:=J.2;simp;omega)];rfl
   |_::_::_=>exact absurd h.short (by rw[y];simp)
  ·rw[e];rfl
def rk (f:af):Int:=f.2.1*16+f.2.2.1*2+(if f.2.2.2=true then 1 else 0)
theorem j9 {f g:af}(r:bf f)(u:bf g):bB f g<->rk g<rk f:=by
 obtain⟨_,_,I,z⟩:=r;obtain⟨_,_,y,H⟩:=u;unfold bB rk;by_cases a:f.2.1=g.2.1
 ·rw[if_neg (by simpa using a)];by_cases c:f.2.2.1=g.2.2.1
  ·rw[if_neg (by simpa using c),a,c];cases f.2.2.2 <;> cases g.2.2.2 <;> simp <;> omega
  ·rw[if_pos c];cases f.2.2.2 <;> cases g.2.2.2 <;> simp <;> omega
 ·rw[if_pos a];cases f.2.2.2 <;> cases g.2.2.2 <;> simp <;> omega
theorem kW {t:List af}(z:Asc (λg:af=>g.1) t)(f:af):bO t f=(t,false)\/(bO t f=(bq (λg=>g.1) f t,true)/\∀ g∈t,g.1=f.1->bB f g):=by
 by_cases h:∃ g∈t,g.1=f.1
 ·obtain⟨g,r,e⟩:=h;obtain⟨i,J,rfl⟩:=BJ r;rw[jb z J e];by_cases y:bB f t[i]
  ·rw[if_pos y];refine .inr ⟨rfl,λM u I=>?_⟩;rw[gR z u r (by rw[e,I])];exact y
  ·rw[if_neg y];exact .inl rfl
 ·have H:∀ g∈t,g.1≠f.1:=λg r e=>h ⟨g,r,e⟩
  exact .inr ⟨gw H,λg r e=>absurd e (H g r)⟩
theorem oj {n:aa}(Y:az (aa.table n)):iB n<->(∀ d∈aa.doubts n,lx n d)/\Asc (λd:bN=>d.1) (aa.doubts n)/\∀ f∈aa.table n,f.2.2.1=2->∃ d∈aa.doubts n,d.1=f.1:=by
 have M:((aU (aa.table n)).map (λf:af=>f.1)).Pairwise (·<·):=by
  rw[B7];exact CY _ Y.2
 constructor
 ·rintro⟨h1,h2,h3⟩;refine⟨h1,h2,λf H u=>?_⟩;have r:((aa.doubts n).map (λd:bN=>d.1)).Pairwise (·<·):=by rw[B7];exact h2
  have:=(i9 _ _ r M (λx y=>by
   obtain⟨d,r,rfl⟩:=BZ.1 y;obtain⟨⟨g,J,e,z,_⟩,_⟩:=h1 d r;exact BZ.2 ⟨g,BH.2 ⟨J,by simpa using z⟩,e⟩)).2 (by rw[BU,BU,h3])
  have O:f.1∈(aU (aa.table n)).map (λf:af=>f.1):=BZ.2 ⟨f,BH.2 ⟨H,by simpa using u⟩,rfl⟩;rw[<- this]at O;obtain⟨d,r,e⟩:=BZ.1 O;exact⟨d,r,e⟩
 ·rintro⟨h1,h2,h3⟩;refine⟨h1,h2,?_⟩;have r:((aa.doubts n).map (λd:bN=>d.1)).Pairwise (·<·):=by rw[B7];exact h2
  have X:=(i9 _ _ r M (λx y=>by
   obtain⟨d,r,rfl⟩:=BZ.1 y;obtain⟨⟨g,J,e,z,_⟩,_⟩:=h1 d r;exact BZ.2 ⟨g,BH.2 ⟨J,by simpa using z⟩,e⟩)).1
  have R:=(i9 _ _ M r (λx y=>by
   obtain⟨f,H,rfl⟩:=BZ.1 y;obtain⟨I,u⟩:=BH.1 H;obtain⟨d,r,e⟩:=h3 f I (by simpa using u);exact BZ.2 ⟨d,r,e⟩)).1
  rw[BU,BU]at X R;omega
def cf (n:aa):Int:=n.2.2.2.2.2.1
def eY (n:aa)(b:Int):Prop:=InP b 0 7/\ak b=ak n.1
theorem kX {n:aa}(r:Asc (λg:af=>g.1) (aa.table n))(f:af)(b:Int):sayOf n f b=n \/
  (sayOf n f b=fV n (bq (λg=>g.1) f (aa.table n)) (cC (aa.cast n) f) (bif jS n f then aa.doubts n else cP (cf n) (aa.doubts n) f b)/\∀ g∈aa.table n,g.1=f.1->bB f g):=by
 rcases kW r f with h|⟨h,u⟩
 ·left;unfold sayOf;rw[h];rfl
 ·right;refine⟨?_,u⟩;unfold sayOf;rw[h];rfl
theorem vM {n:aa}{f:af}{b:Int}(X:az (aa.table n))(hD:iB n)(hf:bf f)(hb:eY n b)(hn:0<=cf n)(c:List aF) :
  iB (fV n (bq (λg=>g.1) f (aa.table n)) c (bif jS n f then aa.doubts n else cP (cf n) (aa.doubts n) f b)):=by
 obtain⟨h1,h2,h3⟩:=(oj X).1 hD;have a1:az (bq (λg:af=>g.1) f (aa.table n)):=⟨λg y=>by
  rcases aV.1 y with rfl|⟨y,_⟩
  ·exact hf
  ·exact X.1 g y,e9 X.2⟩
 refine (oj (n:=fV n _ c _) a1).2 ?_;have I:∀ d∈aa.doubts n,d.1≠f.1->∀ ds,lx (fV n (bq (λg:af=>g.1) f (aa.table n)) c ds) d:=λd z u ds=>by
  obtain⟨⟨g,y,Y,R,O⟩,r⟩:=h1 d z;exact⟨⟨g,aV.2 (.inr ⟨y,by rw[Y];exact u⟩),Y,R,O⟩,r⟩
 have J:∀ g∈bq (λg:af=>g.1) f (aa.table n),g.1≠f.1->g.2.2.1=2->∃ d∈aa.doubts n,d.1=g.1:=λg y u h=>by
  rcases aV.1 y with rfl|⟨y,_⟩
  ·exact absurd rfl u
  ·exact h3 g y h
 cases hs:jS n f with
 |true =>
  obtain⟨g0,M,s1,s2,s3⟩:=of_decide_eq_true hs;refine⟨λd z=>?_,h2,λg y h=>?_⟩
  ·by_cases u:d.1=f.1
   ·obtain⟨⟨g,y,Y,R,O⟩,r⟩:=h1 d z;rw[gR X.2 y M (by rw[Y,s1,u])]at R O;exact⟨⟨f,aV.2 (.inl rfl),u.symm,by rw[<- s3];exact R,by rw[<- s2];exact O⟩,r⟩
   ·exact I d z u _
  ·by_cases u:g.1=f.1
   ·have a0:g=f:=by
     rcases aV.1 y with h|⟨_,h⟩
     ·exact h
     ·exact absurd u h
    rw[a0]at h ⊢;obtain⟨d,z,e⟩:=h3 g0 M (by rw[s3];exact h);exact⟨d,z,by rw[e,s1]⟩
   ·exact J g y u h
 |false =>
  by_cases H:f.2.2.1=2
  ·have e:cP (cf n) (aa.doubts n) f b=bq (λd=>d.1) (mkD (cf n) f b) (aa.doubts n):=by unfold cP;rw[if_pos H]
   simp only[cond_false];rw[e];refine⟨λd z=>?_,e9 h2,λg y h=>?_⟩
   ·rcases aV.1 z with rfl|⟨z,u⟩
    ·exact⟨⟨f,aV.2 (.inl rfl),rfl,H,rfl⟩,⟨hn,CJ _⟩,List.cons_ne_nil _ _,λx hx=>by rw[B8.1 hx];exact hb,Cx _ _⟩
    ·exact I d z u _
   ·by_cases u:g.1=f.1
    ·exact⟨mkD (cf n) f b,aV.2 (.inl rfl),u.symm⟩
    ·obtain⟨d,z,e⟩:=J g y u h;exact⟨d,aV.2 (.inr ⟨z,λe'=>u (e.symm.trans e')⟩),e⟩
  ·have e:cP (cf n) (aa.doubts n) f b=(aa.doubts n).filter (λd=>!(d.1==f.1)):=by unfold cP;rw[if_neg H]
   simp only[cond_false];rw[e];refine⟨λd z=>?_,l6 h2 _,λg y h=>?_⟩
   ·obtain⟨z,u⟩:=BH.1 z;exact I d z (by simpa using u) _
   ·have u:g.1≠f.1:=λu=>by
     rcases aV.1 y with Z|⟨_,Z⟩
     ·rw[Z]at h;exact H h
     ·exact Z u
    obtain⟨d,z,e⟩:=J g y u h;exact⟨d,BH.2 ⟨z,by rw[e];simpa using u⟩,e⟩
theorem vN {n:aa}{f:af}(X:az (aa.table n))(Y:cO (aa.cast n))(R:gu (aa.table n) (aa.cast n))(M:bf f)(O:∀ g∈aa.table n,g.1=f.1->bB f g) :
  gu (bq (λg=>g.1) f (aa.table n)) (cC (aa.cast n) f):=by
 have z:∀ x∈aa.cast n,∃ g∈bq (λg:af=>g.1) f (aa.table n),g.1=x.1.1/\¬ bB x.1 g:=λx r=>by
  obtain⟨g,J,e,y⟩:=R x r;by_cases u:g.1=f.1
  ·refine⟨f,aV.2 (.inl rfl),by rw[<- e,u],λh=>y ?_⟩;have I:=(Y.1 x r).1;have H:=X.1 g J;have:=O g J u;rw[j9 M H]at this;rw[j9 I M]at h;rw[j9 I H];omega
  ·exact⟨g,aV.2 (.inr ⟨J,u⟩),e,y⟩
 intro x r;unfold cC at r;split at r
 ·exact z x r
 ·rcases aV.1 r with rfl|⟨r,_⟩
  ·exact⟨f,aV.2 (.inl rfl),rfl,xh f⟩
  ·exact z x r
structure UpX (n:aa):Prop where
 me:InP n.1 0 7
 now0:0<=cf n
 table:az (aa.table n)
 site:b8 (aa.table n) (ak n.1)
 cast:cO (aa.cast n)
 vs:gu (aa.table n) (aa.cast n)
 probe:c7 n
 doubts:iB n
 coord:cH (aa.coord n)
 places:eq n.1 (aa.places n)
 others:c8 n.1 (aa.others n)
theorem UpX.of {n:aa}(h:UpP n)(J:InP n.1 0 7)(z:0<=cf n):UpX n:=by
 obtain⟨X,H,_,⟨R,M⟩,I,O,u,r,y⟩:=h;exact⟨J,z,X,H,R,M,I,O,u,r,y⟩
theorem UpX.up {n:aa}(h:UpX n)(r:de n):UpP n:=⟨h.table,h.site,r,⟨h.cast,h.vs⟩,h.probe,h.doubts,h.coord,h.places,h.others⟩
theorem UpX.say {n:aa}(h:UpX n):cq n:=by
 refine cq.mk' h.table h.cast h.doubts.2.1 λd u=>?_
 obtain⟨f,r,e,_⟩:=(h.doubts.1 d u).1;rw[<- e];exact (h.table.1 f r).1
theorem eY.me {n:aa}(h:InP n.1 0 7):eY n n.1:=⟨h,rfl⟩
theorem q8 {n m:aa}(h:c7 n)(H:m.1=n.1)(M:aa.probe m=aa.probe n)(ht:∀ g∈aa.table n,∃ y∈aa.table m,y.1=g.1)(X:cf n<=cf m)(hs:n.2.2.2.2.2.2.1<=m.2.2.2.2.2.2.1):c7 m:=by
 unfold c7 at h ⊢;rw[M,H];split at h
 ·rename_i r;rw[if_pos r];exact h
 ·rename_i r;rw[if_neg r];obtain⟨z,⟨g,O,R⟩,⟨Y,I⟩,⟨Z,J⟩⟩:=h;obtain⟨y,u,e'⟩:=ht g O;exact⟨z,⟨y,u,e'.trans R⟩,⟨Y,Ci I X⟩,⟨Z,Ci J hs⟩⟩
theorem UpX.said {n:aa}{f:af}{b:Int}(h:UpX n)(u:bf f)(I:ak f.1=ak n.1)(z:eY n b):UpX (sayOf n f b):=by
 rcases kX h.table.2 f b with e|⟨e,H⟩
 ·rw[e];exact h
 ·have y:=λg r=>jz (n:=n) (f:=f) (b:=b) (g:=g) r
  rw[e]at y ⊢;refine⟨h.me,h.now0,⟨λg r=>?_,e9 h.table.2⟩,λg r=>?_,pI h.cast u,vN h.table h.cast h.vs u H,q8 h.probe rfl rfl y (CJ _) (CJ _),vM h.table h.doubts u z h.now0 _,h.coord,h.places,h.others⟩
  ·rcases aV.1 r with rfl|⟨r,_⟩
   ·exact u
   ·exact h.table.1 g r
  ·rcases aV.1 r with rfl|⟨r,_⟩
   ·exact I
   ·exact h.site g r
theorem xj {n:aa}(u:Asc (λg:af=>g.1) (aa.table n)){f g:af}{b:Int}(r:g.1≠f.1):g∈aa.table (sayOf n f b)<->g∈aa.table n:=by
 rcases kX u f b with e|⟨e,_⟩
 ·rw[e]
 ·rw[e];exact aV.trans ⟨λh=>h.elim (λh=>absurd (by rw[h]) r) (·.1),λh=>.inr ⟨h,r⟩⟩
theorem q9 {n:aa}(u:Asc (λg:af=>g.1) (aa.table n)){f:af}{b:Int}(h:∀ g∈aa.table n,g.1=f.1->bB f g):f∈aa.table (sayOf n f b):=by
 have I:bO (aa.table n) f=(bq (λg=>g.1) f (aa.table n),true):=by
  rcases kW u f with e|⟨e,_⟩
  ·by_cases y:∃ g∈aa.table n,g.1=f.1
   ·obtain⟨g,r,z⟩:=y;obtain⟨i,H,rfl⟩:=BJ r;rw[jb u H z,if_pos (h _ r z)]
   ·exact gw λg r e=>y ⟨g,r,e⟩
  ·exact e
 unfold Go.Proofs.YtadlacffdemoiaaGreatEv.sayOf;rw[I];exact aV.2 (.inl rfl)
def OnN (n m:aa):Prop:=∃ t c r,m=fV n t c r
theorem OnN.refl (n:aa):OnN n n:=⟨_,_,_,rfl⟩
theorem OnN.say {n m:aa}(h:OnN n m)(f:af)(b:Int):OnN n (Go.Proofs.YtadlacffdemoiaaGreatEv.sayOf m f b):=by
 obtain⟨t,c,z,rfl⟩:=h;obtain⟨u,y,r,e,_⟩:=iD (fV n t c z) f b;exact⟨u,y,r,e⟩
def md (n:aa):af:=(n.1,n.2.2.2.2.1,(if n.2.2.1=true then 4 else 1),n.2.2.2.1)
theorem oZ {n m:aa}(z:Asc (λg:af=>g.1) (aa.table m))(u:OnN n m){f:af}{b:Int}(r:f.1≠n.1)(h:de m):de (sayOf m f b):=by
 obtain⟨t,c,O,e⟩:=u.say f b;obtain⟨R,M,H,J⟩:=u;have I:md n∈aa.table m:=by rw[J]at h ⊢;exact h
 have y:=(xj z (f:=f) (b:=b) (g:=md n) (λh=>r h.symm)).2 I;rw[e]at y ⊢;exact y
theorem yH {n:aa}(h:UpX n)(y:de n){d:bN}(H:d∈aa.doubts n):d.1≠n.1:=by
 obtain⟨⟨g,z,e,r,_⟩,_⟩:=h.doubts.1 d H;intro u;have I:md n∈aa.table n:=y;have:=gR h.table.2 z I (by rw[e,u];rfl);rw[this]at r;revert r;show (if n.2.2.1=true then (4:Int) else 1)=2->False;split <;> omega
theorem mU {n:aa}(h:UpX n)(hs:de n):UpX (kk n)/\de (kk n)/\OnN n (kk n):=by
 have:=l7 (st:=ik) (Inv:=λm=>(UpX m/\de m/\OnN n m)/\∀ g∈aa.table n,∃ R∈aa.table m,R.1=g.1) (ds:=aa.doubts n) (n:=n) ⟨⟨h,hs,OnN.refl n⟩,λg y=>⟨g,y,rfl⟩⟩ ?_
 ·exact this.1
 ·rintro m d Z ⟨⟨r,u,H⟩,O⟩;have z:=yH h hs Z;unfold ik;cases qt m.2.2.2.2.2.1 d.2.2.1 d.2.2.2.length with
  |false=>exact⟨⟨r,u,H⟩,O⟩
  |true =>
   obtain⟨⟨g,y,e,_⟩,_⟩:=h.doubts.1 d Z;obtain⟨R,J,e'⟩:=O g y;obtain⟨h1,h2,h3⟩:=ei r.table ⟨R,J,e'.trans e⟩;have Y:ak (kE (aQ (aa.table m) d.1)).1=ak m.1:=by
    show ak (aQ (aa.table m) d.1).1=ak m.1;exact r.site _ h3
   have I:(kE (aQ (aa.table m) d.1)).1≠n.1:=by rw[show (kE (aQ (aa.table m) d.1)).1=_ from h2];exact z
   refine⟨⟨r.said (uL h1) Y (eY.me r.me),oZ r.table.2 H I u,H.say _ _⟩,λg y=>?_⟩;obtain⟨g1,M,e1⟩:=O g y;obtain⟨g2,X,e2⟩:=jz (f:=kE (aQ (aa.table m) d.1)) (b:=m.1) M;exact⟨g2,X,e2.trans e1⟩
theorem UpX.setProbe {n:aa}(h:UpX n){p:af}(r:c7 (setP n p)):UpX (setP n p):=⟨h.me,h.now0,h.table,h.site,h.cast,h.vs,r,h.doubts,h.coord,h.places,h.others⟩
theorem xk (n:aa):c7 (setP n noP):=by
 unfold c7;exact (if_pos rfl).mpr rfl
theorem xm {n:aa}(h:UpX n)(z:de n):UpX (dl n).1/\de (dl n).1/\∃ p,OnN (setP n p) (dl n).1:=by
 have r:UpX n/\de n/\∃ p,OnN (setP n p) n:=⟨h,z,aa.probe n,OnN.refl n⟩;have y:UpX (setP n noP):=h.setProbe (xk n);unfold dl;cases J:(aa.probe n).1==-1 with
 |true=>exact r
 |false =>
  have H:(aa.probe n).1≠-1:=by simpa using J
  have u:=h.probe;unfold c7 at u;rw[if_neg H]at u;simp only[cond_false];cases M:ez (aQ (aa.table n) (aa.probe n).1) with
  |false=>exact⟨y,z,_,OnN.refl _⟩
  |true =>
   obtain⟨X,R,O⟩:=ei h.table (gV M);simp only[BI,cond_false];cases decide (n.2.2.2.2.2.1-(aa.probe n).2.1>=4) with
   |true =>
    simp only[cond_true];cases (aQ (aa.table n) (aa.probe n).1).2.2.1==1 with
    |true =>
     have I:ak (pK (aQ (aa.table n) (aa.probe n).1)).1=ak (setP n noP).1:=by
      show ak (aQ (aa.table n) (aa.probe n).1).1=ak n.1;exact h.site _ O
     refine⟨y.said (zX X) I (eY.me (n:=setP n noP) h.me),oZ (n:=setP n noP) (m:=setP n noP) h.table.2 (OnN.refl (setP n noP)) ?_ z,noP,(OnN.refl (setP n noP)).say _ _⟩;rw[show (pK (aQ (aa.table n) (aa.probe n).1)).1=_ from R];exact u.1
    |false=>exact⟨y,z,_,OnN.refl _⟩
   |false =>
    simp only[cond_false];cases decide (n.2.2.2.2.2.1-(aa.probe n).2.1>=2) with
    |false=>exact r
    |true =>
     simp only[cond_true];cases (aa.probe n).2.2.2 with
     |true=>exact r
     |false =>
      refine⟨h.setProbe ?_,z,_,OnN.refl _⟩;show c7 (lz n);unfold c7;rw[if_neg (show ¬ (aa.probe (lz n)).1=-1 from H)];exact u
def iQ (n:aa):Option Int:=((List.range 8).map (cJ n)).find? λx=>x != n.1&&ez (aQ (aa.table n) x)
def jG (n:aa):Int:=n.2.2.2.2.2.2.1
def dQ (n:aa):aa×List aj:=bif decide (jG n>=999999) then (n,[]) else match iQ n with
 |some to=>(askN n to,[pingW n to])
 |none=>(n,[])
theorem ra {n:aa}{to:Int}(h:iQ n=some to):to≠n.1/\ez (aQ (aa.table n) to)=true:=by
 have:=C3 h;simpa using this
theorem xn {l:List aF}{T:List Int}{x:aF}(h:x∈dA l T l.length):∃ y∈l,x.1=y.1:=by
 unfold dA at h;obtain⟨u,_⟩:=BH.1 h;obtain⟨i,r,rfl⟩:=BJ u;rw[eA]at r;rw[fa l T r];refine⟨l[i],BC r,?_⟩;unfold dM;rw[cr r];cases decide ((i:Int)∈T) <;> rfl
theorem UpX.way {n:aa}(h:UpX n):UpX (iP n):=⟨h.me,h.now0,h.table,h.site,yF h.cast _,λx z=>by
 obtain⟨y,r,e⟩:=xn z;obtain⟨g,H,u,I⟩:=h.vs y r;exact⟨g,H,by rw[e,u],by rw[e];exact I⟩,h.probe,h.doubts,h.coord,h.places,h.others⟩
structure tc (n:aa):Prop where
 seq:InP (jG n) 0 999999
 turn:InP n.2.2.2.2.2.2.2.1 0 8
theorem AX {n:aa}(h:UpX n)(z:de n)(u:tc n):UpX (dQ n).1/\de (dQ n).1/\tc (dQ n).1/\(dQ n).1.1=n.1/\cf (dQ n).1=cf n/\(dQ n).1.2.2.2.2.1=n.2.2.2.2.1:=by
 unfold dQ;by_cases J:jG n>=999999
 ·rw[decide_eq_true J];exact⟨h,z,u,rfl,rfl,rfl⟩
 ·rw[decide_eq_false J];simp only[cond_false];cases R:iQ n with
  |none=>exact⟨h,z,u,rfl,rfl,rfl⟩
  |some to =>
   obtain⟨y,X⟩:=ra R;obtain⟨M,H,O⟩:=ei h.table (gV X);obtain⟨⟨Z,Y⟩,_⟩:=u;have r:InP to 0 7:=H ▸ M.1;have I:=h.way;refine⟨⟨h.me,h.now0,h.table,h.site,I.cast,I.vs,?_,h.doubts,h.coord,h.places,h.others⟩,z,⟨⟨show 0<=jG n+1 by omega,show jG n+1<=999999 by omega⟩,show 0<=to+1 by have:=r.1;omega,show to+1<=8 by have:=r.2;omega⟩,rfl,rfl,rfl⟩;show c7 (askN n to);unfold c7;rw[if_neg (show ¬ (aa.probe (askN n to)).1=-1 by have:=r.1;show ¬ to=-1;omega)];exact⟨y,⟨_,O,H⟩,⟨h.now0,CJ _⟩,show 1<=jG n+1 by omega,CJ _⟩
def d5 (n:aa):aa:=(n.1,n.2.1,n.2.2.1,n.2.2.2.1,n.2.2.2.2.1,n.2.2.2.2.2.1+1,n.2.2.2.2.2.2)
def fq (m:aa):aa×List aj:=bif (aa.probe m).1==-1 then dQ m else (m,[])
def ft (n:aa):aa×List aj:=dl (kk (d5 n))
def kF (n:aa):aa:=(fq (ft n).1).1
def pN (n:aa)(r:Int):List aj:=(ft n).2++(fq (ft n).1).2++j8 (kF n) r
theorem UpX.later {n:aa}(h:UpX n):UpX (d5 n):=by
 have J:cf (d5 n)=cf n+1:=rfl;have M:=h.now0;refine⟨h.me,by omega,h.table,h.site,h.cast,h.vs,q8 h.probe rfl rfl (λg z=>⟨g,z,rfl⟩) (by omega) (CJ _),⟨λd H=>?_,h.doubts.2⟩,h.coord,h.places,h.others⟩;obtain⟨I,⟨u,r⟩,y⟩:=h.doubts.1 d H;exact⟨I,⟨u,Ci r (show cf n<=cf (d5 n) by omega)⟩,y⟩
structure UpN (n:aa):Prop where
 x:UpX n
 self:de n
 now1:cf n<=999999
 seq:tc n
 inc:InP n.2.2.2.2.1 0 999
 up:n.2.1=true
theorem UpN.of {n:aa}(h:eV n)(y:n.2.1=true):UpN n:=by
 obtain⟨J,u,z,H,I,r⟩:=h;rw[if_pos y]at r;exact⟨UpX.of r J u.1,r.2.2.1,u.2,⟨z,H⟩,I,y⟩
theorem UpN.ok {n:aa}(h:UpN n):eV n:=⟨h.x.me,⟨h.x.now0,h.now1⟩,h.seq.seq,h.seq.turn,h.inc,by rw[if_pos h.up];exact h.x.up h.self⟩
theorem pO {n:aa}(h:UpN n)(X:cf n<999999):UpN (ft n).1/\(ft n).1.1=n.1/\(ft n).1.2.2.1=n.2.2.1:=by
 have R:de (d5 n):=h.self;obtain⟨H,z,J⟩:=mU h.x.later R;obtain⟨O,I,p,u⟩:=xm H z;obtain⟨t,c,Z,r⟩:=J;obtain⟨t',Y,y,M⟩:=u;have e:(ft n).1=_:=M;rw[r]at e;refine⟨⟨O,I,?_,⟨?_,?_⟩,?_,?_⟩,?_,?_⟩
 ·show cf (ft n).1<=999999;rw[e];show cf n+1<=999999;omega
 ·show InP (jG (ft n).1) 0 999999;rw[e];exact h.seq.seq
 ·show InP (ft n).1.2.2.2.2.2.2.2.1 0 8;rw[e];exact h.seq.turn
 ·show InP (ft n).1.2.2.2.2.1 0 999;rw[e];exact h.inc
 ·show (ft n).1.2.1=true;rw[e];exact h.up
 ·rw[e];rfl
 ·rw[e];rfl
theorem td {m:aa}:(dQ m).1.2.1=m.2.1/\(dQ m).1.2.2.1=m.2.2.1:=by
 unfold dQ;cases decide (jG m>=999999) with
 |true=>exact⟨rfl,rfl⟩
 |false =>
  cases iQ m with
  |none=>exact⟨rfl,rfl⟩
  |some to=>exact⟨rfl,rfl⟩
theorem vO {m:aa}(h:UpN m):UpN (fq m).1/\(fq m).1.1=m.1/\(fq m).1.2.2.1=m.2.2.1:=by
 unfold fq;cases (aa.probe m).1==-1 with
 |false=>exact⟨h,rfl,rfl⟩
 |true =>
  obtain⟨r,z,H,u,y,I⟩:=AX h.x h.self h.seq;refine⟨⟨r,z,?_,H,?_,?_⟩,u,td.2⟩
  ·show cf (dQ m).1<=999999;rw[y];exact h.now1
  ·show InP (dQ m).1.2.2.2.2.1 0 999;rw[I];exact h.inc
  ·show (dQ m).1.2.1=true;rw[td.1];exact h.up
theorem qu {n:aa}(h:UpN n)(H:cf n<999999):UpN (kF n)/\(kF n).1=n.1/\(kF n).2.2.1=n.2.2.1:=by
 obtain⟨J,y,u⟩:=pO h H;obtain⟨z,I,r⟩:=vO J;exact⟨z,I.trans y,r.trans u⟩
theorem yI {f g:af}(h:g.2.1<f.2.1):bB f g:=by
 unfold bB;rw[if_pos (by omega)];exact h
theorem Ab {f g:af}(h:bB f g):g.2.1<=f.2.1:=by
 unfold bB at h;split at h <;> omega
theorem UpX.inc {n:aa}(h:UpX n)(i:Int):UpX (fW n i):=⟨h.me,h.now0,h.table,h.site,h.cast,h.vs,h.probe,h.doubts,h.coord,h.places,h.others⟩
theorem re {n:aa}(h:UpX n)(r:de n){g:af}(u:g∈aa.table n)(e:g.1=n.1):g=md n:=gR h.table.2 u r (by rw[e];rfl)
theorem xo {n:aa}(h:UpX n)(r:de n):aQ (aa.table n) n.1=md n:=jx h.table.2 (f:=md n) r
theorem yJ {n:aa}(h:UpN n)(H:n.2.2.1=false):UpN (mP n)/\(mP n).1=n.1:=by
 have z:bf (n.1,n.2.2.2.2.1,4,n.2.2.2.1):=⟨h.x.me,h.inc,show (1:Int)<=4 by omega,show (4:Int)<=4 by omega⟩;have r:=h.x.said z rfl (eY.me h.x.me);have y:(n.1,n.2.2.2.2.1,(4:Int),n.2.2.2.1)∈aa.table (sayOf n (n.1,n.2.2.2.2.1,4,n.2.2.2.1) n.1):=q9 h.x.table.2 λg u e=>by
  rw[re h.x h.self u e];unfold bB md;rw[H];simp
 obtain⟨t,c,I,e⟩:=(OnN.refl n).say (n.1,n.2.2.2.2.1,4,n.2.2.2.1) n.1;unfold mP;rw[e]at r y ⊢;exact⟨⟨⟨r.me,r.now0,r.table,r.site,r.cast,r.vs,r.probe,r.doubts,r.coord,r.places,r.others⟩,y,h.now1,⟨h.seq.seq,h.seq.turn⟩,h.inc,h.up⟩,rfl⟩
theorem xp {n:aa}{f:af}(h:UpN n)(y:n.2.2.1=false)(M:bf f):UpN (dF n f)/\(dF n f).1=n.1/\(dF n f).2.2.1=false:=by
 unfold dF;cases H:decide (bB f (aQ (aa.table n) n.1))&&decide (f.2.1<999) with
 |false=>exact⟨h,rfl,y⟩
 |true =>
  rw[CK,decide_eq_true_eq,decide_eq_true_eq,xo h.x h.self]at H;obtain⟨R,J⟩:=H;have X:n.2.2.2.2.1<=f.2.1:=Ab R;have r:=nQ (n:=n) h.x.me M J;have I:UpX (sayOf (fW n (f.2.1+1)) (n.1,f.2.1+1,1,n.2.2.2.1) n.1):=(h.x.inc (f.2.1+1)).said r rfl (eY.me (n:=fW n (f.2.1+1)) h.x.me);have z:(n.1,f.2.1+1,(1:Int),n.2.2.2.1)∈aa.table (sayOf (fW n (f.2.1+1)) (n.1,f.2.1+1,1,n.2.2.2.1) n.1):=q9 (n:=fW n (f.2.1+1)) h.x.table.2 λg u e=>by
   rw[re h.x h.self u e];exact yI (show n.2.2.2.2.1<f.2.1+1 by omega)
  obtain⟨t,c,O,e⟩:=(OnN.refl (fW n (f.2.1+1))).say (n.1,f.2.1+1,1,n.2.2.2.1) n.1;simp only[cond_true];rw[show sayOf (fW n (f.2.1+1)) (n.1,f.2.1+1,1,n.2.2.2.1) n.1=fV (fW n (f.2.1+1)) t c O from e]at I z ⊢;refine⟨⟨I,?_,h.now1,⟨h.seq.seq,h.seq.turn⟩,r.2.1,h.up⟩,rfl,y⟩;show (n.1,f.2.1+1,(if n.2.2.1=true then (4:Int) else 1),n.2.2.2.1)∈_;rw[y];exact z
theorem mV (f:af)(b:Int)(d:bN):(dK f b d).1=d.1/\(dK f b d).2.1=d.2.1/\(dK f b d).2.2.1=d.2.2.1:=by
 unfold dK;cases d.1==f.1&&d.2.1==f.2.1&&f.2.2.1==2 <;> exact⟨rfl,rfl,rfl⟩
theorem UpX.conf {n:aa}(h:UpX n)(f:af){b:Int}(H:eY n b):UpX (iE n f b):=by
 refine⟨h.me,h.now0,h.table,h.site,h.cast,h.vs,h.probe,⟨λd M=>?_,?_,?_⟩,h.coord,h.places,h.others⟩
 ·obtain⟨r,u,rfl⟩:=BZ.1 M;obtain⟨I,Z,X⟩:=mV f b r;obtain⟨⟨g,R,Y,O,J⟩,h2,h3,z⟩:=h.doubts.1 r u;refine⟨⟨g,R,by rw[I];exact Y,O,by rw[Z];exact J⟩,by rw[X];exact h2,?_⟩;unfold dK;cases r.1==f.1&&r.2.1==f.2.1&&f.2.2.1==2 with
  |false=>exact⟨h3,z⟩
  |true =>
   refine⟨List.ne_nil_of_mem (aV.2 (.inl rfl)),λx y=>?_,e9 z.2⟩;rcases aV.1 y with rfl|⟨y,_⟩
   ·exact H
   ·exact z.1 x y
 ·show Asc _ ((aa.doubts n).map (dK f b));unfold Asc;rw[B7];exact h.doubts.2.1.imp λ {a c} h=>by show (dK f b a).1<(dK f b c).1;rw[(mV f b a).1,(mV f b c).1];exact h
 ·show _=((aa.doubts n).map (dK f b)).length;rw[BU];exact h.doubts.2.2
theorem mW {n:aa}{f:af}{b:Int}(h:UpN n)(I:n.2.2.1=false)(z:bf f)(M:ak f.1=ak n.1)(y:eY n b):UpN (cI b n f)/\(cI b n f).1=n.1/\(cI b n f).2.2.1=false:=by
 unfold cI;by_cases r:f.1=n.1
 ·rw[show (f.1==n.1)=true by simpa using r];exact xp h I z
 ·rw[show (f.1==n.1)=false by simpa using r];have H:=h.x.said z M y;have u:=oZ h.x.table.2 (OnN.refl n) (b:=b) r h.self;obtain⟨t,c,J,e⟩:=(OnN.refl n).say f b;simp only[cond_false];rw[show sayOf n f b=fV n t c J from e]at H u ⊢;exact⟨⟨H.conf f y,u,h.now1,⟨h.seq.seq,h.seq.turn⟩,h.inc,h.up⟩,rfl,I⟩
theorem km {n:aa}{t:List af}{b:Int}(h:UpN n)(J:n.2.2.1=false)(H:az t)(I:b8 t (ak n.1))(u:eY n b):UpN (eO n t b)/\(eO n t b).1=n.1/\(eO n t b).2.2.1=false:=by
 refine l7 (st:=cI b) (Inv:=λm=>UpN m/\m.1=n.1/\m.2.2.1=false) (ds:=t) (n:=n) ⟨h,rfl,J⟩ λm f y ⟨M,r,z⟩=>?_
 have:=mW (b:=b) M z (H.1 f y) (by rw[r];exact I f y) ⟨u.1,by rw[r];exact u.2⟩;exact⟨this.1,this.2.1.trans r,this.2.2⟩
theorem UpN.learns {n:aa}(h:UpN n):dr n:=⟨h.x.say,h.x.me,⟨_,h.self,rfl⟩,λd y=>by
 obtain⟨_,_,_,r⟩:=h.x.doubts.1 d y;exact⟨r.2,λx u=>(r.1 x u).1⟩⟩
def mX (n:aa)(o:List bY):aa:=(n.1,n.2.1,n.2.2.1,n.2.2.2.1,n.2.2.2.2.1,n.2.2.2.2.2.1,n.2.2.2.2.2.2.1,n.2.2.2.2.2.2.2.1,n.2.2.2.2.2.2.2.2.1,n.2.2.2.2.2.2.2.2.2.1,n.2.2.2.2.2.2.2.2.2.2.1,n.2.2.2.2.2.2.2.2.2.2.2.1,n.2.2.2.2.2.2.2.2.2.2.2.2.1,n.2.2.2.2.2.2.2.2.2.2.2.2.2.1,o)
theorem UpN.setOthers {n:aa}(h:UpN n){o:List bY}(r:c8 n.1 o):UpN (mX n o):=⟨⟨h.x.me,h.x.now0,h.x.table,h.x.site,h.x.cast,h.x.vs,h.x.probe,h.x.doubts,h.x.coord,h.x.places,r⟩,h.self,h.now1,⟨h.seq.seq,h.seq.turn⟩,h.inc,h.up⟩
theorem vP {u s:Int}{r:List af}{o:List bY}(I:c8 u o)(M:InP s 0 1)(H:s≠ak u)(J:r≠[])(O:az r)(y:b8 r s):c8 u (bq (λx:bY=>x.1) (s,r) o) :=
 ⟨λx z=>by
  rcases aV.1 z with rfl|⟨z,_⟩
  ·exact⟨M,H,J,O,y⟩
  ·exact I.1 x z,e9 I.2⟩
def gX (l:List Int)(t:Int):List Int:=(l++[t]).drop ((l++[t]).length-3)
def dG (l:List dJ)(r:Int):List Int:=((l.find? λp=>p.1==r).map (·.2.2)).getD []
def o6 (l:List dJ)(r:Int)(c:dy)(t:Int):List dJ:=bq (λp=>p.1) (r,c,gX (dG l r) t) l
def pP (n:aa)(c:dy)(p:List dJ):aa:=(n.1,n.2.1,n.2.2.1,n.2.2.2.1,n.2.2.2.2.1,n.2.2.2.2.2.1,n.2.2.2.2.2.2.1,n.2.2.2.2.2.2.2.1,n.2.2.2.2.2.2.2.2.1,n.2.2.2.2.2.2.2.2.2.1,noP,n.2.2.2.2.2.2.2.2.2.2.2.1,c,p,n.2.2.2.2.2.2.2.2.2.2.2.2.2.2)
theorem uk {l:List dJ}{r:Int}{t:Int}(h:t∈dG l r):∃ p∈l,t∈p.2.2:=by
 unfold dG at h;cases u:l.find? λp=>p.1==r with
 |none=>rw[u]at h;simp at h
 |some p =>
  rw[u]at h;exact⟨p,Cc u,h⟩
theorem xq {l:List Int}{t:Int}(u:∀ x∈l,InP x 1 60000)(y:InP t 1 60000):InP ((gX l t).length:Int) 1 3/\∀ x∈gX l t,InP x 1 60000:=by
 unfold gX;constructor
 ·simp only[B9,BP,BG,BM];constructor <;> omega
 ·intro x r;have:=List.mem_of_mem_drop r;rcases CC.1 this with h|h
  ·exact u x h
  ·rw[B8.1 h];exact y
theorem vQ {y r:Int}{l:List dJ}{c:dy}{t:Int}(h:eq y l)(I:InP r 0 7)(R:ak r=ak y)(J:r≠y)(M:cH c)(O:InP t 1 60000):eq y (o6 l r c t):=by
 have H:=xq (l:=dG l r) (t:=t) (λx z=>by
  obtain⟨p,u,z⟩:=uk z;exact (h.1 p u).2.2.2.2.2 x z) O
 exact⟨λp u=>by
  rcases aV.1 u with rfl|⟨u,_⟩
  ·exact⟨I,R,J,M,H.1,H.2⟩
  ·exact h.1 p u,e9 h.2⟩
theorem UpN.heard {n:aa}(h:UpN n){c:dy}{p:List dJ}(u:cH c)(r:eq n.1 p):UpN (pP n c p):=⟨⟨h.x.me,h.x.now0,h.x.table,h.x.site,h.x.cast,h.x.vs,xk n,h.x.doubts,u,r,h.x.others⟩,h.self,h.now1,⟨h.seq.seq,h.seq.turn⟩,h.inc,h.up⟩
theorem UpN.way {n:aa}(h:UpN n):UpN (iP n):=⟨h.x.way,h.self,h.now1,⟨h.seq.seq,h.seq.turn⟩,h.inc,h.up⟩
def Tot {α:Type}(o:Option α)(P:α->Prop):Prop:=∃ v,o=some v/\P v
section
variable {α β:Type} {P:α->Prop} {Q:β->Prop}
theorem Tot.ret {v:α}(h:P v):Tot (some v) P:=⟨v,rfl,h⟩
theorem Tot.mono {o:Option α}{r:α->Prop}(h:Tot o P)(k:∀ v,P v->r v):Tot o r:=by obtain⟨v,e,u⟩:=h;exact⟨v,e,k v u⟩
theorem Tot.bind {o:Option α}{g:α->Option β}(h:Tot o P)(k:∀ v,P v->Tot (g v) Q):Tot (o.bind g) Q:=by obtain⟨v,e,r⟩:=h;rw[e];exact k v r
theorem Tot.vl {o:Option α}{v:α}{g:α->Option β}(e:o=some v)(k:Tot (g v) Q):Tot (o.bind g) Q:=by rw[e];exact k
theorem Tot.cnd {b:Bool}{x y:Option α}(u:b=true->Tot x P)(r:b=false->Tot y P):Tot (bif b then x else y) P:=by
 cases b
 ·exact r rfl
 ·exact u rfl
theorem Tot.must {b:Bool}{x y:Option α}(r:b=true)(h:Tot x P):Tot (bif b then x else y) P:=by rw[r];exact h
theorem Tot.not {b:Bool}{x y:Option α}(r:b=false)(h:Tot x P):Tot (bif b then y else x) P:=by rw[r];exact h
theorem Tot.ix {xs:List α}{i:Int}{g:α->Option β}(u:0<=i)(z:i<xs.length)(k:∀ y∈xs,idx xs i=some y->Tot (g y) Q):Tot ((idx xs i).bind g) Q:=by
 obtain⟨n,rfl⟩:=BF u;have r:n<xs.length:=by omega
 have:=ag r;rw[this];exact k _ (BC r) this
theorem Tot.iter {A:Type}{step:(A->Option β)->A->Option β}(Inv:A->Prop)(m:A->Nat)(h:∀ (rec:A->Option β) (a:A),Inv a->(∀ r,Inv r->m r<m a->Tot (rec r) Q)->Tot (step rec a) Q):∀ (k:Nat) (a:A),m a<k->Inv a->Tot (ae step k a) Q:=by
 intro k;induction k with
 |zero=>intro a H;omega
 |succ k z =>
  intro a H I;exact h (ae step k) a I λr u y=>z r (by omega) u
end
theorem Ret.tot {o:Option RB}{P:Prop}(h:Ret o P):Tot o λv=>(v.1.1=true<->P):=by
 obtain⟨b,e,r⟩:=h;exact⟨_,e,r⟩
section
variable {α β:Type} {Q:β->Prop}
theorem Tot.cat {x y:ByteArray}{k:ByteArray->Option β}{a b:Nat}(H:x.size<=a)(r:y.size<=b)(h:∀ z:ByteArray,z.size<=a+b->Tot (k z) Q)(u:a+b<=4611686018427387904:=by omega):Tot (aW x y k) Q:=by
 unfold aW;rw[decide_eq_true (by omega)];exact h _ (by rw[ByteArray.size_append];omega)
theorem Tot.fit {a b c:Nat}{x y:Option β}(h:Tot x Q)(u:c<=1000:=by omega)(r:a+b<=2097152:=by omega):Tot (bif decide ((a+b)*c<=an) then x else y) Q:=by
 have:=Cg r u;rw[decide_eq_true (by unfold an;omega)];exact h
theorem Tot.ix2 {xs:List α}{i:Int}{g:α->Option β}(r:0<=i)(z:i<xs.length)(k:∀ y∈xs,idx xs i=some y->Tot (g y) Q):Tot ((idx xs i).bind λ_=>(idx xs ((BD i:Nat):Int)).bind g) Q :=
 Tot.ix r z λy u e=>by rw[Int.toNat_of_nonneg r,e];exact k y u e
end
theorem fG (s:ByteArray):s.data.toList.length=s.size:=Array.length_toList
theorem iR (xs:List Int):(gI xs).size=xs.length:=by
 unfold gI;show (List.toArray _).size=_;rw[List.size_toArray,BU]
theorem rg (s:ByteArray):(eo s).length=s.size:=by
 unfold eo;rw[BU];exact fG s
theorem dec_t:∀ (d k:Nat) (n:Int),0<=n->n<10 ^ (d+1)->n<=1000000000->d<=100->d<k->Tot (Q0.f k (n,())) λr=>r.1.1.size<=d+1:=by
 intro d;induction d with
 |zero =>
  intro k n H u X I R;obtain⟨k,rfl⟩:∃ m,k=m+1:=⟨k-1,by omega⟩;show Tot (Q0.step (Q0.f k) (n,())) _;simp only[Q0.step];refine Tot.not (decide_eq_false (show ¬ n< -9223372036854775807 by omega)) (Tot.not (decide_eq_false (show ¬ n<0 by omega)) (Tot.must (decide_eq_true (show n<10 by exact u)) (Tot.ret ?_)));show (gI _).size<=1;rw[iR];exact BR _
 |succ d M =>
  intro k n H u X I R;obtain⟨k,rfl⟩:∃ m,k=m+1:=⟨k-1,by omega⟩;show Tot (Q0.step (Q0.f k) (n,())) _;simp only[Q0.step];refine Tot.not (decide_eq_false (show ¬ n< -9223372036854775807 by omega)) (Tot.not (decide_eq_false (show ¬ n<0 by omega)) (Tot.cnd (λ_=>Tot.ret ?_) λh=>?_))
  ·show (gI _).size<=_;rw[iR];exact Nat.succ_le_succ (BX _)
  ·have h:¬ n<10:=of_decide_eq_false h;have e:Ch n 10=n / 10:=by rw[CB H]
   have y:(10:Int) ^ (d+1+1)=10 ^ (d+1)*10:=Int.pow_succ ..;have Y:n / 10<10 ^ (d+1):=Int.ediv_lt_of_lt_mul (by omega) (by rw[<- y];exact u);rw[e,aJ (by omega) (by omega)];refine Tot.bind (M k (n / 10) (by omega) Y (by omega) (by omega) (by omega)) λv J=>Tot.cat J (b:=1) (by rw[iR];exact BR _) (λz O=>Tot.ret O) (by omega)
theorem kY (K:Nat)(n:Int)(u:0<=n)(z:n<=999999)(y:1048577<K):Tot (Q0.f K (n,())) λr=>r.1.1.size<=6 :=
 dec_t 5 K n u (by show n<1000000;omega) (by omega) (by omega) (by omega)
theorem te (K:Nat)(i:Int)(u:0<=i)(y:i<=4):Tot (Q64.f K (i,())) λr=>r.1.1.size<=7:=by
 have:i=0\/i=1\/i=2\/i=3\/i=4:=by omega
 rcases this with rfl|rfl|rfl|rfl|rfl <;> exact⟨_,rfl,by decide⟩
theorem tf (K:Nat)(i:Int)(u:0<=i)(y:i<=6):Tot (Q61.f K (i,())) λr=>r.1.1.size<=4:=by
 have:i=0\/i=1\/i=2\/i=3\/i=4\/i=5\/i=6:=by omega
 rcases this with rfl|rfl|rfl|rfl|rfl|rfl|rfl <;> exact⟨_,rfl,by decide⟩
theorem yK (K:Nat)(t:List af)(R:az t)(hK:1048577<K):Tot (Q67.f K (t,())) λr=>r.1.1.size<=240:=by
 have hl:=iN R.2 (λg hg=>(R.1 g hg).1);refine Tot.iter (step:=λrec a=>Q67.s0 K (t,()) rec a) (λa=>0<=a.2/\a.2<=t.length/\(a.1.size:Int)<=30*a.2) (λa=>t.length-a.2.toNat) ?_ K _ (by show t.length-BD 0<K;omega) ⟨by show (0:Int)<=0;omega,by show (0:Int)<=_;omega,by show (0:Int)<=30*0;omega⟩;rintro rec ⟨s,i⟩ ⟨h0,h1,h2⟩ ih;simp only at h0 h1 h2 ih ⊢;simp only[Q67.s0];refine Tot.cnd (λh=>?_) λh=>?_
 ·have h:=of_decide_eq_true h;obtain⟨n,rfl⟩:=BF h0;have hn:n<t.length:=by omega
  obtain⟨⟨f1,f2⟩,⟨f3,f4⟩,f5,f6⟩:=R.1 t[n] (BC hn);rw[ag hn,ar n (by omega)];simp only[BA];have go:∀ z:ByteArray,z.size<=s.size+29->Tot (rec (z,((n+1:Nat):Int))) λr=>r.1.1.size<=240:=λz hz=>ih _ ⟨by show (0:Int)<=((n+1:Nat):Int);omega,by show ((n+1:Nat):Int)<=_;omega,by show (z.size:Int)<=30*((n+1:Nat):Int);omega⟩ (by show t.length-BD ((n+1:Nat):Int)<t.length-BD (n:Int);omega)
  have body:∀ X:ByteArray,X.size<=s.size+1->Tot ((Q0.f K (t[n].1,())).bind λy3=>aW X y3.1.1 λy4=>aW y4 (ByteArray.mk #[58]) λy5=>(Q0.f K (t[n].2.1,())).bind λy7=>aW y5 y7.1.1 λy8=>aW y8 (ByteArray.mk #[58]) λy9=>(Q64.f K (t[n].2.2.1,())).bind λZ=>aW y9 Z.1.1 λu=>bif t[n].2.2.2 then (aW u (ByteArray.mk #[42]) λO=>rec (O,((n+1:Nat):Int))) else (rec (u,((n+1:Nat):Int)))) λr=>r.1.1.size<=240:=λX y =>
   Tot.bind (kY K _ f1 (by omega) hK) λv1 s1=>Tot.cat y s1 λz1 H=>Tot.cat H (b:=1) (by decide) λz2 Y =>
   Tot.bind (kY K _ f3 (by omega) hK) λv2 s2=>Tot.cat Y s2 λz3 J=>Tot.cat J (b:=1) (by decide) λz4 M =>
   Tot.bind (te K _ (by omega) f6) λv3 s3=>Tot.cat M s3 λz5 I =>
   Tot.cnd (λ_=>Tot.cat I (b:=1) (by decide) λz6 a0=>go z6 (by omega)) λ_=>go z5 (by omega)
  exact Tot.cnd (λ_=>Tot.cat (BR _) (b:=1) (by decide) λz hz=>body z hz) λ_=>body s (by omega)
 ·have h:=of_decide_eq_false h;exact Tot.ret (by show s.size<=240;omega)
theorem ol (K:Nat)(t:List af)(z:t.length<=1048576)(u:1048577<K):Tot (Q68.f K (t,())) λr=>r.1.1.size<=240:=by
 simp only[Q68.f];refine Tot.bind (gq K t z u).tot λv y=>Tot.cnd (λ_=>Tot.ret (by show (0:Nat)<=240;omega)) λh=>?_
 have H:=y.1 (by simpa using h);exact Tot.cnd (λ_=>Tot.ret (by show (1:Nat)<=240;omega)) λ_=>Tot.bind (yK K t H u) λv h=>Tot.ret h
theorem pQ (K:Nat)(n:Int)(H:-999999<=n)(I:n<=999999)(y:1048577<K):Tot (Q70.f K (n,())) λr=>r.1.1.size<=7:=by
 simp only[Q70.f];refine Tot.cnd (λh=>?_) λh=>?_
 ·have h:n<0:=of_decide_eq_true h;rw[aJ (by omega) (by omega)];exact Tot.bind (kY K _ (by omega) (by omega) y) λv s=>Tot.cat (a:=1) (by decide) s λz u=>Tot.ret u
 ·have h:¬ n<0:=of_decide_eq_false h;exact Tot.bind (kY K _ (by omega) (by omega) y) λv s=>Tot.cat (a:=1) (by decide) s λz u=>Tot.ret u
theorem yL (K:Nat)(w:aj)(M:dz w)(y:1048577<K):Tot (Q71.f K (w,())) λr=>r.1.1.size<=400:=by
 obtain⟨_,⟨a1,X⟩,⟨I,b2⟩,⟨z,c2⟩,⟨H,d2⟩,⟨R,Z⟩,⟨⟨x1,x2⟩,⟨y1,y2⟩,⟨J,z2⟩,⟨u1,u2⟩⟩,O,_⟩:=M;have Y:=bT O;simp only[Q71.f];have u:(ByteArray.mk #[32]).size<=1:=by decide
 refine Tot.cnd (λ_=>?_) λ_=>?_ <;>
 exact Tot.cat (a:=3) (by decide) u λ_ h=>Tot.bind (tf K _ (by omega) X) λ_ s=>Tot.cat h s λ_ h=>Tot.cat h u λ_ h =>
  Tot.bind (kY K _ I (by omega) y) λ_ s=>Tot.cat h s λ_ h=>Tot.cat h u λ_ h =>
  Tot.bind (kY K _ z (by omega) y) λ_ s=>Tot.cat h s λ_ h=>Tot.cat h u λ_ h =>
  Tot.bind (kY K _ H (by omega) y) λ_ s=>Tot.cat h s λ_ h=>Tot.cat h u λ_ h =>
  Tot.bind (kY K _ R (by omega) y) λ_ s=>Tot.cat h s λ_ h=>Tot.cat h u λ_ h =>
  Tot.bind (pQ K _ (by show -999999<=(aj.coord w).1;omega) (by show (aj.coord w).1<=999999;omega) y) λ_ s=>Tot.cat h s λ_ h=>Tot.cat h u λ_ h =>
  Tot.bind (pQ K _ (by show -999999<=(aj.coord w).2.1;omega) (by show (aj.coord w).2.1<=999999;omega) y) λ_ s=>Tot.cat h s λ_ h=>Tot.cat h u λ_ h =>
  Tot.bind (kY K _ J (by show (aj.coord w).2.2.1<=999999;omega) y) λ_ s=>Tot.cat h s λ_ h=>Tot.cat h u λ_ h =>
  Tot.bind (kY K _ (by show 0<=(aj.coord w).2.2.2;omega) (by show (aj.coord w).2.2.2<=999999;omega) y) λ_ s=>Tot.cat h s λ_ h=>Tot.cat h u λ_ h =>
  Tot.bind (ol K _ Y y) λ_ s=>Tot.cat h s λ_ h=>Tot.ret (B6 h (by decide))
theorem yM (K:Nat)(n:Int)(I:1048577<K):Tot (Q73.f K (n,())) λ_=>True:=by
 refine Tot.iter (step:=λrec a=>Q73.s0 K (n,()) rec a) (λa=>0<=a.2/\a.2<=8) (λa=>8-a.2.toNat) ?_ K _ (by show 8-BD 0<K;omega) ⟨by show (0:Int)<=0;omega,by show (0:Int)<=8;omega⟩;rintro rec ⟨s,i⟩ ⟨r,H⟩ y;simp only at r H y ⊢;simp only[Q73.s0];obtain⟨i,rfl⟩:=BF r;refine Tot.cnd (λh=>?_) λ_=>Tot.ret trivial
 have h:=of_decide_eq_true h;rw[ar i (by omega)];have u:∀ z:Int,Tot (rec (z,((i+1:Nat):Int))) λ_=>True:=λz=>y _ ⟨by show (0:Int)<=((i+1:Nat):Int);omega,by show ((i+1:Nat):Int)<=8;omega⟩ (by show 8-BD ((i+1:Nat):Int)<8-BD (i:Int);omega)
 exact Tot.cnd (λ_=>u _) λ_=>u _
theorem Ac (K:Nat)(s:ByteArray)(J:s.size<=1000000)(H:1048577<K):Tot (Q74.f K (s,())) λ_=>True:=by
 refine Tot.iter (step:=λrec a=>Q74.s0 K (s,()) rec a) (λa=>0<=a.2/\a.2<=s.size) (λa=>s.size-a.2.toNat) ?_ K _ (by show s.size-BD 0<K;omega) ⟨by show (0:Int)<=0;omega,by show (0:Int)<=_;omega⟩;rintro rec ⟨z,i⟩ ⟨r,I⟩ u;simp only at r I u ⊢;simp only[Q74.s0];obtain⟨i,rfl⟩:=BF r;refine Tot.cnd (λh=>?_) λ_=>Tot.ret trivial
 have h:=of_decide_eq_true h;rw[ar i (by omega)];exact Tot.ix r (by rw[fG];exact h) λy _ _=>Tot.bind (yM K _ H) λv _=>u _ ⟨by show (0:Int)<=((i+1:Nat):Int);omega,by show ((i+1:Nat):Int)<=_;omega⟩ (by show s.size-BD ((i+1:Nat):Int)<s.size-BD (i:Int);omega)
theorem hex_t (K:Nat)(n:Int)(R:1048577<K):Tot (Q72.f K (n,())) λr=>r.1.1.size<=8:=by
 refine Tot.iter (step:=λrec a=>Q72.s0 K (n,()) rec a) (λa=>-1<=a.2/\a.2<=7/\a.1.length=7-a.2) (λa=>(a.2+1).toNat) ?_ K _ (by show BD 8<K;omega) ⟨by show (-1:Int)<=7;omega,by show (7:Int)<=7;omega,by show (0:Int)=7-7;omega⟩;rintro rec ⟨z,i⟩ ⟨H,I,J⟩ u;simp only at H I J u ⊢;simp only[Q72.s0];refine Tot.cnd (λh=>?_) λh=>?_
 ·have h:=of_decide_eq_true h;rw[aJ (n:=4*i) (by omega) (by omega),aJ (n:=i-1) (by omega) (by omega)];obtain⟨O,M⟩:=lB (a:=CG n (2 ^ min (BD (4*i)) 64)) (m:=15) (by omega);refine Tot.not (decide_eq_false (by omega)) (Tot.ix O (Int.lt_of_le_of_lt M (by decide)) λy _ _=>Tot.fit ?_ (by omega) (by simp only[BG,BM];omega));exact u _ ⟨by show -1<=i-1;omega,by show i-1<=7;omega,by show ((z++[_]).length:Int)=7-(i-1);rw[BP,CV];omega⟩ (by show BD (i-1+1)<BD (i+1);omega)
 ·have h:=of_decide_eq_false h;refine Tot.ret ?_;show (gI z).size<=8;rw[iR];omega
theorem om (K:Nat)(w:aj)(J:(aj.table w).length<=1048576)(u:1048577<K):Tot (Q75.f K (w,())) λr=>r.1.1.size<=409/\(¬ dz w->r.1.1=ByteArray.mk #[]):=by
 simp only[Q75.f];refine Tot.bind (lZ K w J u).tot λv M=>Tot.cnd (λ_=>Tot.ret ⟨by show (0:Nat)<=409;omega,λ_=>rfl⟩) λh=>?_
 have H:=M.1 (by simpa using h);exact Tot.bind (yL K w H u) λb I=>Tot.cat I (b:=1) (by decide) λz y=>Tot.bind (Ac K _ (by omega) u) λs _=>Tot.bind (hex_t K _ u) λx O=>Tot.cat y O λz y=>Tot.ret ⟨y,λh=>absurd H h⟩
theorem vR (K:Nat)(s:ByteArray)(c:Int)(hs:s.size<=100000)(hK:1048577<K):Tot (Q60.f K (s,c,())) λr=>r.1.1.length<=s.size+1/\∀ p∈r.1.1,p.size<=s.size:=by
 have H:∀ i j:Nat,(s.extract i j).size<=s.size:=λi j=>by rw[Cj];omega
 refine Tot.iter (step:=λrec a=>Q60.s0 K (s,c,()) rec a) (λa=>0<=a.2.1/\a.2.1<=a.2.2/\a.2.2<=s.size/\a.1.length<=a.2.2/\∀ p∈a.1,p.size<=s.size) (λa=>s.size-a.2.2.toNat) ?_ K _ (by show s.size-BD 0<K;omega) ⟨by show (0:Int)<=0;omega,by show (0:Int)<=0;omega,by show (0:Int)<=_;omega,by show (0:Int)<=0;omega,λp M=>by cases M⟩;rintro rec ⟨u,from_,i⟩ ⟨z,J,X,Z,R⟩ O;simp only at z J X Z R O ⊢;simp only[Q60.s0];obtain⟨i,rfl⟩:=BF (Ci z J);have I:∀ x:ByteArray,x.size<=s.size->∀ p∈u++[x],p.size<=s.size:=λx Y p M=>by
  rcases CC.1 M with h|h
  ·exact R p h
  ·rw[B8.1 h];exact Y
 refine Tot.cnd (λh=>?_) λh=>?_
 ·have h:=of_decide_eq_true h;rw[ar i (by omega)];refine Tot.ix (Ci z J) (by rw[fG];exact h) λy _ _=>Tot.cnd (λ_=>Tot.must (by rw[decide_eq_true z,decide_eq_true J,decide_eq_true X];rfl) (Tot.fit (O _ ⟨?_,?_,?_,?_,I _ (H _ _)⟩ ?_) (by omega) (by simp only[BG,BM];omega))) λ_=>O _ ⟨z,?_,?_,?_,R⟩ ?_
  ·show (0:Int)<=((i+1:Nat):Int);omega
  ·show ((i+1:Nat):Int)<=((i+1:Nat):Int);omega
  ·show ((i+1:Nat):Int)<=s.size;omega
  ·show ((u++[_]).length:Int)<=((i+1:Nat):Int);rw[BP,CV];omega
  ·show s.size-BD ((i+1:Nat):Int)<s.size-BD (i:Int);omega
  ·show from_<=((i+1:Nat):Int);omega
  ·show ((i+1:Nat):Int)<=s.size;omega
  ·show (u.length:Int)<=((i+1:Nat):Int);omega
  ·show s.size-BD ((i+1:Nat):Int)<s.size-BD (i:Int);omega
 ·refine Tot.must (by rw[decide_eq_true z,decide_eq_true (by omega),decide_eq_true (CJ _)];rfl) (Tot.fit (Tot.ret ⟨?_,I _ (H _ _)⟩) (by omega) (by simp only[BG,BM];omega));show (u++[_]).length<=_;rw[BP,CV];omega
theorem jU (K:Nat)(s:ByteArray)(Y:s.size<=100000)(X:1048577<K):Tot (Q62.f K (s,())) λ_=>True:=by
 simp only[Q62.f,Q62.pre];have r:((s.size:Int)<=6)->Tot (Q62.l0 K (s,()) (0,0)) λ_=>True:=λR=>by
  refine Tot.iter (step:=λrec a=>Q62.s0 K (s,()) rec a) (λa=>0<=a.2/\a.2<=s.size) (λa=>s.size-a.2.toNat) ?_ K _ (by show s.size-BD 0<K;omega) ⟨by show (0:Int)<=0;omega,by show (0:Int)<=_;omega⟩;rintro rec ⟨z,i⟩ ⟨u,O⟩ J;simp only at u O J ⊢;simp only[Q62.s0];obtain⟨i,rfl⟩:=BF u;refine Tot.cnd (λh=>?_) λ_=>Tot.ret trivial
  have h:=of_decide_eq_true h;have I:((i:Nat):Int)<s.data.toList.length:=by rw[fG];exact h
  rw[ar i (by omega)];exact Tot.ix u I λy _ _=>Tot.cnd (λ_=>Tot.ret trivial) λ_=>Tot.ix u I λy _ _=>Tot.cnd (λ_=>Tot.ret trivial) λ_=>Tot.ix u I λy _ _=>J _ ⟨by show (0:Int)<=((i+1:Nat):Int);omega,by show ((i+1:Nat):Int)<=_;omega⟩ (by show s.size-BD ((i+1:Nat):Int)<s.size-BD (i:Int);omega)
 refine Tot.bind (cG K _ _ _).tot λv M=>Tot.cnd (λ_=>Tot.ret trivial) λh=>?_
 have H:=M.1 (by simpa using h);exact Tot.cnd (λh=>Tot.ix (by omega) (by rw[fG];have:=of_decide_eq_true h;omega) λy _ _=>Tot.cnd (λ_=>Tot.ret trivial) λ_=>r H.2) λ_=>r H.2
theorem uR (K:Nat)(s:ByteArray)(J:s.size<=100000)(H:1048577<K):Tot (Q63.f K (s,())) λ_=>True:=by
 simp only[Q63.f];refine Tot.cnd (λ_=>Tot.ret trivial) λh=>?_
 have h:=of_decide_eq_false h;have z:(0:Int)<s.data.toList.length:=by rw[fG];omega
 have r:Tot (bif decide ((0:Int)<=1)&&decide ((1:Int)<=(s.size:Int))&&decide ((s.size:Int)<=(s.size:Int)) then ((Q62.f K (s.extract (BD 1) (BD (s.size:Int)),())).bind λu=>bif decide (u.1.1<0) then (some (((-1),false,()),())) else (bif s.toList==(ByteArray.mk #[45,48]).toList then (some (((-1),false,()),())) else ((idx s.data.toList 0).bind λI=>bif (I.toNat:Int)==45 then (some ((wr .i64 (0-u.1.1),true,()),())) else (some ((u.1.1,true,()),()))))) else none) λ (_:(Int×Bool×Unit)×Unit)=>True :=
  Tot.must (by rw[decide_eq_true (by omega:(0:Int)<=1),decide_eq_true (by omega:(1:Int)<=s.size),decide_eq_true (CJ _)];rfl) (Tot.bind (jU K _ (by rw[Cj];omega) H) λv _=>Tot.cnd (λ_=>Tot.ret trivial) λ_=>Tot.cnd (λ_=>Tot.ret trivial) λ_=>Tot.ix (by omega) z λy _ _=>Tot.cnd (λ_=>Tot.ret trivial) λ_=>Tot.ret trivial)
 exact Tot.ix (by omega) z λy _ _=>Tot.cnd (λ_=>Tot.ix (by omega) z λy _ _=>Tot.cnd (λ_=>Tot.ret trivial) λ_=>r) λ_=>r
theorem Ad (K:Nat)(s:ByteArray)(hs:s.size<=100000)(M:1048577<K):Tot (Q65.f K (s,())) λ_=>True:=by
 simp only[Q65.f,Q65.pre];have H:∀ (O:List ByteArray) (n1 n2:Int) (b:Bool),O.length=3->Tot (Q65.l0 K (s,()) (O,1,n1,n2,0,b)) λ_=>True:=λO n1 n2 b hx=>by
  refine Tot.iter (step:=λrec a=>Q65.s0 K (s,()) rec a) (λa=>a.1.length=3/\1<=a.2.1/\a.2.1<=5) (λa=>5-a.2.1.toNat) ?_ K _ (by show 5-BD 1<K;omega) ⟨hx,by show (1:Int)<=1;omega,by show (1:Int)<=5;omega⟩;rintro rec ⟨ys,i,m1,m2,m3,m4⟩ ⟨Z,h1,h2⟩ ih;simp only at Z h1 h2 ih ⊢;simp only[Q65.s0];refine Tot.cnd (λh=>?_) λ_=>Tot.bind (oQ K _).tot λ_ _=>Tot.ret trivial
  have h:=of_decide_eq_true h;rw[aJ (n:=i+1) (by omega) (by omega)];have go:∀ m:Int,Tot (rec (ys,i+1,m1,m2,m,m4)) λ_=>True:=λm=>ih _ ⟨Z,by show 1<=i+1;omega,by show i+1<=5;omega⟩ (by show 5-BD (i+1)<5-BD i;omega)
  exact Tot.bind (te K i (by omega) h) λv _=>Tot.ix2 (by omega) (by omega) λy _ _=>Tot.cnd (λ_=>go _) λ_=>go _
 have u:∀ (z:ByteArray) (b:Bool),z.size<=s.size->Tot ((Q60.f K (z,58,())).bind λr=>bif (BB r.1.1:Int) != 3 then (some (((0,(0,(0,b))),false,()),())) else ((idx r.1.1 0).bind λ_=>(idx r.1.1 (BD 0:Nat)).bind λI=>(Q62.f K (I,())).bind λX=>(idx r.1.1 1).bind λ_=>(idx r.1.1 (BD 1:Nat)).bind λR=>(Q62.f K (R,())).bind λY=>Q65.l0 K (s,()) (r.1.1,1,X.1.1,Y.1.1,0,b))) λ_=>True:=λz b hz =>
  Tot.bind (vR K z 58 (by omega) M) λv ⟨_,hp⟩=>Tot.cnd (λ_=>Tot.ret trivial) λh=>by
   have h3:(v.1.1.length:Int)=3:=by simpa using h
   exact Tot.ix2 (by omega) (by omega) λy J _=>Tot.bind (jU K y (by have:=hp y J;omega) M) λ_ _=>Tot.ix2 (by omega) (by omega) λy J _=>Tot.bind (jU K y (by have:=hp y J;omega) M) λ_ _=>H _ _ _ _ (by omega)
 refine Tot.cnd (λh=>?_) λ_=>u s false (BR _)
 have h:=of_decide_eq_true h;rw[aJ (n:=(s.size:Int)-1) (by omega) (by omega)];exact Tot.ix (by omega) (by rw[fG];omega) λy _ _=>Tot.cnd (λ_=>Tot.must (by simp only[CK,decide_eq_true_eq];omega) (u _ true (by rw[Cj];omega))) λ_=>u s false (BR _)
theorem Ae (K:Nat)(s:ByteArray)(R:s.size<=100000)(J:1048577<K):Tot (Q66.f K (s,())) λr=>r.1.1.length<=100001:=by
 simp only[Q66.f,Q66.pre];refine Tot.cnd (λ_=>Tot.ret (by show (0:Nat)<=_;omega)) λ_=>Tot.bind (vR K s 44 R J) ?_
 rintro⟨⟨xs,⟨⟩⟩,⟨⟩⟩ ⟨hl,hp⟩;dsimp only at hl hp ⊢;refine Tot.iter (step:=λrec a=>Q66.s0 K (s,()) rec a) (λa=>a.2.1=xs/\0<=a.2.2/\a.2.2<=xs.length/\(a.1.length:Int)<=a.2.2) (λa=>xs.length-a.2.2.toNat) ?_ K _ (by show xs.length-BD 0<K;omega) ⟨rfl,by show (0:Int)<=0;omega,by show (0:Int)<=_;omega,by show (0:Int)<=0;omega⟩;rintro rec ⟨u,H,i⟩ ⟨rfl,z,M,X⟩ I;simp only at z M X hl hp I ⊢;simp only[Q66.s0];obtain⟨i,rfl⟩:=BF z;refine Tot.cnd (λh=>?_) λ_=>Tot.ret (by show u.length<=_;omega)
 have h:=of_decide_eq_true h;rw[ar i (by omega)];exact Tot.ix2 z h λy O _=>Tot.bind (Ad K y (by have:=hp y O;omega) J) λv _=>Tot.cnd (λ_=>Tot.ret (by show (0:Nat)<=_;omega)) λ_=>Tot.fit (I _ ⟨rfl,by show (0:Int)<=((i+1:Nat):Int);omega,by show ((i+1:Nat):Int)<=_;omega,by show ((u++[_]).length:Int)<=((i+1:Nat):Int);rw[BP,CV];omega⟩ (by show H.length-BD ((i+1:Nat):Int)<H.length-BD (i:Int);omega)) (by omega) (by simp only[BG,BM];omega)
theorem Af (K:Nat)(s:ByteArray)(z:s.size<=100000)(u:1048577<K):Tot (Q69.f K (s,())) λr=>r.1.1.length<=100001:=by
 simp only[Q69.f];exact Tot.bind (Ae K s z u) λv y=>Tot.cnd (λ_=>Tot.ret (by show (0:Nat)<=_;omega)) λ_=>Tot.bind (ol K _ (by omega) u) λx _=>Tot.cnd (λ_=>Tot.ret (by show (0:Nat)<=_;omega)) λ_=>Tot.ret y
theorem mf (K:Nat)(s:ByteArray)(Z:s.size<=100000)(H:1048577<K):Tot (Q76.f K (s,())) λr=>r.1.2.1=true->dz r.1.1:=by
 simp only[Q76.f,Q76.pre];refine Tot.bind (vR K s 32 Z H) ?_;rintro⟨⟨xs,⟨⟩⟩,⟨⟩⟩ ⟨hl,hp⟩;dsimp only at hl hp ⊢;refine Tot.cnd (λ_=>Tot.ret λh=>by cases h) λ_=>Tot.cnd (λ_=>Tot.ret λh=>by cases h) λh=>?_
 have M:(xs.length:Int)=12:=by simpa using h
 have u:∀ y∈xs,y.size<=100000:=λy z=>B6 (hp y z) Z
 have I:∀ p:Int,Tot (Q76.l0 K (s,()) (xs,1,p,0)) λr=>r.1.2.1=true->dz r.1.1:=λp=>by
  refine Tot.iter (step:=λrec a=>Q76.s0 K (s,()) rec a) (λa=>a.1=xs/\1<=a.2.1/\a.2.1<=7) (λa=>7-a.2.1.toNat) ?_ K _ (by show 7-BD 1<K;omega) ⟨rfl,by show (1:Int)<=1;omega,by show (1:Int)<=7;omega⟩;rintro rec ⟨ys,i,p,k⟩ ⟨rfl,O,h2⟩ X;simp only at O h2 hl M u X ⊢;simp only[Q76.s0];refine Tot.cnd (λh=>?_) λ_=>?_
  ·have h:=of_decide_eq_true h;rw[aJ (n:=i+1) (by omega) (by omega)];have R:∀ m:Int,Tot (rec (ys,i+1,p,m)) λr=>r.1.2.1=true->dz r.1.1:=λm=>X _ ⟨rfl,by show 1<=i+1;omega,by show i+1<=7;omega⟩ (by show 7-BD (i+1)<7-BD i;omega)
   exact Tot.bind (tf K i (by omega) h) λv _=>Tot.ix2 (by omega) (by omega) λy _ _=>Tot.cnd (λ_=>R _) λ_=>R _
  ·refine Tot.ix2 (by omega) (by omega) λy z _=>Tot.bind (jU K y (u y z) H) λ_ _=>Tot.ix2 (by omega) (by omega) λy z _=>Tot.bind (jU K y (u y z) H) λ_ _=>Tot.ix2 (by omega) (by omega) λy z _=>Tot.bind (jU K y (u y z) H) λ_ _=>Tot.ix2 (by omega) (by omega) λy z _=>Tot.bind (jU K y (u y z) H) λ_ _ =>
    Tot.ix2 (by omega) (by omega) λy z _=>Tot.bind (uR K y (u y z) H) λ_ _=>Tot.ix2 (by omega) (by omega) λy z _=>Tot.bind (uR K y (u y z) H) λ_ _=>Tot.ix2 (by omega) (by omega) λy z _=>Tot.bind (Af K y (u y z) H) λt ht=>Tot.ix2 (by omega) (by omega) λy z _=>Tot.bind (jU K y (u y z) H) λ_ _=>Tot.ix2 (by omega) (by omega) λy z _=>Tot.bind (jU K y (u y z) H) λ_ _ =>
    Tot.cnd (λ_=>Tot.ret λh=>by cases h) λ_=>Tot.cnd (λ_=>Tot.ret λh=>by cases h) λ_=>Tot.cnd (λ_=>Tot.ret λh=>by cases h) λ_=>Tot.bind (om K _ (by show t.1.1.length<=1048576;omega) H) λx ⟨_,hx⟩=>Tot.cnd (λ_=>Tot.ret λh=>by cases h) λJ=>Tot.ret λ_=>?_
   refine Classical.byContradiction λhn=>?_
   rw[hx hn]at J;have Y:(ByteArray.mk #[]).toList=s.toList:=by
    have:((ByteArray.mk #[]).toList != s.toList)=false:=J;simpa using this
   rw[C8,C8]at Y;have h0:=congrArg BB Y;rw[fG,fG]at h0;have O:(ByteArray.mk #[]).size=0:=rfl;omega
 exact Tot.ix2 (by omega) (by omega) λy _ _=>Tot.cnd (λ_=>I 2) λ_=>I 1
def Rt (v r:Nat):Prop:=r*r<=v/\v<(r+1)*(r+1)
theorem AY (K:Nat)(v:Nat)(hv:v<1500000001*1500000001)(hK:1048577<K):∃ r,Rt v r/\Q48.f K ((v:Int),())=some (((r:Int),()),()):=by
 have z:∀ (e k l h:Nat),h-l<2 ^ e->e<k->l<=h->h<=1500000000->l*l<=v->v<(h+1)*(h+1)->∃ r,Rt v r/\ae (λrec a=>Q48.s0 K ((v:Int),()) rec a) k ((l:Int),(h:Int))=some (((r:Int),()),()):=by
  intro e;induction e with
  |zero =>
   intro k l h J hk H O y u;obtain⟨k,rfl⟩:∃ I,k=I+1:=⟨k-1,by omega⟩;have:l=h:=by omega
   subst this;refine⟨l,⟨y,u⟩,?_⟩;show Q48.s0 K _ _ _=_;simp only[Q48.s0];rw[decide_eq_false (by omega)];rfl
  |succ e M =>
   intro k l h J hk H O y u;obtain⟨k,rfl⟩:∃ I,k=I+1:=⟨k-1,by omega⟩;show ∃ r,Rt v r/\Q48.s0 K _ _ _=_;simp only[Q48.s0];by_cases hl:l<h
   ·rw[decide_eq_true (show (l:Int)<(h:Int) by omega)];have e1:wr .i64 ((l:Int)+(h:Int))=(l:Int)+h:=aJ (by omega) (by omega);have e2:wr .i64 ((l:Int)+(h:Int)+1)=((l+h+1:Nat):Int):=(aJ (by omega) (by omega)).trans (by omega);have Z:Ch ((l+h+1:Nat):Int) 2=(((l+h+1) / 2:Nat):Int):=by
     rw[CB (by omega)];omega
    rw[e1,e2,Z];have hm:l<(l+h+1) / 2/\(l+h+1) / 2<=h:=by omega
    have R:h-(l+h+1) / 2<2 ^ e/\(l+h+1) / 2-1-l<2 ^ e:=by
     rw[Nat.pow_succ]at J;omega
    generalize (l+h+1) / 2=m at *;have e4:wr .i64 (m:Int)=m:=aJ (by omega) (by omega);have e5:Ch (v:Int) (m:Int)=((v / m:Nat):Int):=by
     rw[CB (by omega)];rfl
    have a1:v / m<=v:=Nat.div_le_self _ _;have Y:m<=v / m<->m*m<=v:=Nat.le_div_iff_mul_le (by omega);generalize v / m=q at *;have e6:wr .i64 (q:Int)=(q:Int):=aJ (by omega) (by omega);rw[e4,e5,e6,decide_eq_false (show ¬ (m:Int)=0 by omega)];simp only[cond_true,cond_false];by_cases X:m<=q
    ·rw[decide_eq_true (by omega)];exact M k m h R.1 (by omega) (by omega) O (Y.1 X) u
    ·rw[decide_eq_false (by omega)];have a0:¬ m*m<=v:=λh4=>X (Y.2 h4)
     have e7:wr .i64 ((m:Int)-1)=((m-1:Nat):Int):=eN m (by omega) (by omega);rw[e7];exact M k l (m-1) R.2 (by omega) (by omega) (by omega) y (by rw[show m-1+1=m by omega];omega)
   ·have:l=h:=by omega
    subst this;refine⟨l,⟨y,u⟩,?_⟩;rw[decide_eq_false (by omega)];rfl
 exact z 31 K 0 1500000000 (by decide) (by omega) (by omega) (by omega) (by omega) hv
def iS (x:Int):Int:=if x< -1000000000 then -1000000000 else if x>1000000000 then 1000000000 else x
theorem qv (K:Nat)(x:Int):Q47.f K (x,())=some ((iS x,()),()):=by
 simp only[Q47.f,Q44.f,iS];by_cases h:x< -1000000000
 ·rw[decide_eq_true h,if_pos h];rfl
 ·rw[decide_eq_false h,if_neg h];by_cases r:x>1000000000
  ·rw[decide_eq_true r,if_pos r];rfl
  ·rw[decide_eq_false r,if_neg r];rfl
theorem tg (x:Int):-1000000000<=iS x/\iS x<=1000000000:=by
 unfold iS;split
 ·omega
 ·split <;> omega
theorem zx {a:Int}(h:-1000000000<=a/\a<=1000000000):0<=a*a/\a*a<=1000000000000000000:=by
 have e:∃ b:Nat,b<=1000000000/\a*a=((b*b:Nat):Int):=by
  refine⟨a.natAbs,by omega,?_⟩;exact (Int.natAbs_mul_self).symm
 obtain⟨b,r,u⟩:=e;have:=Cg r r;omega
theorem xt (K:Nat)(x y:Int)(H:1048577<K):Tot (Q49.f K (x,y,())) λ_=>True:=by
 simp only[Q49.f];rw[qv K x,qv K y];simp only[BA];have O:=zx (tg x);have M:=zx (tg y);generalize iS x*iS x=a at *;generalize iS y*iS y=b at *;have z:wr .i64 a=a:=aJ (by omega) (by omega);have J:wr .i64 b=b:=aJ (by omega) (by omega);have I:wr .i64 (a+b)=(((a+b).toNat:Nat):Int):=(aJ (by omega) (by omega)).trans (by omega);rw[z,J,I];obtain⟨r,_,u⟩:=AY K (a+b).toNat (by omega) H;rw[u];simp only[BA];rw[qv K r];exact⟨_,rfl,trivial⟩
theorem AZ (K:Nat)(c d:dy)(r:1048577<K):Tot (Q50.f K (c,d,())) λ_=>True:=by
 simp only[Q50.f];exact Tot.bind (iA K c).tot λ_ _=>Tot.cnd (λ_=>Tot.ret trivial) λ_=>Tot.bind (iA K d).tot λ_ _=>Tot.cnd (λ_=>Tot.ret trivial) λ_=>Tot.bind (xt K _ _ r) λ_ _=>Tot.ret trivial
theorem kG (K:Nat)(n y u:Int)(h:y<=u):Tot (Q44.f K (n,y,u,())) λr=>InP r.1.1 y u:=by
 simp only[Q44.f];exact Tot.cnd (λ_=>Tot.ret ⟨CJ _,h⟩) λH=>Tot.cnd (λ_=>Tot.ret ⟨h,CJ _⟩) λz=>Tot.ret ⟨Int.not_lt.1 (of_decide_eq_false H),Int.not_lt.1 (of_decide_eq_false z)⟩
theorem Ba (K:Nat)(c b:dy)(t s:Int)(H:cH c)(X:1048577<K):Tot (Q55.f K (c,b,t,s,())) λr=>cH r.1.1:=by
 simp only[Q55.f];refine Tot.bind (iA K c).tot λv I=>Tot.cnd (λh=>?_) λ_=>Tot.bind (iA K b).tot λv I=>Tot.cnd (λ_=>Tot.ret H) λz=>Tot.bind (cG K _ _ _).tot λv' M=>Tot.cnd (λ_=>Tot.ret H) λy=>?_
 ·rw[I.2 H]at h;cases h
 have Z:=I.1 (by simpa using z);have ht:=M.1 (by simpa using y);obtain⟨_,_,_,⟨c1,c2⟩⟩:=H;obtain⟨_,_,_,⟨b1,b2⟩⟩:=Z;obtain⟨t1,t2⟩:=ht;have Y:¬ wr .i64 (c.2.2.2+b.2.2.2)=0:=by rw[aJ (by omega) (by omega)];omega
 have u:∀ w:Int,Tot (Q54.f K (c,b,w,t,())) λr=>InP r.1.1 1 1500:=λw=>by
  simp only[Q54.f,Q53.f];refine Tot.bind (P:=λ_=>True) (Tot.cnd (λ_=>Tot.ret trivial) λ_=>Tot.ret trivial) λ_ _=>Tot.not (decide_eq_false (show ¬ t=0 by omega)) (Tot.bind (kG K _ _ _ (by omega)) λ_ _=>Tot.not (decide_eq_false Y) (Tot.bind (kG K _ _ _ (by omega)) λ_ h=>Tot.ret h))
 refine Tot.bind (AZ K c b X) λ_ _=>?_
 simp only[Q51.f];refine Tot.bind (P:=λ_=>True) (Tot.not (decide_eq_false Y) (Tot.ret trivial)) λ_ _=>Tot.bind (xt K _ _ X) λn _=>Tot.cnd (λ_=>?_) λh=>?_
 ·simp only[Q52.f];refine Tot.bind (P:=λ_=>True) (Tot.cnd (λ_=>Tot.ret trivial) λ_=>Tot.cnd (λ_=>Tot.ret trivial) λ_=>Tot.cnd (λ_=>Tot.ret trivial) λ_=>Tot.ret trivial) λ_ _=>Tot.cnd (λ_=>?_) λ_=>?_ <;>
  exact Tot.bind (kG K _ _ _ (by omega)) λ_ J=>Tot.bind (kG K _ _ _ (by omega)) λ_ z=>Tot.bind (kG K _ _ _ (by omega)) λ_ y=>Tot.bind (u _) λ_ O=>Tot.ret ⟨J,z,y,O⟩
 ·have R:¬ n.1.1=0:=by simpa using h
  refine Tot.cnd (λ_=>?_) λ_=>?_ <;>
  exact Tot.not (decide_eq_false R) (Tot.bind (kG K _ _ _ (by omega)) λ_ J=>Tot.not (decide_eq_false R) (Tot.bind (kG K _ _ _ (by omega)) λ_ z=>Tot.bind (kG K _ _ _ (by omega)) λ_ y=>Tot.bind (u _) λ_ O=>Tot.ret ⟨J,z,y,O⟩))
noncomputable def pR (K:Nat)(c b:dy)(t s:Int):dy:=((Q55.f K (c,b,t,s,())).getD (((0,0,0,0),()),())).1.1
noncomputable def se (K:Nat)(l:List Int):Int:=((Q56.f K (l,())).getD ((0,()),())).1.1
theorem xu (K:Nat)(c b:dy)(t s:Int)(u:cH c)(r:1048577<K):Q55.f K (c,b,t,s,())=some ((pR K c b t s,()),())/\cH (pR K c b t s):=by
 obtain⟨⟨⟨v,⟨⟩⟩,⟨⟩⟩,e,h⟩:=Ba K c b t s u r;unfold pR;rw[e];exact⟨rfl,h⟩
theorem med_t (K:Nat)(l:List Int)(hl:l.length<=100)(hK:1048577<K):Tot (Q56.f K (l,())) λ_=>True:=by
 simp only[Q56.f,Q56.pre];have H:∀ J:List Int,J.length<=100->Tot (Q56.l0 K (l,()) (J,[],0)) λ_=>True:=λJ hx=>by
  refine Tot.iter (step:=λrec a=>Q56.s0 K (l,()) (Q56.l1 K (l,()) rec) rec a) (λa=>a.1=J/\0<=a.2.2/\a.2.2<=J.length/\(a.2.1.length:Int)=a.2.2) (λa=>J.length-a.2.2.toNat) ?_ K _ (by show J.length-BD 0<K;omega) ⟨rfl,by show (0:Int)<=0;omega,by show (0:Int)<=_;omega,rfl⟩;rintro rec ⟨ys,z,i⟩ ⟨rfl,X,h1,h2⟩ Z;simp only at X h1 h2 hx Z ⊢;simp only[Q56.s0];obtain⟨i,rfl⟩:=BF X;refine Tot.cnd (λh=>?_) λ_=>Tot.cnd (λ_=>Tot.ret trivial) λh=>?_
  ·have I:=of_decide_eq_true h;clear h;refine Tot.iter (step:=λu a=>Q56.s1 K (l,()) rec u a) (λa=>a.1=ys/\a.2.1=z/\a.2.2.1=i/\0<=a.2.2.2/\a.2.2.2<=z.length) (λa=>z.length-a.2.2.2.toNat) ?_ K _ (by show z.length-BD 0<K;omega) ⟨rfl,rfl,rfl,by show (0:Int)<=0;omega,by show (0:Int)<=_;omega⟩;rintro u ⟨M,r,j,k⟩ ⟨rfl,rfl,e,k0,k1⟩ R;simp only at e k0 k1 I h1 h2 hx R Z ⊢;subst e;simp only[Q56.s1];obtain⟨k,rfl⟩:=BF k0;have Y:∀ y:Int,Tot (rec (M,(([]++((r.take (BD (k:Int))).drop (BD 0)))++([y]))++((r.take (BD (BB r:Int))).drop (BD (k:Int))),wr .i64 ((i:Int)+1))) λ_=>True:=λy=>by
    rw[ar i (by omega)];refine Z _ ⟨rfl,by show (0:Int)<=((i+1:Nat):Int);omega,by show ((i+1:Nat):Int)<=_;omega,?_⟩ (by show M.length-BD ((i+1:Nat):Int)<M.length-BD (i:Int);omega);simp only[BE,CX,B3,BO,BP,BW,B9,BG,BM];omega
   have O:Tot (bif decide (0<=0)&&decide ((0:Int)<=(k:Int))&&decide ((k:Int)<=(BB r:Int))&&true then (bif decide ((BB ([]:List (Ty.den (.int .i64)))+BB ((r.take (BD (k:Int))).drop (BD 0)))*8<=an) then ((idx M (i:Int)).bind λy3=>bif decide ((BB ([]++((r.take (BD (k:Int))).drop (BD 0)))+BB ([y3]))*8<=an) then (bif decide ((0:Int)<=(k:Int))&&decide ((k:Int)<=(BB r:Int))&&decide ((BB r:Int)<=(BB r:Int))&&true then (bif decide ((BB (([]++((r.take (BD (k:Int))).drop (BD 0)))++([y3]))+BB ((r.take (BD (BB r:Int))).drop (BD (k:Int))))*8<=an) then (rec (M,(([]++((r.take (BD (k:Int))).drop (BD 0)))++([y3]))++((r.take (BD (BB r:Int))).drop (BD (k:Int))),wr .i64 ((i:Int)+1))) else none) else none) else none) else none) else none) λ_=>True:=by
    refine Tot.must (by simp only[CK,decide_eq_true_eq,Co];omega) (Tot.fit (Tot.ix X I λy _ _=>Tot.fit (Tot.must (by simp only[CK,decide_eq_true_eq,Co];omega) (Tot.fit (Y y) (by omega) ?_)) (by omega) ?_) (by omega) ?_) <;>
    simp only[BE,CX,B3,BO,BP,BW,B9,BG,BM] <;> omega
   refine Tot.cnd (λh4=>?_) λ_=>O
   have h4:=of_decide_eq_true h4;refine Tot.ix k0 h4 λy1 _ _=>Tot.ix X I λy2 _ _=>Tot.cnd (λ_=>?_) λ_=>O
   rw[ar k (by omega)];exact R _ ⟨rfl,rfl,rfl,by show (0:Int)<=((k+1:Nat):Int);omega,by show ((k+1:Nat):Int)<=_;omega⟩ (by show r.length-BD ((k+1:Nat):Int)<r.length-BD (k:Int);omega)
  ·have h:¬ (z.length:Int)=0:=by simpa using h
   rw[aJ (n:=(z.length:Int)-1) (by omega) (by omega)];have e:Ch ((z.length:Int)-1) 2=((z.length:Int)-1) / 2:=by rw[CB (by omega)]
   rw[e,aJ (by omega) (by omega)];exact Tot.ix (by omega) (by omega) λy _ _=>Tot.ret trivial
 refine Tot.cnd (λh=>?_) λ_=>H l hl
 have h:=of_decide_eq_true h;rw[aJ (n:=(l.length:Int)-3) (by omega) (by omega)];exact Tot.must (by simp only[CK,decide_eq_true_eq,Co];omega) (H _ (by simp only[B9,BW];omega))
theorem med_s (K:Nat)(l:List Int)(u:l.length<=100)(r:1048577<K):Q56.f K (l,())=some ((se K l,()),()):=by
 obtain⟨⟨⟨v,⟨⟩⟩,⟨⟩⟩,e,_⟩:=med_t K l u r;unfold se;rw[e];rfl
theorem rh {α A R:Type}(k:α->Int)(x:α)(t:List α)(hA:Asc k t)(Y S1:List α->Nat->A)(I:List α->Option R){step:(A->Option R)->A->Option R}
  (h0:∀ (rec:A->Option R) (r:List α) (i:Nat) (O:i<t.length),r.length=i->(∀ y∈t.take i,k y<k x)->step rec (Y r i)=if k t[i]<k x then rec (Y (r++[t[i]]) (i+1)) else if k t[i]=k x then rec (S1 (r++[x]) (i+1)) else rec (S1 (r++[x]++[t[i]]) (i+1)))
  (h1:∀ (rec:A->Option R) (r:List α) (i:Nat) (O:i<t.length),r.length<=i+1->k x<k t[i]->step rec (S1 r i)=rec (S1 (r++[t[i]]) (i+1)))
  (e0:∀ (rec:A->Option R) (r:List α),r.length=t.length->(∀ y∈t,k y<k x)->step rec (Y r t.length)=I (r++[x]))
  (e1:∀ (rec:A->Option R) (r:List α),r.length<=t.length+1->step rec (S1 r t.length)=I r) {K:Nat} (hK:t.length<K):ae step K (Y [] 0)=I (bq k x t):=by
 have r1:∀ (n i K:Nat) (r:List α),i+n=t.length->n<K->r.length<=i+1->(∀ y∈t.drop i,k x<k y)->ae step K (S1 r i)=I (r++t.drop i):=by
  intro n;induction n with
  |zero =>
   intro i K r O hK M _;obtain⟨K,rfl⟩:∃ X,K=X+1:=⟨K-1,by omega⟩;have:i=t.length:=by omega
   subst this;show step (ae step K) _=_;rw[e1 _ _ M,Cm,BN]
  |succ n ih =>
   intro i K r O hK M hg;obtain⟨K,rfl⟩:∃ X,K=X+1:=⟨K-1,by omega⟩;have u:i<t.length:=by omega
   rw[BL u]at hg;show step (ae step K) _=_;rw[h1 _ _ _ u M (hg _ (.head _)),ih (i+1) K _ (by omega) (by omega) (by simp;omega) (λy z=>hg y (.tail _ z)),BL u];simp
 have H:∀ i (O:i<t.length),∀ y∈t.drop (i+1),k t[i]<k y:=λi O y z=>by
  have:=List.Pairwise.drop (i:=i) hA;rw[BL O]at this;exact (BQ.1 this).1 y z
 have r0:∀ (n i K:Nat) (r:List α),i+n=t.length->n<K->r=t.take i->(∀ y∈t.take i,k y<k x)->ae step K (Y r i)=I (bq k x t):=by
  intro n;induction n with
  |zero =>
   intro i K r O hK M J;obtain⟨K,rfl⟩:∃ X,K=X+1:=⟨K-1,by omega⟩;have:i=t.length:=by omega
   subst this;rw[CR]at M J;subst M;show step (ae step K) _=_;rw[e0 _ _ rfl J];unfold bq;rw[BT.2 (by simpa using J),BY.2 (λy z=>by have:=J y z;simp;omega)]
  |succ n ih =>
   intro i K r O hK M J;obtain⟨K,rfl⟩:∃ X,K=X+1:=⟨K-1,by omega⟩;have u:i<t.length:=by omega
   subst M;have a0:(t.take i).length=i:=by rw[BW];omega
   show step (ae step K) _=_;rw[h0 _ _ _ u a0 J];have Z:k x<=k t[i]->bq k x t=t.take i++x::(t.drop i).filter (λy=>decide (k x<k y)):=λhc=>by
    unfold bq;conv=>lhs;rw[<- Ck i t]
    rw[CD,CD,BT.2 (by simpa using J),(BY (l:=t.take i)).2 (λy z=>by have:=J y z;simp;omega),BO];rw[BL u,BV,if_neg (by simp;omega),BY.2 (λy z=>by have:=H i u y z;simp;omega),BN]
   by_cases hc:k t[i]<k x
   ·rw[if_pos hc];refine ih (i+1) K _ (by omega) (by omega) (by rw[DD,BK u];rfl) λy z=>?_
    rw[DD,BK u]at z;rcases CC.1 z with z|z
    ·exact J y z
    ·simp at z;rw[z];exact hc
   ·rw[if_neg hc,Z (by omega),BL u];by_cases he:k t[i]=k x
    ·rw[if_pos he,r1 n (i+1) K _ (by omega) (by omega) (by simp;omega) (λy z=>by have:=H i u y z;omega),BV,if_neg (by simp;omega),BT.2 (λy z=>by have:=H i u y z;simp;omega)];simp
    ·rw[if_neg he,r1 n (i+1) K _ (by omega) (by omega) (by simp;omega) (λy z=>by have:=H i u y z;omega),BV,if_pos (by simp;omega),BT.2 (λy z=>by have:=H i u y z;simp;omega)];simp
 exact r0 t.length 0 K [] (by omega) hK rfl (by simp)
theorem xv {t:List af}{f:af}(h:∀ g∈t,g.1<f.1):(bO t f).1=t++[f]:=by
 rw[gw (λg u e=>by have:=h g u;omega)];unfold bq;rw[BT.2 (by simpa using h),BY.2 (λy r=>by have:=h y r;simp;omega)]
theorem pS:∀ {fs t:List af},Asc (λf:af=>f.1) fs->(∀ g∈t,∀ f∈fs,g.1<f.1)->eX t fs=t++fs
 |[],t,_,_=>by simp[eX]
 |f::fs,t,u,h=>by
  show eX (bO t f).1 fs=_;rw[xv (λg r=>h g r f (by simp)),pS (BQ.1 u).2 ?_]
  ·simp
  ·intro g r e y;rcases CC.1 r with r|r
   ·exact h g r e (by simp[y])
   ·rw[B8.1 r];exact (BQ.1 u).1 e y
theorem vS {fs:List af}(h:az fs):eX [] fs=fs:=by
 rw[pS h.2 (by simp)];rfl
theorem Ag (K:Nat)(a b:List af)(r:az a)(u:az b)(y:1048577<K):Q35.f K (a,b,())=some ((eX a b,()),()):=by
 simp only[Q35.f,Q35.pre];obtain⟨X,I,J⟩:=gq K a (bT r) y;obtain⟨R,M,O⟩:=gq K b (bT u) y;have:=bT r;have:=bT u;rw[I,M,J.2 r,O.2 u];simp only[BA,BI,cond_false];rw[szb _ _ _ (by omega) (by show (BB ([]:List af))+a.length<=_;simp;omega)];simp only[cond_true,BO];refine oi a b r u.1 (step:=λrec x=>Q35.s0 K (a,b,()) rec x) (λt=>some ((t,()),())) ?_ ?_ (by omega)
 ·intro rec t i H z;simp only[Q35.s0];rw[bh (by omega:(i:Int)<(BB b:Int)),ag H,ar i (by omega)];simp only[cond_true,BA];rw[vK K t _ (bT z) z.2 y];rfl
 ·intro rec t;simp only[Q35.s0,aP];rfl
theorem o7 {r:Int}{l:List bY}(h:c8 r l)(s:Int):az (eE l s):=by
 rcases qU (l:=l) (s:=s) with e|⟨x,u,_,e⟩ <;> rw[e]
 ·exact⟨by simp,List.Pairwise.nil⟩
 ·exact (h.1 x u).2.2.2.1
theorem olen {u:Int}{l:List bY}(h:c8 u l):l.length<=1048576:=B6 (iN h.2 λx r=>⟨(h.1 x r).1.1,Ci (h.1 x r).1.2 (by decide)⟩) (by decide)
theorem xw (K:Nat)(n:aa)(s:Int)(t:List af)(h:c8 n.1 (aa.others n))(r:az t)(y:1048577<K):Q36.f K (n,s,t,())=some ((eX (eE (aa.others n) s) t,()),()):=by
 have z:=olen h;refine pE (step:=λrec a=>Q36.s0 K (n,s,t,()) rec a) (aa.others n) s (λl=>some ((eX l t,()),())) ?_ ?_ (aa.others n).length 0 K (by omega) (by omega)
 ·intro rec i u;simp only[Q36.s0];rw[bh (by omega:(i:Int)<(BB (aa.others n):Int)),ag u,ar i (by omega)];simp only[cond_true,BA];cases (aa.others n)[i].1==s with
  |false=>rfl
  |true=>exact (congrArg (λo=>BS o _) (Ag K _ t (h.1 _ (BC u)).2.2.2.1 r y)).trans rfl
 ·intro rec;simp only[Q36.s0,aP,cond_false];rw[vS r];refine (congrArg (λb=>bif b then _ else _) (szb (BB ([]:List af)) t.length 32 (by omega) ?_)).trans rfl;have:=bT r;simp;omega
theorem sum_s (K:Nat)(n:aa)(s:Int)(t:List af)(h:c8 n.1 (aa.others n))(R:1048577<K):Q37.f K (n,s,t,())=some ((mX n (bq (λx:bY=>x.1) (s,t) (aa.others n)),()),()):=by
 have X:=olen h;refine rh (step:=λrec a=>Q37.s0 K (n,s,t,()) rec a) (λx:bY=>x.1) (s,t) (aa.others n) h.2 (λr i=>(r,false,(i:Int))) (λr i=>(r,true,(i:Int))) (λo=>some ((mX n o,()),())) ?_ ?_ ?_ ?_ (by omega)
 ·intro rec r i I H _;simp only[Q37.s0,zcp4,zcp8];rw[bh (by omega:(i:Int)<(BB (aa.others n):Int)),ag I,ar i (by omega)];simp only[cond_true,BA,B4];have u:=szb r.length 1 32 (by omega) (by omega);have M:=szb (r++[(s,t)]).length 1 32 (by omega) (by simp;omega);generalize (aa.others n)[i]=y at *;by_cases J:y.1<s
  ·rw[if_pos J,show decide (y.1>=s)=false from decide_eq_false (by omega),show (y.1 != s)=true by simp;omega];exact (congrArg (λb=>bif b then _ else _) u).trans rfl
  ·rw[if_neg J,show decide (y.1>=s)=true from decide_eq_true (by omega)];refine (congrArg (λb=>bif b then _ else _) u).trans ?_;by_cases z:y.1=s
   ·rw[if_pos z,show (y.1 != s)=false by simpa using z];rfl
   ·rw[if_neg z,show (y.1 != s)=true by simpa using z];exact (congrArg (λb=>bif b then _ else _) M).trans rfl
 ·intro rec r i I H O;simp only[Q37.s0,zcp4,zcp8];rw[bh (by omega:(i:Int)<(BB (aa.others n):Int)),ag I,ar i (by omega)];simp only[cond_true,BA,BI,cond_false];have u:=szb r.length 1 32 (by omega) (by omega);rw[show ((aa.others n)[i].1 != s)=true by simp;have:s<_:=O;omega];exact (congrArg (λb=>bif b then _ else _) u).trans rfl
 ·intro rec r H _;simp only[Q37.s0,zcp4,zcp8,aP,cond_false,B4,cond_true];exact (congrArg (λb=>bif b then _ else _) (szb r.length 1 32 (by omega) (by omega))).trans rfl
 ·intro rec r H;simp only[Q37.s0,zcp4,zcp8,aP,cond_false,BI];rfl
theorem yN (K:Nat)(a b:List af)(X:a.length<=1048576)(Z:1048577<K):Q38.f K (a,b,())=rb (decide (a≠b)):=by
 simp only[Q38.f,Q38.pre];by_cases J:a.length=b.length
 ·rw[show ((BB a:Int) != (BB b:Int))=false by simp;omega];have:=co (step:=λrec x=>Q38.s0 K (a,b,()) rec x) a.length (λi=>(i:Int)) (λj=>∃ (h:j<a.length) (Y:j<b.length),a[j]≠b[j]) (rb false) (λ_=>rb true) ?_ ?_ a.length K 0 (by omega) (by omega)
  ·rcases this with ⟨H,z⟩|⟨j,_,H,⟨y,M,R⟩,_,z⟩
   ·refine (z:Q38.l0 K (a,b,()) 0=_).trans ?_;rw[decide_eq_false];rintro u;exact u (Cb J λi y M=>CW.1 λO=>H i (BX _) y ⟨y,M,O⟩)
   ·refine (z:Q38.l0 K (a,b,()) 0=_).trans ?_;rw[decide_eq_true];rintro rfl;exact R rfl
  ·intro rec i I;simp only[Q38.s0];rw[bh (by omega:(i:Int)<(BB a:Int)),ag I,ar i (by omega),ag (show i<b.length by omega)];simp only[cond_true,BA];rw[show Ty.eqv t2 a[i] (b[i]'(by omega))=decide (a[i]=b[i]'(by omega)) from fI _ _];by_cases r:a[i]=b[i]'(by omega)
   ·exact .inl ⟨λ⟨_,_,h⟩=>h r,by rw[decide_eq_true r];rfl⟩
   ·exact .inr ⟨⟨I,by omega,r⟩,by rw[decide_eq_false r];rfl⟩
  ·intro rec;simp only[Q38.s0,aP];rfl
 ·rw[show ((BB a:Int) != (BB b:Int))=true by simp;omega,decide_eq_true (show a≠b from λe=>J (by rw[e]))];rfl
end Go.Proofs.YtadlacffdemoiaaGreatEv
