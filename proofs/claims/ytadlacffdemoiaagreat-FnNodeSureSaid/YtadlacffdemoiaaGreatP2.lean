/- The marks that a law writes into what was answered, and the look whether they still stand. -/
import Derived.Test.YtadlacffdemoiaaGreatP1
import Derived.Test.YtadlacffdemoiaaGreatE0
import Derived.Laws.Strings
set_option linter.unusedVariables false
set_option linter.unusedSimpArgs false
open Bool renaming not_true->BI,not_false->Bw,true_and->CB,and_eq_true->CG,false_and->CM,eq_iff_iff->CO,and_self->CP,and_true->Cj,false_or->Cq,true_or->Cu,and_false->Cz,or_true->DK
open ByteArray renaming size_extract->Cf
open Classical renaming not_not->CS
open Eq renaming trans->Cr
open Go.ByteArray renaming toList_eq->C3
open Go.IntKind renaming wrap_i64->DD
open Int renaming toNat->BD,toNat_natCast->BE,eq_ofNat_of_zero_le->BF,tdiv_eq_ediv_of_nonneg->B6,fdiv->CC,le_refl->CF,toNat_zero->CT,tmod->CW,tdiv->Cd,le_trans->Ce,tmod_eq_emod_of_nonneg->Cm,le_of_lt->Ct,tmod_lt_of_pos->C6,tdiv_le_self->DE,tmod_nonneg->DH,tdiv_nonneg->DI
open List renaming length->BB,getElem_mem->BC,length_cons->BG,mem_filter->BH,getElem_of_mem->BJ,getElem?_eq_getElem->BK,drop_eq_getElem_cons->BL,length_nil->BM,append_nil->BN,nil_append->BO,length_append->BP,pairwise_cons->BQ,filter_eq_self->BT,length_map->BU,filter_cons->BV,length_take->BW,filter_eq_nil_iff->BX,mem_map->BY,drop_zero->BZ,reverse_reverse->Bx,pairwise_map->Bz,mem_singleton->B3,length_drop->B4,take_of_length_le->B5,mem_append->B7,filter_append->B9,append_assoc->CD,mem_cons->CE,length_filter_le->CH,pairwise_iff_getElem->CI,pairwise_append->CJ,take_succ_eq_append_getElem->CK,reverse_cons->CL,take_length->CN,getElem?_eq_none->CQ,length_singleton->CR,replicate->CV,ext_getElem->CX,mem_of_find?_eq_some->CY,length_take_le->CZ,length_reverse->Ca,getElem_take->Cb,take_append_drop->Cg,length_replicate->Ch,drop_length->Ci,map_append->Ck,length_pos_iff->Cl,filter_congr->Co,map_cons->Cp,pairwise_singleton->Cs,find?_cons->Cv,find?_some->Cw,length_set->Cx,set_append_right->Cy,mem_of_mem_take->C0,find?_eq_none->C4,mem_cons_self->C5,getElem_drop->C7,take_add_one->C8,perm_middle->C9,cons_append->DA,getElem_set->DB,mem_range->DJ,map_nil->DL
open List.Pairwise renaming filter->CU
open Nat renaming le_refl->BR,le_trans->By,zero_le->B8,lt_or_eq_of_le->CA,mul_le_mul->Cc,lt_trichotomy->Cn
open Option renaming bind_some->BA,bind->BS,getD_some->DC,map_some->DF
open Option.some renaming inj->DG
namespace Go.Proofs.YtadlacffdemoiaaGreatEv
open Go
theorem kR {α β R:Type}(t:List α)(p:α->Bool)(g:α->β)(n:Nat)(u:List β->Option R){step:(List β×Int->Option R)->List β×Int->Option R}
  (h:∀ (rec:List β×Int->Option R) (r:List β) (i:Nat) (M:i<t.length),r.length<=i->r.length<n->step rec (r,(i:Int))=rec (bif p t[i] then r++[g t[i]] else r,((i+1:Nat):Int)))
  (hn:∀ (rec:List β×Int->Option R) (r:List β) (i:Nat),i<t.length->r.length<=i->n<=r.length->step rec (r,(i:Int))=u r)
  (z:∀ (rec:List β×Int->Option R) (r:List β),r.length<=t.length->step rec (r,(t.length:Int))=u r) :
  ∀ (d i k:Nat) (r:List β),i+d=t.length->d<k->r.length<=i->r.length<=n->ae step k (r,(i:Int))=u (r++(((t.drop i).filter p).map g).take (n-r.length)):=by
 intro d;induction d with
 |zero =>
  intro i k r M X H _;obtain⟨k,rfl⟩:∃ I,k=I+1:=⟨k-1,by omega⟩;have:i=t.length:=by omega
  subst this;show step (ae step k) _=_;rw[z _ _ H];simp
 |succ d J =>
  intro i k r M X H Y;obtain⟨k,rfl⟩:∃ I,k=I+1:=⟨k-1,by omega⟩;have y:i<t.length:=by omega
  show step (ae step k) _=_;by_cases O:r.length<n
  ·rw[h _ _ _ y H O,BL y,BV];cases hp:p t[i] with
   |true =>
    simp only[cond_true,if_true,Cp];rw[J (i+1) k _ (by omega) (by omega) (by simp;omega) (by simp;omega)];congr 1;obtain⟨m,Z⟩:∃ m,n-r.length=m+1:=⟨n-r.length-1,by omega⟩;rw[Z,List.take_succ_cons,CD];simp only[BP,BG,BM];rw[show n-(r.length+(0+1))=m by omega];rfl
   |false =>
    simp only[cond_false];rw[J (i+1) k _ (by omega) (by omega) (by omega) (by omega)];rfl
  ·rw[hn _ _ _ y H (by omega)];rw[show n-r.length=0 by omega];simp
theorem vr {α β R:Type}(t:List α)(p:α->Bool)(g:α->β)(u:List β->Option R){step:(List β×Int->Option R)->List β×Int->Option R}
  (h:∀ (rec:List β×Int->Option R) (r:List β) (i:Nat) (z:i<t.length),r.length<=i->step rec (r,(i:Int))=rec (bif p t[i] then r++[g t[i]] else r,((i+1:Nat):Int)))
  (y:∀ (rec:List β×Int->Option R) (r:List β),r.length<=t.length->step rec (r,(t.length:Int))=u r) {k:Nat} (I:t.length<k) :
  ae step k ([],0)=u ((t.filter p).map g):=by
 have:=kR t p g (t.length+1) u (λrec r i z H _=>h rec r i z H) (λrec r i z H J=>by omega) y t.length 0 k [] (by omega) I (BR _) (by simp);refine this.trans ?_;congr 1;simp only[BO,BM,BZ];exact B5 (by have:=CH p t;simp;omega)
theorem dZ {e:Ty}{b:Nat}{xs:List e.den}(h:xs.length*b<=140737488355328):fJ e b xs=some ((xs,()),()):=by
 unfold fJ;rw[decide_eq_true (by simpa[am]using h)];rfl
theorem AG {α β:Type}{xs r:List α}{b:Nat}{x y:β}(h:(xs.length+r.length)*b<=140737488355328):(bif decide ((BB xs+BB r)*b<=am) then x else y)=x:=by
 rw[decide_eq_true (by simpa[am]using h)];rfl
theorem zF (K:Nat)(xs:List Int)(n:Int)(H:xs.length<=1048576):Q72.f K (xs,n,())=some ((xs.take n.toNat,()),()):=by
 simp only[Q72.f,Q71.f,BA,Q8.f];obtain⟨c,y,z,u,r⟩:∃ c:Int,(bif decide (0<(bif decide ((xs.length:Int)<n) then (xs.length:Int) else n)) then bif decide ((xs.length:Int)<n) then (xs.length:Int) else n else 0)=c/\0<=c/\c<=xs.length/\xs.take c.toNat=xs.take n.toNat:=by
  by_cases h:(xs.length:Int)<n
  ·rw[decide_eq_true h];simp only[cond_true];by_cases r:0<(xs.length:Int)
   ·rw[decide_eq_true r];refine⟨_,rfl,by simp,by simp,?_⟩;simp only[cond_true];rw[B5 (by omega),B5 (by omega)]
   ·rw[decide_eq_false r];refine⟨_,rfl,by simp,by simp,?_⟩;have:xs=[]:=List.eq_nil_of_length_eq_zero (by omega);subst this;simp
  ·rw[decide_eq_false h];simp only[cond_false];by_cases r:0<n
   ·rw[decide_eq_true r];exact⟨_,rfl,by simp;omega,by simp;omega,rfl⟩
   ·rw[decide_eq_false r];refine⟨_,rfl,by simp,by simp,?_⟩;simp only[cond_false];rw[show n.toNat=0 by omega];rfl
 rw[y,decide_eq_true z,decide_eq_true u];simp only[CT,BZ,decide_true,CP,cond_true];rw[dZ (by
  have:=CZ c.toNat xs;have I:(List.take c.toNat xs).length<=1048576:=by omega
  omega)]
 simp only[BA];rw[r];rfl
def mK (f:af):Bool:=f.2.2.2&&f.2.2.1==1
def fF (t:List af):List Int:=((t.filter mK).map (·.1)).take 2
theorem uE (K:Nat)(t:List af)(J:t.length<=1048576)(I:1048577<K):Q203.f K (t,2,())=some ((fF t,()),()):=by
 have:=kR (step:=λrec a=>Q203.s0 K (t,2,()) rec a) t mK (λf=>f.1) 2 (λz=>some ((z,()),())) ?_ ?_ ?_ t.length 0 K [] (by omega) (by omega) (BR _) (by simp)
 ·exact this
 ·intro rec r i u H y;simp only[Q203.s0];rw[bD (by omega:(i:Int)<(BB t:Int)),ag u,ar i (by omega),decide_eq_true (by omega:(BB r:Int)<2)];simp only[cond_true,BA,mK];cases t[i].2.2.2 with
  |true =>
   simp only[cond_true,CB];cases t[i].2.2.1==1 with
   |true=>simp only[cond_true];rw[AG (by simp;omega)]
   |false=>rfl
  |false=>rfl
 ·intro rec r i u H y;simp only[Q203.s0];rw[bD (by omega:(i:Int)<(BB t:Int)),decide_eq_false (by omega:¬ (BB r:Int)<2)];rfl
 ·intro rec r _;simp only[Q203.s0,aU];rfl
theorem wR (t:List af):(fF t).length<=2:=by
 unfold fF;exact CZ _ _
def eG (l:List b8)(s:Int):List af:=((l.find? λx=>x.1==s).map (·.2)).getD []
theorem pz {R:Type}(l:List b8)(s:Int)(r:List af->Option R){step:(Int->Option R)->Int->Option R}
  (h:∀ (rec:Int->Option R) (i:Nat) (H:i<l.length),step rec (i:Int)=bif l[i].1==s then r l[i].2 else rec ((i+1:Nat):Int))
  (u:∀ rec:Int->Option R,step rec (l.length:Int)=r []) :
  ∀ (d i k:Nat),i+d=l.length->d<k->ae step k (i:Int)=r (eG (l.drop i) s):=by
 intro d;induction d with
 |zero =>
  intro i k H J;obtain⟨k,rfl⟩:∃ z,k=z+1:=⟨k-1,by omega⟩;have:i=l.length:=by omega
  subst this;show step (ae step k) _=_;rw[u];simp[eG]
 |succ d I =>
  intro i k H J;obtain⟨k,rfl⟩:∃ z,k=z+1:=⟨k-1,by omega⟩;have y:i<l.length:=by omega
  show step (ae step k) _=_;rw[h _ _ y,BL y];simp only[eG,Cv];cases l[i].1==s with
  |true=>rfl
  |false=>exact I (i+1) k (by omega) (by omega)
theorem zG (K:Nat)(n:aa)(s:Int)(r:NB n)(y:1048577<K):Q65.f K (n,s,())=some ((eG (aa.others n) s,()),()):=by
 have z:=r.others;refine pz (step:=λrec a=>Q65.s0 K (n,s,()) rec a) (aa.others n) s (λt=>some ((t,()),())) ?_ ?_ (aa.others n).length 0 K (by omega) (by omega)
 ·intro rec i u;simp only[Q65.s0];rw[bD (by omega:(i:Int)<(BB (aa.others n):Int)),ag u,ar i (by omega)];rfl
 ·intro rec;simp only[Q65.s0,aU];rfl
theorem qT {l:List b8}{s:Int}:eG l s=[]\/∃ x∈l,x.1=s/\eG l s=x.2:=by
 unfold eG;cases h:l.find? λx=>x.1==s with
 |none=>exact .inl rfl
 |some x=>exact .inr ⟨x,CY h,by simpa using Cw h,rfl⟩
def bi {α:Type}(k:α->Int)(x:α)(xs:List α):List α:=xs.filter (λy=>decide (k y<k x))++x::xs.filter (λy=>decide (k x<k y))
theorem qU {α:Type}{k:α->Int}{xs:List α}{v:Int}{m:Nat}(J:m<=xs.length)(H:∀ i,(z:i<xs.length)->i<m->k xs[i]<v)(z:∀ i,(h:i<xs.length)->m<=i->v<=k xs[i]):xs.filter (λy=>decide (k y<v))=xs.take m:=by
 conv=>lhs;rw[<- Cg m xs]
 rw[B9];have r:(xs.take m).filter (λy=>decide (k y<v))=xs.take m:=by
  rw[BT];intro y u;obtain⟨i,r,rfl⟩:=BJ u;rw[BW]at r;rw[Cb];exact decide_eq_true (H i (by omega) (by omega))
 have I:(xs.drop m).filter (λy=>decide (k y<v))=[]:=by
  rw[BX];intro y u;obtain⟨i,r,rfl⟩:=BJ u;rw[B4]at r;rw[C7];have:=z (m+i) (by omega) (by omega);simp only[decide_eq_true_eq];omega
 rw[r,I,BN]
theorem qW {α:Type}{k:α->Int}{xs:List α}{v:Int}{m:Nat}(J:m<=xs.length)(H:∀ i,(z:i<xs.length)->i<m->k xs[i]<=v)(z:∀ i,(h:i<xs.length)->m<=i->v<k xs[i]):xs.filter (λy=>decide (v<k y))=xs.drop m:=by
 conv=>lhs;rw[<- Cg m xs]
 rw[B9];have r:(xs.take m).filter (λy=>decide (v<k y))=[]:=by
  rw[BX];intro y u;obtain⟨i,r,rfl⟩:=BJ u;rw[BW]at r;rw[Cb];have:=H i (by omega) (by omega);simp only[decide_eq_true_eq];omega
 have I:(xs.drop m).filter (λy=>decide (v<k y))=xs.drop m:=by
  rw[BT];intro y u;obtain⟨i,r,rfl⟩:=BJ u;rw[B4]at r;rw[C7];exact decide_eq_true (z (m+i) (by omega) (by omega))
 rw[r,I,BO]
theorem ig {α:Type}{k:α->Int}{xs:List α}{x:α}{m:Nat}(h:Asc k xs)(H:m<xs.length)(e:k xs[m]=k x):xs.set m x=bi k x xs:=by
 have J:=cE.1 h;have M:∀ i,(u:i<xs.length)->i<m->k xs[i]<k x:=λi u z=>by rw[<- e];exact J i m u H z
 have I:∀ i,(u:i<xs.length)->m<i->k x<k xs[i]:=λi u z=>by rw[<- e];exact J m i H u z
 rw[bi,qU (m:=m) (by omega) M (λi u r=>by
   rcases CA r with y|y
   ·exact Ct (I i u y)
   ·subst y;omega),
  qW (m:=m+1) (by omega) (λi u r=>by
   rcases CA (Nat.le_of_lt_succ r) with y|y
   ·exact Ct (M i u y)
   ·subst y;omega) (λi u r=>I i u r),
  List.set_eq_take_append_cons_drop,if_pos H]
theorem gq {α:Type}{k:α->Int}{xs:List α}{x:α}{m:Nat}(z:m<=xs.length)(H:∀ i,(u:i<xs.length)->i<m->k xs[i]<k x)(u:∀ i,(h:i<xs.length)->m<=i->k x<k xs[i]):xs.take m++[x]++xs.drop m=bi k x xs:=by
 rw[bi,qU z H (λi r y=>Ct (u i r y)),qW z (λi r y=>Ct (H i r y)) u,CD];rfl
theorem aX {α:Type}{k:α->Int}{xs:List α}{x y:α}:y∈bi k x xs<->y=x\/(y∈xs/\k y≠k x):=by
 simp only[bi,B7,CE,BH,decide_eq_true_eq];constructor
 ·rintro (⟨r,u⟩|rfl|⟨r,u⟩)
  ·exact .inr ⟨r,by omega⟩
  ·exact .inl rfl
  ·exact .inr ⟨r,by omega⟩
 ·rintro (rfl|⟨r,u⟩)
  ·exact .inr (.inl rfl)
  ·rcases Int.lt_or_gt_of_ne u with z|z
   ·exact .inl ⟨r,z⟩
   ·exact .inr (.inr ⟨r,z⟩)
theorem e8 {α:Type}{k:α->Int}{xs:List α}{x:α}(h:Asc k xs):Asc k (bi k x xs):=by
 unfold Asc bi;rw[CJ,BQ];refine⟨h.filter _,⟨λy u=>?_,h.filter _⟩,λy u z r=>?_⟩
 ·simpa using (BH.1 u).2
 ·have H:k y<k x:=by simpa using (BH.1 u).2
  rcases CE.1 r with rfl|r
  ·exact H
  ·have I:k x<k z:=by simpa using (BH.1 r).2
   omega
theorem yl {α:Type}{k:α->Int}{xs:List α}{x:α}:(bi k x xs).length<=xs.length+1:=by
 have:∀ l:List α,(l.filter (λy=>decide (k y<k x))).length+(l.filter (λy=>decide (k x<k y))).length<=l.length:=by
  intro l;induction l with
  |nil=>simp
  |cons y l u =>
   simp only[BV,BG];by_cases r:k y<k x
   ·rw[if_pos (decide_eq_true r),if_neg (by simp;omega)];simp only[BG];omega
   ·rw[if_neg (by simpa using r)];split <;> (try simp only[BG]) <;> omega
 have:=this xs;simp only[bi,BP,BG];omega
theorem oO {α:Type}{k:α->Int}{xs:List α}(h:Asc k xs){i:Nat}(u:i<xs.length){v:Int}(e:k xs[i]=v):xs.find? (λy=>k y==v)=some xs[i]:=by
 cases r:xs.find? (λy=>k y==v) with
 |none =>
  have:=C4.1 r xs[i] (BC u);simp[e]at this
 |some y =>
  have H:k y=v:=by simpa using Cw r
  obtain⟨j,z,rfl⟩:=BJ (CY r);have:=lW h z u (by rw[H,e]);subst this;rfl
theorem nJ {α:Type}{k:α->Int}{xs:List α}{v:Int}(h:∀ y∈xs,k y≠v):xs.find? (λy=>k y==v)=none:=by
 rw[C4];intro y r;simpa using h y r
def jQ {α:Type}(k:α->Int)(x:α):Bool->List α->List α
 |d,[]=>bif d then [] else [x]
 |d,y::r=>(bif !d&&decide (k x<=k y) then [x] else [])++((bif k y != k x then [y] else [])++jQ k x (d||decide (k x<=k y)) r)
theorem pA {α:Type}{k:α->Int}{x:α}:∀ {r:List α},(∀ y∈r,k x<k y)->jQ k x true r=r
 |[],_=>rfl
 |y::r,h=>by
  have H:=h y (by simp);simp only[jQ,BI,CM,cond_false,Cu,BO];rw[pA (λz u=>h z (by simp[u])),show (k y != k x)=true by simp;omega];rfl
theorem kS {α:Type}{k:α->Int}{x:α}:∀ {xs:List α},Asc k xs->jQ k x false xs=bi k x xs
 |[],_=>rfl
 |y::u,h=>by
  have R:Asc k u:=(BQ.1 h).2;have H:∀ z∈u,k y<k z:=(BQ.1 h).1;simp only[jQ,Bw,CB,Cq];by_cases I:k x<=k y
  ·rw[decide_eq_true I,pA (λz r=>by have:=H z r;omega)];simp only[cond_true,bi,BV];have O:u.filter (λz=>decide (k z<k x))=[]:=by
    rw[BX];intro z r;have:=H z r;simp;omega
   have M:u.filter (λz=>decide (k x<k z))=u:=by
    rw[BT];intro z r;have:=H z r;simp;omega
   rw[O,M,if_neg (by simp;omega)];by_cases J:k y=k x
   ·rw[if_neg (by simp;omega),show (k y != k x)=false by simpa using J];rfl
   ·rw[if_pos (by simp;omega),show (k y != k x)=true by simpa using J];rfl
  ·rw[decide_eq_false I,kS R,show (k y != k x)=true by simp;omega];simp only[cond_false,cond_true,bi,BV,BO];rw[if_pos (by simp;omega),if_neg (by simp;omega)];rfl
theorem sH {α A R:Type}(k:α->Int)(x:α)(t:List α)(q:α->Bool)(Y:Option R)(u:List α->Option R)(S:List α->Bool->Nat->A){step:(A->Option R)->A->Option R}
  (h:∀ (rec:A->Option R) (r:List α) (d:Bool) (i:Nat) (X:i<t.length),r.length<=i+1->(d=false->r.length<=i)->step rec (S r d i)=bif q t[i] then Y else rec (S ((r++(bif !d&&decide (k x<=k t[i]) then [x] else []))++(bif k t[i] != k x then [t[i]] else [])) (d||decide (k x<=k t[i])) (i+1)))
  (z:∀ (rec:A->Option R) (r:List α) (d:Bool),r.length<=t.length+1->(d=false->r.length<=t.length)->step rec (S r d t.length)=u (r++(bif d then [] else [x]))) :
  ∀ (n i K:Nat) (r:List α) (d:Bool),i+n=t.length->n<K->r.length<=i+1->(d=false->r.length<=i)->ae step K (S r d i)=bif (t.drop i).any q then Y else u (r++jQ k x d (t.drop i)):=by
 intro n;induction n with
 |zero =>
  intro i K r d X hK M y;obtain⟨K,rfl⟩:∃ J,K=J+1:=⟨K-1,by omega⟩;have:i=t.length:=by omega
  subst this;show step (ae step K) _=_;rw[z _ _ _ M y,Ci];rfl
 |succ n Z =>
  intro i K r d X hK M y;obtain⟨K,rfl⟩:∃ J,K=J+1:=⟨K-1,by omega⟩;have I:i<t.length:=by omega
  show step (ae step K) _=_;rw[h _ _ _ _ I M y,BL I,List.any_cons];cases hq:q t[i] with
  |true=>rfl
  |false =>
   simp only[cond_false,Cq,jQ];rw[Z (i+1) K _ _ (by omega) (by omega) ?_ ?_]
   ·simp only[CD]
   ·cases d with
    |true =>
     simp only[BI,CM,cond_false,BN];cases k t[i] != k x <;> simp <;> omega
    |false =>
     have:=y rfl;cases O:decide (k x<=k t[i]) <;> cases k t[i] != k x <;> simp <;> omega
   ·intro H;rw[Bool.or_eq_false_iff]at H;obtain⟨rfl,O⟩:=H;have:=y rfl;rw[O];cases k t[i] != k x <;> simp <;> omega
theorem tZ (K:Nat)(n:aa)(u:NB n)(r:1048577<K):∃ b,Q112.f K (n,())=rb b/\Q49.f K (n,())=rb b/\(b=true<->gL n):=by
 obtain⟨b,z,y⟩:=sG K n u r;obtain⟨I,J,H⟩:=lY K n u r;have:b=I:=by rw[CO,y,H]
 subst this;exact⟨b,z,J,y⟩
theorem gL.up {n:aa}(h:gL n)(r:n.2.1=true):UpP n:=by
 have:=h.2.2.2.2.2
 rwa [if_pos r]at this
abbrev ao:=Int×Int×Int×Int×Int×Int×dC×List af
abbrev ao.table (w:ao):List af:=w.2.2.2.2.2.2.2
abbrev ao.coord (w:ao):dC:=w.2.2.2.2.2.2.1
def lZ:List af->Prop
 |[]=>False
 |f::l=>bP (f::l) (ak f.1)
def fb (w:ao):Prop:=InP w.1 1 2/\InP w.2.1 1 6/\InP w.2.2.1 0 7/\InP w.2.2.2.1 0 7/\InP w.2.2.2.2.1 0 999999/\InP w.2.2.2.2.2.1 0 7/\cJ (ao.coord w)/\ax (ao.table w) /\
 (if w.2.1=6 then lZ (ao.table w) else bP (ao.table w) (ak w.2.2.1))
theorem sI (K:Nat)(w:ao)(u:(ao.table w).length<=1048576)(r:1048577<K):Ret (Q130.f K (w,())) (fb w):=by
 refine Ret.nx (cI K _ _ _) λ_=>Ret.nx (cI K _ _ _) λ_=>Ret.nx (cI K _ _ _) λ_=>Ret.nx (cI K _ _ _) λ_=>Ret.nx (cI K _ _ _) λ_=>Ret.nx (cI K _ _ _) λ_=>Ret.nx (iA K _) λ_=>Ret.nx (gl K _ u r) λ_=>?_
 dsimp only;by_cases h:w.2.1=6
 ·rw[show (w.2.1==6)=true by simpa using h,if_pos h];obtain⟨w1,w2,w3,w4,y,z,H,t⟩:=w;cases t with
  |nil=>exact Ret.no (λh=>h)
  |cons f l =>
   rw[show decide ((BB (f::l):Int)>0)=true from decide_eq_true (by simp only[BG];omega)];simp only[cond_true];exact Ret.vl (ag (xs:=f::l) (i:=0) (by simp)) (gn K _ _ u r).id
 ·rw[show (w.2.1==6)=false by simpa using h,if_neg h];exact (gn K _ _ u r).id
theorem ym (K:Nat)(w:ao)(u:(ao.table w).length<=1048576)(r:1048577<K):Ret (Q50.f K (w,())) (fb w):=by
 refine Ret.iff (Q:=fb w) (Ret.nx (eJ K _ _ _) λ_=>Ret.nx (eJ K _ _ _) λ_=>Ret.nx (jb K _) λ_=>Ret.nx (jb K _) λ_=>Ret.nx (jb K _) λ_=>Ret.nx (eJ K _ _ _) λ_=>Ret.nx (nH K _) λ_=>Ret.nx (gm K _ u r)
  (Q:=if w.2.1=6 then lZ (ao.table w) else bP (ao.table w) (ak w.2.2.1)) λ_=>?_) ?_
 ·dsimp only;by_cases h:w.2.1=6
  ·rw[show (w.2.1==6)=true by simpa using h,if_pos h];obtain⟨w1,w2,w3,w4,y,z,H,t⟩:=w;cases t with
   |nil=>exact Ret.no (λh=>h)
   |cons f l =>
    rw[show decide ((BB (f::l):Int)>0)=true from decide_eq_true (by simp only[BG];omega)];simp only[cond_true];exact Ret.vl (ag (xs:=f::l) (i:=0) (by simp)) (Ret.vl (pt K _) (kf K _ _ u r).id)
  ·rw[show (w.2.1==6)=false by simpa using h,if_neg h];simp only[cond_false];exact Ret.vl (pt K _) (kf K _ _ u r).id
 ·unfold fb;constructor
  ·rintro⟨h1,h2,h3,h4,h5,h6,h7,h8,h9⟩;exact⟨h1,h2,h3,h4,h6,h5,h7,h8,h9⟩
  ·rintro⟨h1,h2,h3,h4,h6,h5,h7,h8,h9⟩;exact⟨h1,h2,h3,h4,h5,h6,h7,h8,h9⟩
theorem iC {α A R:Type}(xs:List α)(S:List α->Nat->A)(r:Option R){step:(A->Option R)->A->Option R}
  (h:∀ (rec:A->Option R) (u:List α) (i:Nat) (z:i<xs.length),u.length=i->step rec (S u i)=rec (S (u++[xs[i]]) (i+1))) (y:∀ rec:A->Option R,step rec (S xs xs.length)=r) {k:Nat} (H:xs.length<k):ae step k (S [] 0)=r:=by
 refine nI (step:=step) xs.length (λi=>S (xs.take i) i) r ?_ ?_ H
 ·intro rec i z;show step rec (S (xs.take i) i)=rec (S (xs.take (i+1)) (i+1));rw[h rec (xs.take i) i z (by simp;omega),CK z]
 ·intro rec;show step rec (S (xs.take xs.length) xs.length)=r;rw[CN];exact y rec
theorem szb (a b c:Nat)(r:c<=64)(h:a+b<=2097152):decide ((a+b)*c<=am)=true:=by
 have:=Cc h r;exact decide_eq_true (by unfold am;omega)
theorem wS (K:Nat)(n:aa)(u:NB n)(H:1048577<K):Q115.f K (n,())=some ((n,()),()):=by
 have R:=u.table;have J:=u.cast;have I:=u.doubts;have M:=u.places;have O:=u.others;simp only[Q115.f,Q115.pre];rw[szb _ _ _ (by omega) (by show (BB ([]:List af))+(aa.table n).length<=_;simp;omega),szb _ _ _ (by omega) (by show (BB ([]:List aL))+(aa.cast n).length<=_;simp;omega)];simp only[cond_true];refine iC (aa.doubts n) (step:=λrec a=>Q115.s0 K (n,()) (Q115.l1 K (n,())) rec a) (λr i=>((i:Int),r)) _ ?_ ?_ (by omega)
 ·intro rec r i y z;have:=u.by_ _ (BC y);simp only[Q115.s0];rw[bD (by omega:(i:Int)<(BB (aa.doubts n):Int)),ag y,ar i (by omega)];simp only[cond_true,BA];rw[szb _ _ _ (by omega) (by simp;omega),szb _ _ _ (by omega) (by simp;omega)];rfl
 ·intro rec;simp only[Q115.s0,aU,cond_false];refine iC (aa.places n) (step:=λrec a=>Q115.s1 K (n,()) (Q115.l2 K (n,())) rec a) (λr i=>((i:Int),aa.doubts n,r)) _ ?_ ?_ (by omega)
  ·intro rec r i y z;have:=u.trips _ (BC y);simp only[Q115.s1];rw[bD (by omega:(i:Int)<(BB (aa.places n):Int)),ag y,ar i (by omega)];simp only[cond_true,BA];rw[szb _ _ _ (by omega) (by simp;omega),szb _ _ _ (by omega) (by simp;omega)];rfl
  ·intro rec;simp only[Q115.s1,aU,cond_false];refine iC (aa.others n) (step:=λrec a=>Q115.s2 K (n,()) rec a) (λr i=>((i:Int),aa.doubts n,aa.places n,r)) _ ?_ ?_ (by omega)
   ·intro rec r i y z;have:=u.facts _ (BC y);simp only[Q115.s2,zcp8];rw[bD (by omega:(i:Int)<(BB (aa.others n):Int)),ag y,ar i (by omega)];simp only[cond_true,BA];rw[szb _ _ _ (by omega) (by simp;omega),szb _ _ _ (by omega) (by simp;omega)];rfl
   ·intro rec;simp only[Q115.s2,zcp8,aU,cond_false];rfl
theorem yn (K:Nat)(n:aa)(u:NB n)(H:1048577<K):Q93.f K (n,())=some ((n,()),()):=by
 have R:=u.table;have J:=u.cast;have I:=u.doubts;have M:=u.places;have O:=u.others;simp only[Q93.f,Q93.pre];refine iC (aa.doubts n) (step:=λrec a=>Q93.s0 K (n,()) (Q93.l1 K (n,())) rec a) (λr i=>(r,(i:Int))) _ ?_ ?_ (by omega)
 ·intro rec r i y z;have:=u.by_ _ (BC y);simp only[Q93.s0,Q8.f];rw[bD (by omega:(i:Int)<(BB (aa.doubts n):Int)),ag y,ar i (by omega)];simp only[cond_true,BA];rw[dZ (by omega)];simp only[BA];rw[szb _ _ _ (by omega) (by simp;omega)];rfl
 ·intro rec;simp only[Q93.s0,aU,cond_false];refine iC (aa.places n) (step:=λrec a=>Q93.s1 K (n,()) (Q93.l2 K (n,())) rec a) (λr i=>(aa.doubts n,r,(i:Int))) _ ?_ ?_ (by omega)
  ·intro rec r i y z;have:=u.trips _ (BC y);simp only[Q93.s1,Q8.f];rw[bD (by omega:(i:Int)<(BB (aa.places n):Int)),ag y,ar i (by omega)];simp only[cond_true,BA];rw[dZ (by omega)];simp only[BA];rw[szb _ _ _ (by omega) (by simp;omega)];rfl
  ·intro rec;simp only[Q93.s1,aU,cond_false];refine iC (aa.others n) (step:=λrec a=>Q93.s2 K (n,()) rec a) (λr i=>(aa.doubts n,aa.places n,r,(i:Int))) _ ?_ ?_ (by omega)
   ·intro rec r i y z;have:=u.facts _ (BC y);simp only[Q93.s2,zcp8,Q0.f];rw[bD (by omega:(i:Int)<(BB (aa.others n):Int)),ag y,ar i (by omega)];simp only[cond_true,BA];rw[dZ (by omega)];simp only[BA];rw[szb _ _ _ (by omega) (by simp;omega)];rfl
   ·intro rec;simp only[Q93.s2,zcp8,aU,cond_false,Q0.f,Q2.f];rw[dZ (by show (aa.table n).length*_<=_;omega),dZ (by show (aa.cast n).length*_<=_;omega)];rfl
instance (f g:af):Decidable (bI f g):=by unfold bI;infer_instance
theorem pB (K:Nat)(f g:af):Q105.f K (f,g,())=rb (decide (bI f g)):=by
 obtain⟨b,r,u⟩:=sE K f g;rw[r,show b=decide (bI f g) by rw[CO,u];simp]
def bS (t:List af)(f:af):List af×Bool :=
 match t.find? (λg=>g.1==f.1) with
 |some g=>if bI f g then (bi (λg=>g.1) f t,true) else (t,false)
 |none=>(bi (λg=>g.1) f t,true)
theorem kh {t:List af}{f:af}(u:Asc (λg:af=>g.1) t){i:Nat}(r:i<t.length)(e:t[i].1=f.1):bS t f=if bI f t[i] then (bi (λg=>g.1) f t,true) else (t,false):=by
 unfold bS;rw[show t.find? (λg=>g.1==f.1)=some t[i] from oO u r e]
theorem ii {t:List af}{f:af}(h:∀ g∈t,g.1≠f.1):bS t f=(bi (λg=>g.1) f t,true):=by
 unfold bS;rw[show t.find? (λg=>g.1==f.1)=none from nJ h]
theorem ju {e:Ty}{b:Nat}{xs:List e.den}{m:Nat}{v:e.den}(u:m<=xs.length)(r:b<=64)(y:xs.length<=1048576):fO e b xs (m:Int) [v]=some ((xs.take m++[v]++xs.drop m,()),()):=by
 unfold fO;have:(xs.length+[v].length)*b<=140737488355328:=By (Cc (show xs.length+[v].length<=1048577 by simp;omega) r) (by decide);rw[if_pos ⟨by omega,by omega,by simp,by simpa only[am]using this⟩,BE]
theorem qX {e:Ty}{xs:List e.den}{u:e.den×Unit->Option Bool}(p:e.den->Bool)(z:xs.length<=1048576)(h:∀ x∈xs,u (x,())=some (p x)):gI e xs u=some ((xs.filter (λx=>!p x),()),()):=by
 have:∀ r:List e.den,(∀ x∈r,u (x,())=some (p x))->lQ u r=some (r.filter (λx=>!p x)):=by
  intro r;induction r with
  |nil=>intro _;rfl
  |cons y r H =>
   intro h;simp only[lQ,h y (by simp),BA,H (λx z=>h x (by simp[z])),DF,BV];cases p y <;> rfl
 unfold gI;rw[if_pos z,this xs h];rfl
theorem put_s (K:Nat)(t:List af)(f:af)(ht:t.length<=1048576)(R:Asc (λg:af=>g.1) t)(Y:1048577<K):Q132.f K (t,f,())=some (((bS t f).1,(bS t f).2,()),()):=by
 simp only[Q132.f,Q132.pre];obtain⟨o,H,M⟩:=fk K t f.1 ht Y;rw[M];simp only[BA];cases H with
 |at_ i r e =>
  simp only;rw[kh R r e,decide_eq_true (by omega:((i:Nat):Int)>=0),ag r];simp only[cond_true,BA];rw[show Q105.f K (f,t[i],())=_ from pB K f t[i]];simp only[BA];by_cases H:bI f t[i]
  ·rw[decide_eq_true H,if_pos H];simp only[BI,cond_false];rw[szb _ _ _ (by omega) (by show (BB ([]:List af))+t.length<=_;simp;omega)];simp only[cond_true,BO,ag r,BA,BE];rw[ig (k:=λg:af=>g.1) R r e]
  ·rw[decide_eq_false H,if_neg H];rfl
 |no h =>
  simp only;rw[ii h,decide_eq_false (by omega:¬ (-1:Int)>=0)];simp only[cond_false];have J:∀ m:Nat,m<=t.length->(bif decide ((0:Int)<=0)&&decide ((0:Int)<=(m:Int))&&decide ((m:Int)<=(BB t:Int))&&true then (bif decide ((BB ([]:List af)+BB ((t.take (BD (m:Int))).drop (BD 0)))*32<=am) then (bif decide ((BB ([]++((t.take (BD (m:Int))).drop (BD 0)))+BB ([f]))*32<=am) then (bif decide ((0:Int)<=(m:Int))&&decide ((m:Int)<=(BB t:Int))&&decide ((BB t:Int)<=(BB t:Int))&&true then (bif decide ((BB (([]++((t.take (BD (m:Int))).drop (BD 0)))++([f]))+BB ((t.take (BD (BB t:Int))).drop (BD (m:Int))))*32<=am) then (some (((([]++((t.take (BD (m:Int))).drop (BD 0)))++([f]))++((t.take (BD (BB t:Int))).drop (BD (m:Int))),true,()),())) else none) else none) else none) else none) else (none:Option ((List af×Bool×Unit)×Unit)))=some ((t.take m++[f]++t.drop m,true,()),()):=by
   intro m X;rw[decide_eq_true (by omega:(0:Int)<=0),decide_eq_true (by omega:(0:Int)<=(m:Int)),decide_eq_true (by omega:(m:Int)<=(BB t:Int)),decide_eq_true (by omega:(BB t:Int)<=(BB t:Int))];simp only[BE,CT,BZ,BO,CN,CP,cond_true];have M:(t.take m).length=m:=by rw[BW];omega
   have z:(t.drop m).length=t.length-m:=B4;rw[szb _ _ _ (by omega) (by simp only[BM];omega),szb _ _ _ (by omega) (by simp only[BG,BM];omega),szb _ _ _ (by omega) (by simp only[BP,BG,BM];omega)];rfl
  have:=bX (step:=λrec a=>Q132.s0 K (t,f,()) rec a) t.length (λi=>(i:Int)) (λj=>∃ h:j<t.length,¬ t[j].1<f.1) (some ((t.take t.length++[f]++t.drop t.length,true,()),())) (λj=>some ((t.take j++[f]++t.drop j,true,()),())) ?_ ?_ t.length K 0 (by omega) (by omega)
  ·have I:∀ m,m<=t.length->(∀ i,(r:i<t.length)->i<m->t[i].1<f.1)->(∀ i,(r:i<t.length)->m<=i->f.1<t[i].1)->t.take m++[f]++t.drop m=bi (λg=>g.1) f t:=λm X lo r=>gq (k:=λg:af=>g.1) X lo r
   rcases this with ⟨M,z⟩|⟨j,_,M,⟨h3,h4⟩,Z,z⟩
   ·rw[I t.length (BR _) (λi r _=>by
     have:=M i (B8 _) r;exact CS.1 λh=>this ⟨r,h⟩) (λi r h=>by omega)]at z
    exact z
   ·rw[I j (by omega) (λi r y=>by
     have:=Z i (B8 _) y;exact CS.1 λh=>this ⟨r,h⟩) (λi r y=>by
     have a0:=h t[i] (BC r);rcases CA y with O|O
     ·have:=cE.1 R j i h3 r O;omega
     ·subst O;omega)]at z
    exact z
  ·intro rec i r;simp only[Q132.s0];rw[bD (by omega:(i:Int)<(BB t:Int)),ag r,ar i (by omega)];simp only[cond_true,BA];by_cases u:t[i].1<f.1
   ·exact .inl ⟨λ⟨_,h⟩=>h u,by rw[decide_eq_true u];rfl⟩
   ·exact .inr ⟨⟨r,u⟩,by rw[decide_eq_false u];exact J i (by omega)⟩
  ·intro rec;simp only[Q132.s0,aU,cond_false];exact J t.length (BR _)
theorem vt (K:Nat)(t:List af)(f:af)(X:t.length<=1048576)(z:Asc (λg:af=>g.1) t)(R:1048577<K):Q53.f K (t,f,())=some (((bS t f).1,(bS t f).2,()),()):=by
 simp only[Q53.f,Q0.f,Q1.f];rw[dZ (by omega)];simp only[BA];obtain⟨m,u,Z⟩:=sD K t f.1 X z R;rw[Z];simp only[BA];by_cases M:∃ h:m<t.length,t[m].1=f.1
 ·obtain⟨I,y⟩:=M;rw[decide_eq_true ⟨I,y⟩,kh z I y];simp only[BI,cond_false,ag I,BA,BE];rw[mJ K f t[m] R];simp only[BA];by_cases O:bI f t[m]
  ·rw[decide_eq_true ((jt y.symm).2 O),if_pos O,ig (k:=λg:af=>g.1) z I y];rfl
  ·rw[decide_eq_false (λh=>O ((jt y.symm).1 h)),if_neg O];rfl
 ·rw[decide_eq_false M,ii (λg hg e=>by
   obtain⟨i,r,rfl⟩:=BJ hg;rcases Cn i m with h|h|h
   ·have:=u.lo i r h;omega
   ·subst h;exact M ⟨r,e⟩
   ·have Y:=u.hi m (by omega) (BR _);have J:=cE.1 z m i (by omega) r h;omega)]
  simp only[Bw,cond_true];rw[ju u.le (by omega) X];simp only[BA];rw[gq (k:=λg:af=>g.1) u.le u.lo (λi r H=>by
   have:=u.hi i r H;rcases CA H with J|J
   ·have Y:=u.hi m (by omega) (BR _);have h7:=cE.1 z m i (by omega) r J;omega
   ·subst J;have:t[m].1≠f.1:=λe=>M ⟨r,e⟩
    omega)]
def dv (l:List aL)(f:af):List aL:=if ∃ x∈l,x.1.1=f.1/\¬ bI f x.1 then l else bi (λx=>x.1.1) (f,4) l
theorem ua {l:List aL}{f:af}:dv l f=bif l.any (λx=>x.1.1==f.1&&!decide (bI f x.1)) then l else bi (λx=>x.1.1) (f,4) l:=by
 unfold dv;have:(∃ x∈l,x.1.1=f.1/\¬ bI f x.1)<->l.any (λx=>x.1.1==f.1&&!decide (bI f x.1))=true:=by
  rw[List.any_eq_true];simp
 by_cases h:∃ x∈l,x.1.1=f.1/\¬ bI f x.1
 ·rw[if_pos h,this.1 h];rfl
 ·rw[if_neg h,show l.any (λx=>x.1.1==f.1&&!decide (bI f x.1))=false by rw[Bool.eq_false_iff];exact λr=>h (this.2 r)];rfl
theorem zH (K:Nat)(l:List aL)(f:af)(Y:l.length<=1048576)(M:Asc (λx:aL=>x.1.1) l)(X:1048577<K):Q133.f K (l,f,())=some ((dv l f,()),()):=by
 have:=sH (step:=λrec a=>Q133.s0 K (l,f,()) rec a) (λx:aL=>x.1.1) (f,4) l (λx=>x.1.1==f.1&&!decide (bI f x.1)) (some ((l,()),())) (λR=>some ((R,()),())) (λr d i=>(r,d,(i:Int))) ?_ ?_ l.length 0 K [] false (by omega) (by omega) (by simp) (by simp)
 ·refine Cr (this:Q133.f K (l,f,())=_) ?_;rw[BZ,ua,kS M];cases l.any (λx=>x.1.1==f.1&&!decide (bI f x.1)) <;> rfl
 ·intro rec r d i I J H;simp only[Q133.s0];rw[bD (by omega:(i:Int)<(BB l:Int)),ag I,ar i (by omega)];simp only[cond_true,BA];have u:decide ((r.length+[((f,4):af×Nat)].length)*40<=am)=true:=szb _ _ _ (by omega) (by simp;omega);have O:decide (((r++[((f,4):aL)]).length+[l[i]].length)*40<=am)=true:=szb _ _ _ (by omega) (by simp;omega);have z:decide ((r.length+[l[i]].length)*40<=am)=true:=szb _ _ _ (by omega) (by simp;omega);by_cases y:l[i].1.1=f.1
  ·rw[show (l[i].1.1==f.1)=true by simpa using y,show (l[i].1.1 != f.1)=false by simpa using y,show decide (f.1<=l[i].1.1)=true from decide_eq_true (by omega)];simp only[cond_true,cond_false,CB,Cj,DK,BN];rw[show Q105.f K (f,l[i].1,())=_ from pB K f l[i].1];simp only[BA];cases decide (bI f l[i].1) with
   |false=>rfl
   |true =>
    simp only[BI,cond_false];cases d with
    |true=>simp only[BI,cond_false,BN]
    |false =>
     simp only[Bw,cond_true];rw[u];rfl
  ·rw[show (l[i].1.1==f.1)=false by simpa using y,show (l[i].1.1 != f.1)=true by simpa using y];simp only[cond_true,cond_false,CM];cases d with
   |true =>
    simp only[BI,cond_false,CM,BN,Cu];rw[z];rfl
   |false =>
    simp only[Bw,cond_true,CB,Cq];cases decide (f.1<=l[i].1.1) with
    |true =>
     simp only[cond_true];rw[u];simp only[cond_true];rw[O];rfl
    |false =>
     simp only[cond_false,BN];rw[z];rfl
 ·intro rec r d J H;simp only[Q133.s0,aU];cases d with
  |true=>simp only[BI,cond_false,cond_true,BN]
  |false =>
   have:=H rfl;have u:decide ((r.length+[((f,4):af×Nat)].length)*40<=am)=true:=szb _ _ _ (by omega) (by simp;omega);simp only[Bw,cond_true,cond_false];rw[u];rfl
theorem wT (K:Nat)(l:List aL)(f:af)(Z:l.length<=1048576)(O:cU l)(hf:bq f)(Y:1048577<K):Q55.f K (l,f,())=some ((dv l f,()),()):=by
 simp only[Q55.f,Q2.f,Q3.f];obtain⟨b1,e1,e2⟩:=oM K l Z Y;have a1:=e2.2 O;subst a1;obtain⟨b2,e3,e4⟩:=lX K f;have a0:=e4.2 hf;subst a0;rw[e1];simp only[BA,BI,cond_false];rw[e3];simp only[BA,BI,cond_false];rw[dZ (by omega)];simp only[BA];rw[uD K l Z Y];simp only[BA];have hA:Asc (λg:af=>g.1) (l.map (·.1)):=by
  have:=O.2;unfold Asc at this ⊢;rw[Bz];exact this
 have r:(l.map (·.1)).length=l.length:=BU _;obtain⟨m,hm,h1⟩:=sD K (l.map (·.1)) f.1 (by rw[r];exact Z) hA Y;rw[h1];simp only[BA];have y:∀ i (h:i<l.length),(l.map (·.1))[i]'(by rw[r];exact h)=l[i].1:=λi h=>List.getElem_map _
 have M:=hm.le;rw[r]at M;have lo:∀ i,(u:i<l.length)->i<m->l[i].1.1<f.1:=λi u J=>by have:=hm.lo i (by rw[r];exact u) J;rwa [y i u]at this
 have R:∀ i,(u:i<l.length)->m<=i->f.1<=l[i].1.1:=λi u J=>by have:=hm.hi i (by rw[r];exact u) J;rwa [y i u]at this
 by_cases he:∃ h:m<l.length,l[m].1.1=f.1
 ·obtain⟨z,H⟩:=he;rw[decide_eq_true ⟨by rw[r];exact z,by rw[y m z];exact H⟩];simp only[BI,cond_false,ag z,BA,BE];rw[show Q35.f K (f,l[m].1,())=_ from mJ K f l[m].1 Y];simp only[BA];have a2:∀ x∈l,x.1.1=f.1->x=l[m]:=λx I e=>by
   obtain⟨i,u,rfl⟩:=BJ I;have:=lW O.2 u z (by show l[i].1.1=l[m].1.1;rw[e,H]);subst this;rfl
  by_cases ho:bI f l[m].1
  ·rw[decide_eq_true ((jt H.symm).2 ho),dv,if_neg (λ⟨x,I,e,hn⟩=>hn (by rw[a2 x I e];exact ho)),ig (k:=λx:aL=>x.1.1) (x:=(f,4)) O.2 z H];rfl
  ·rw[decide_eq_false (λh=>ho ((jt H.symm).1 h)),dv,if_pos ⟨l[m],BC z,H,ho⟩];rfl
 ·have X:∀ x∈l,x.1.1≠f.1:=λx I e=>by
   obtain⟨i,u,rfl⟩:=BJ I;rcases Cn i m with h|h|h
   ·have:=lo i u h;omega
   ·subst h;exact he ⟨u,e⟩
   ·have h5:=R m (by omega) (BR _);have h6:l[m].1.1<l[i].1.1:=cE.1 O.2 m i (by omega) u h;omega
  rw[decide_eq_false (λ⟨z,H⟩=>he ⟨by rw[r]at z;exact z,by rw[y m (by rw[r]at z;exact z)]at H;exact H⟩),dv,if_neg (λ⟨x,I,e,_⟩=>X x I e)];simp only[Bw,cond_true];rw[ju M (by omega) Z];simp only[BA];rw[gq (k:=λx:aL=>x.1.1) (x:=(f,4)) M lo (λi u a3=>by
   have h1:=R i u a3;have z:=X l[i] (BC u);show f.1<l[i].1.1;omega)]
theorem nZ {α:Type}{k:α->Int}{x:α}:∀ {r:List α},jQ k x true r=r.filter (λy=>k y != k x)
 |[]=>rfl
 |y::r=>by
  simp only[jQ,BI,CM,cond_false,Cu,BO,BV];rw[nZ];cases k y != k x <;> rfl
theorem ub {α:Type}{k:α->Int}{x:α}{xs:List α}:bi k x (xs.filter λy=>!(k y==k x))=bi k x xs:=by
 simp only[bi,List.filter_filter];congr 1
 ·refine Co λy _=>?_
  by_cases h:k y<k x
  ·rw[decide_eq_true h];simp;omega
  ·rw[decide_eq_false h];rfl
 ·congr 1;refine Co λy _=>?_
  by_cases h:k x<k y
  ·rw[decide_eq_true h];simp;omega
  ·rw[decide_eq_false h];rfl
def mkD (r:Int)(f:af)(b:Int):bo:=(f.1,f.2.1,r,[b])
def ct (r:Int)(ds:List bo)(f:af)(b:Int):List bo:=if f.2.2.1=2 then bi (λd=>d.1) (mkD r f b) ds else ds.filter (λd=>!(d.1==f.1))
theorem zI (K:Nat)(n:aa)(f:af)(b:Int)(Y:(aa.doubts n).length<=1048576)(M:Asc (λd:bo=>d.1) (aa.doubts n))(X:1048577<K) :
  Q134.f K (n,f,b,())=some ((ct n.2.2.2.2.2.1 (aa.doubts n) f b,()),()):=by
 have:=sH (step:=λrec a=>Q134.s0 K (n,f,b,()) rec a) (λd:bo=>d.1) (mkD n.2.2.2.2.2.1 f b) (aa.doubts n) (λ_=>false) none (λR=>some ((R,()),())) (λr d i=>(r,d,(i:Int))) ?_ ?_ (aa.doubts n).length 0 K [] (f.2.2.1 != 2) (by omega) (by omega) (by simp) (by simp)
 ·refine Cr (this:Q134.f K (n,f,b,())=_) ?_;rw[BZ,show (aa.doubts n).any (λ_=>false)=false by simp,ct];by_cases u:f.2.2.1=2
  ·rw[if_pos u,show (f.2.2.1 != 2)=false by simpa using u,kS M];rfl
  ·rw[if_neg u,show (f.2.2.1 != 2)=true by simpa using u,nZ];rfl
 ·intro rec r d i H I z;simp only[Q134.s0];rw[bD (by omega:(i:Int)<(BB (aa.doubts n):Int)),ag H,ar i (by omega)];simp only[cond_true,cond_false,BA];have y:decide ((r.length+[mkD n.2.2.2.2.2.1 f b].length)*48<=am)=true:=szb _ _ _ (by omega) (by simp;omega);have O:decide (((r++[mkD n.2.2.2.2.2.1 f b]).length+[(aa.doubts n)[i]].length)*48<=am)=true:=szb _ _ _ (by omega) (by simp;omega);have J:decide ((r.length+[(aa.doubts n)[i]].length)*48<=am)=true:=szb _ _ _ (by omega) (by simp;omega);show (bif !d then (bif decide (f.1<=(aa.doubts n)[i].1) then (bif decide ((r.length+[mkD n.2.2.2.2.2.1 f b].length)*48<=am) then (bif (aa.doubts n)[i].1 != f.1 then (bif decide (((r++[mkD n.2.2.2.2.2.1 f b]).length+[(aa.doubts n)[i]].length)*48<=am) then (rec ((r++[mkD n.2.2.2.2.2.1 f b])++[(aa.doubts n)[i]],true,((i+1:Nat):Int))) else none) else (rec (r++[mkD n.2.2.2.2.2.1 f b],true,((i+1:Nat):Int)))) else none) else (bif (aa.doubts n)[i].1 != f.1 then (bif decide ((r.length+[(aa.doubts n)[i]].length)*48<=am) then (rec (r++[(aa.doubts n)[i]],d,((i+1:Nat):Int))) else none) else (rec (r,d,((i+1:Nat):Int))))) else (bif (aa.doubts n)[i].1 != f.1 then (bif decide ((r.length+[(aa.doubts n)[i]].length)*48<=am) then (rec (r++[(aa.doubts n)[i]],d,((i+1:Nat):Int))) else none) else (rec (r,d,((i+1:Nat):Int)))))=rec ((r++(bif !d&&decide (f.1<=(aa.doubts n)[i].1) then [mkD n.2.2.2.2.2.1 f b] else []))++(bif (aa.doubts n)[i].1 != f.1 then [(aa.doubts n)[i]] else []),d||decide (f.1<=(aa.doubts n)[i].1),((i+1:Nat):Int));rw[y,O,J];cases d <;> cases decide (f.1<=(aa.doubts n)[i].1) <;> cases (aa.doubts n)[i].1 != f.1 <;> simp only[BI,Bw,CB,CM,Cu,Cq,cond_true,cond_false,BN]
 ·intro rec r d I z;simp only[Q134.s0,aU];cases d with
  |true=>simp only[BI,cond_false,cond_true,BN]
  |false =>
   have:=z rfl;have y:decide ((r.length+[mkD n.2.2.2.2.2.1 f b].length)*48<=am)=true:=szb _ _ _ (by omega) (by simp;omega);show (bif decide ((r.length+[mkD n.2.2.2.2.2.1 f b].length)*48<=am) then some ((r++[mkD n.2.2.2.2.2.1 f b],()),()) else none)=some ((r++[mkD n.2.2.2.2.2.1 f b],()),());rw[y];rfl
theorem zJ (K:Nat)(t:List bo)(r:Int)(ht:t.length<=1048576)(H:Asc (λd:bo=>d.1) t)(h7:∀ d∈t,InP d.1 0 7)(Y:InP r 0 7)(hK:1048577<K) :
  ∃ m,m<=t.length/\(∀ i,(h:i<t.length)->i<m->t[i].1<r)/\(∀ i,(h:i<t.length)->m<=i->r<=t[i].1)/\∃ b,Q58.f K (t,r,(λz=>(Q59.f K (z.1,z.2.1,())).map λy=>y.1.1),())=some ((((m:Nat):Int),b,()),()):=by
 let ks:Nat->Int:=λi=>if h:i<t.length then t[i].1 else 0
 have u:∀ i (h:i<t.length),ks i=t[i].1:=λi h=>by simp[ks,h]
 let J:Nat->Option ((Int×Bool×Unit)×Unit):=λm=>some ((((m:Nat):Int),decide (∃ h:m<t.length,t[m].1=r),()),())
 have R:∀ d∈t,((Q59.f K (d,r,())).map λy=>y.1.1)=some (d.1-r):=λd hd=>by
  obtain⟨a1,a2⟩:=h7 d hd;obtain⟨a3,a4⟩:=Y;simp only[Q59.f];rw[aC (by omega) (by omega)];rfl
 have:=pq (step:=λrec a=>Q58.s0 K (t,r,(λz=>(Q59.f K (z.1,z.2.1,())).map λy=>y.1.1),()) rec a) (ks:=ks) (n:=t.length) (t:=r) J ht
  (λi j M X=>by
   rw[u i (by omega),u j X];exact cE.1 H i j (by omega) X M) ?_ ?_ t.length K 0 t.length (by omega) (B8 _) (BR _) (by omega) (λi I=>by omega) (λi I Y=>by omega)
 ·obtain⟨m,h1,Z,h3,h4⟩:=this;exact⟨m,h1,λi h I=>by rw[<- u i h];exact Z i I,λi h I=>by rw[<- u i h];exact h3 i I h,_,h4⟩
 ·intro rec a b a0 hb;have O:(a+b) / 2<t.length:=by omega
  simp only[Q58.s0];rw[decide_eq_true (by omega:(a:Int)<(b:Int)),nF (by omega)];simp only[cond_true];rw[ag O];simp only[BA,R _ (BC O)];rw[u _ O,ar _ (by omega)];by_cases h:t[(a+b) / 2].1<r
  ·rw[if_pos h,decide_eq_true (by omega:t[(a+b) / 2].1-r<0)];rfl
  ·rw[if_neg h,decide_eq_false (by omega:¬ t[(a+b) / 2].1-r<0)];rfl
 ·intro rec a ha;simp only[Q58.s0];rw[decide_eq_false (by omega)];simp only[cond_false];by_cases h:a<t.length
  ·rw[decide_eq_true (by omega:(a:Int)<(BB t:Int)),ag h];simp only[cond_true,BA,R _ (BC h)];have:(t[a].1-r==0)=decide (∃ h:a<t.length,t[a].1=r):=by
    rw[CO];simp only[beq_iff_eq,decide_eq_true_eq];exact⟨λe=>⟨h,by omega⟩,λ⟨_,e⟩=>by omega⟩
   rw[this]
  ·rw[decide_eq_false (by omega:¬ (a:Int)<(BB t:Int))];simp only[cond_false,J];rw[decide_eq_false (λ⟨h',_⟩=>h h')]
def fG (n:aa)(t:List af)(c:List aL)(ds:List bo):aa :=
 (n.1,n.2.1,n.2.2.1,n.2.2.2.1,n.2.2.2.2.1,n.2.2.2.2.2.1,n.2.2.2.2.2.2.1,n.2.2.2.2.2.2.2.1,t,c,n.2.2.2.2.2.2.2.2.2.2.1,ds,n.2.2.2.2.2.2.2.2.2.2.2.2)
def iN (n:aa)(f:af):Bool:=decide (∃ g∈aa.table n,g.1=f.1/\g.2.1=f.2.1/\g.2.2.1=f.2.2.1)
def sayOf (n:aa)(f:af)(b:Int):aa :=
 bif (bS (aa.table n) f).2 then fG n (bS (aa.table n) f).1 (dv (aa.cast n) f) (bif iN n f then aa.doubts n else ct n.2.2.2.2.2.1 (aa.doubts n) f b) else n
structure cz (n:aa):Prop where
 table:ax (aa.table n)
 cast:cU (aa.cast n)
 asc:Asc (λd:bo=>d.1) (aa.doubts n)
 inp:∀ d∈aa.doubts n,InP d.1 0 7
 lt:(aa.table n).length<=1048576
 lc:(aa.cast n).length<=1048576
 ld:(aa.doubts n).length<=1048576
theorem sJ {n:aa}{f g:af}(u:Asc (λg:af=>g.1) (aa.table n))(r:g∈aa.table n)(e:g.1=f.1):iN n f=(g.2.1==f.2.1&&g.2.2.1==f.2.2.1):=by
 rw[CO,iN,decide_eq_true_eq,CG,beq_iff_eq,beq_iff_eq];constructor
 ·rintro⟨x,hx,h1,h2,h3⟩;have:=gp u hx r (by rw[h1,e]);subst this;exact⟨h2,h3⟩
 ·rintro⟨h1,h2⟩;exact⟨g,r,e,h1,h2⟩
theorem sK {n:aa}{f:af}(h:∀ g∈aa.table n,g.1≠f.1):iN n f=false :=
 decide_eq_false λ⟨g,r,e,_⟩=>h g r e
theorem pC (K:Nat)(n:aa)(f:af)(b:Int)(h:cz n)(r:1048577<K):Q194.f K (n,f,b,())=some ((sayOf n f b,()),()):=by
 simp only[Q194.f,zcp8];rw[show Q132.f K (n.2.2.2.2.2.2.2.2.1,f,())=_ from put_s K (aa.table n) f h.lt h.table.2 r];simp only[BA];cases z:(bS (aa.table n) f).2 with
 |false =>
  simp only[sayOf,z];rfl
 |true =>
  simp only[sayOf,z,BI,cond_false,cond_true];obtain⟨o,M,J⟩:=fk K (aa.table n) f.1 h.lt r;rw[show Q102.f K (n.2.2.2.2.2.2.2.2.1,f.1,())=_ from J];simp only[BA];have I:=zI K (n.1,n.2.1,n.2.2.1,n.2.2.2.1,n.2.2.2.2.1,n.2.2.2.2.2.1,n.2.2.2.2.2.2.1,n.2.2.2.2.2.2.2.1,(bS (aa.table n) f).1,dv (aa.cast n) f,n.2.2.2.2.2.2.2.2.2.2) f b h.ld h.asc r;have y:=zH K (aa.cast n) f h.lc h.cast.2 r;cases M with
  |at_ i H e =>
   simp only;rw[sJ h.table.2 (BC H) e,decide_eq_true (by omega:((i:Nat):Int)>=0)];simp only[cond_true];rw[show idx n.2.2.2.2.2.2.2.2.1 (i:Int)=some (aa.table n)[i] from ag H];simp only[BA];rw[show Q133.f K (n.2.2.2.2.2.2.2.2.2.1,f,())=_ from y];simp only[BA];rw[I];cases (aa.table n)[i].2.1==f.2.1 with
   |true =>
    cases (aa.table n)[i].2.2.1==f.2.2.1 <;> rfl
   |false=>rfl
  |no u =>
   simp only;rw[sK u,decide_eq_false (by omega:¬ (-1:Int)>=0)];simp only[cond_false];rw[show Q133.f K (n.2.2.2.2.2.2.2.2.2.1,f,())=_ from y];simp only[BA];rw[I];rfl
theorem l6 {α:Type}{k:α->Int}{xs:List α}(h:Asc k xs)(p:α->Bool):Asc k (xs.filter p):=CU p h
theorem zK {R:Type}(K:Nat)(r:Int)(ds:List bo)(f:af)(b:Int)(G:List bo->Option R)(M:ds.length<=1048576)(hA:Asc (λd:bo=>d.1) ds)(h7:∀ d∈ds,InP d.1 0 7)(hf:bq f)(Y:1048577<K) :
  ((Q4.f K (ds,(λI=>(Q57.f K (I.1,f,())).map λy=>y.1.1),())).bind λH=>bif f.2.2.1==2 then ((Q58.f K (H.1.1,f.1,(λX=>(Q59.f K (X.1,X.2.1,())).map λy=>y.1.1),())).bind λy7=>(Q5.f K (H.1.1,y7.1.1,[mkD r f b],())).bind λy8=>G y8.1.1) else G H.1.1)=G (ct r ds f b):=by
 rw[show Q4.f K (ds,(λI=>(Q57.f K (I.1,f,())).map λy=>y.1.1),())=some ((ds.filter (λd=>!(d.1==f.1)),()),()) by
  simp only[Q4.f];exact qX _ M (λd _=>rfl)]
 simp only[BA,ct];by_cases z:f.2.2.1=2
 ·rw[if_pos z,show (f.2.2.1==2)=true by simpa using z];simp only[cond_true];have u:(ds.filter (λd=>!(d.1==f.1))).length<=1048576:=By (CH _ _) M;obtain⟨m,O,lo,Z,b',e⟩:=zJ K (ds.filter (λd=>!(d.1==f.1))) f.1 u (l6 hA _) (λd hd=>h7 d (BH.1 hd).1) hf.1 Y;rw[e];simp only[BA];rw[show Q5.f K (ds.filter (λd=>!(d.1==f.1)),(m:Int),[mkD r f b],())=some (((ds.filter (λd=>!(d.1==f.1))).take m++[mkD r f b]++(ds.filter (λd=>!(d.1==f.1))).drop m,()),()) by
   simp only[Q5.f];exact ju O (by omega) u]
  simp only[BA];have:=gq (k:=λd:bo=>d.1) (x:=mkD r f b) O lo (λi h J=>by
   have h1:=Z i h J;have h3:(!((ds.filter (λd=>!(d.1==f.1)))[i].1==f.1))=true:=(BH.1 (BC h)).2;have h4:(ds.filter (λd=>!(d.1==f.1)))[i].1≠f.1:=by simpa using h3
   show f.1<_;omega)
  rw[this];exact congrArg G (ub (k:=λd:bo=>d.1) (x:=mkD r f b))
 ·rw[if_neg z,show (f.2.2.1==2)=false by simpa using z];rfl
theorem zl (K:Nat)(n:aa)(f:af)(b:Int)(h:cz n)(y:bq f)(u:1048577<K):Q60.f K (n,f,b,())=some ((),(sayOf n f b,())):=by
 simp only[Q60.f,zcp8];have R:∃ g:af,∃ I,Q22.f K (aa.table n,f.1,())=some ((g,I,()),())/\iN n f=(g.2.2.1==f.2.2.1&&g.2.1==f.2.1):=by
  rcases iz K (aa.table n) f.1 h.lt u with ⟨r,_⟩|⟨_,⟨g,X,e,r⟩|⟨M,r⟩⟩
  ·exact absurd h.table r
  ·exact⟨g,_,r,by rw[sJ h.table.2 X e,Bool.and_comm]⟩
  ·refine⟨_,_,r,?_⟩;rw[sK M,show ((0:Int)==f.2.2.1)=false by have:=y.2.2.1;simp;omega];rfl
 obtain⟨g,I,r,J⟩:=R;rw[show Q22.f K (n.2.2.2.2.2.2.2.2.1,f.1,())=_ from r];simp only[BA];rw[show Q53.f K (n.2.2.2.2.2.2.2.2.1,f,())=_ from vt K (aa.table n) f h.lt h.table.2 u];simp only[BA];cases H:(bS (aa.table n) f).2 with
 |false =>
  simp only[sayOf,H];rfl
 |true =>
  simp only[sayOf,H,BI,cond_false,cond_true];rw[show Q55.f K (n.2.2.2.2.2.2.2.2.2.1,f,())=_ from wT K (aa.cast n) f h.lc h.cast y u];simp only[BA];have z:=zK K n.2.2.2.2.2.1 (aa.doubts n) f b (λO=>some ((),(fG n (bS (aa.table n) f).1 (dv (aa.cast n) f) O,()))) h.ld h.asc h.inp y u;rw[J];cases g.2.2.1==f.2.2.1 with
  |true =>
   cases g.2.1==f.2.1 with
   |true=>rfl
   |false=>exact z
  |false=>exact z
theorem iO {α:Type}{k:α->Int}{xs:List α}(h:Asc k xs)(u:∀ x∈xs,InP (k x) 0 7):xs.length<=8:=by
 have:=(ja (xs.map k) [0,1,2,3,4,5,6,7] (by unfold Asc at h;rw[Bz];exact h) (by decide) (λy z=>by
  obtain⟨x,r,rfl⟩:=BY.1 z;obtain⟨H,I⟩:=u x r;simp only[CE,List.not_mem_nil,or_false];omega)).1
 rw[BU]at this;exact this
theorem gV (t:List af)(f:af):(bS t f).1=t\/(bS t f).1=bi (λg=>g.1) f t:=by
 unfold bS;split
 ·split
  ·exact .inr rfl
  ·exact .inl rfl
 ·exact .inr rfl
theorem ki {t:List af}{f:af}(h:ax t)(u:bq f):ax (bS t f).1:=by
 rcases gV t f with e|e
 ·rw[e];exact h
 ·rw[e];refine⟨λg y=>?_,e8 h.2⟩;rcases aX.1 y with rfl|⟨r,_⟩
  ·exact u
  ·exact h.1 g r
theorem pD {l:List aL}{f:af}(h:cU l)(y:bq f):cU (dv l f):=by
 unfold dv;split
 ·exact h
 ·refine⟨λx u=>?_,e8 h.2⟩;rcases aX.1 u with rfl|⟨r,_⟩
  ·exact⟨y,show (1:Int)<=4 by omega,show (4:Int)<=4 by omega⟩
  ·exact h.1 x r
theorem kj {r:Int}{ds:List bo}{f:af}{b:Int}{d:bo}(h:d∈ct r ds f b):d=mkD r f b\/d∈ds:=by
 unfold ct at h;split at h
 ·rcases aX.1 h with h|h
  ·exact .inl h
  ·exact .inr h.1
 ·exact .inr (BH.1 h).1
theorem sL {r:Int}{ds:List bo}{f:af}{b:Int}(h:Asc (λd:bo=>d.1) ds):Asc (λd:bo=>d.1) (ct r ds f b):=by
 unfold ct;split
 ·exact e8 h
 ·exact l6 h _
theorem iD (n:aa)(f:af)(b:Int):∃ t c r,sayOf n f b=fG n t c r/\(t=aa.table n\/t=(bS (aa.table n) f).1)/\(c=aa.cast n\/c=dv (aa.cast n) f)/\(r=aa.doubts n\/r=ct n.2.2.2.2.2.1 (aa.doubts n) f b):=by
 unfold sayOf;cases (bS (aa.table n) f).2 with
 |false=>exact⟨aa.table n,aa.cast n,aa.doubts n,rfl,.inl rfl,.inl rfl,.inl rfl⟩
 |true =>
  cases iN n f with
  |true=>exact⟨_,_,_,rfl,.inr rfl,.inr rfl,.inl rfl⟩
  |false=>exact⟨_,_,_,rfl,.inr rfl,.inr rfl,.inr rfl⟩
theorem cz.mk' {n:aa}(u:ax (aa.table n))(r:cU (aa.cast n))(y:Asc (λd:bo=>d.1) (aa.doubts n))(z:∀ d∈aa.doubts n,InP d.1 0 7):cz n where
 table:=u
 cast:=r
 asc:=y
 inp:=z
 lt:=By (iO u.2 (λg I=>(u.1 g I).1)) (by decide)
 lc:=By (iO r.2 (λx H=>(r.1 x H).1.1)) (by decide)
 ld:=By (iO y z) (by decide)
theorem ij {n:aa}{f:af}{b:Int}(h:cz n)(r:bq f):cz (sayOf n f b):=by
 obtain⟨t,c,y,e,H,I,z⟩:=iD n f b;rw[e];refine cz.mk' ?_ ?_ ?_ ?_
 ·show ax t;rcases H with rfl|rfl
  ·exact h.table
  ·exact ki h.table r
 ·show cU c;rcases I with rfl|rfl
  ·exact h.cast
  ·exact pD h.cast r
 ·show Asc _ y;rcases z with rfl|rfl
  ·exact h.asc
  ·exact sL h.asc
 ·show ∀ d∈y,InP d.1 0 7;rcases z with rfl|rfl
  ·exact h.inp
  ·intro d u;rcases kj u with rfl|u
   ·exact r.1
   ·exact h.inp d u
theorem yp {n:aa}{f:af}{b:Int}(h:∀ d∈aa.doubts n,d.2.2.2.length<=1048576):∀ d∈aa.doubts (sayOf n f b),d.2.2.2.length<=1048576:=by
 obtain⟨t,c,u,e,_,_,y⟩:=iD n f b;rw[e];show ∀ d∈u,_;rcases y with rfl|rfl
 ·exact h
 ·intro d r;rcases kj r with rfl|r
  ·exact Nat.succ_le_of_lt (by decide)
  ·exact h d r
theorem UpP.say {n:aa}(h:UpP n):cz n:=by
 obtain⟨r,_,_,⟨z,_⟩,_,u,_⟩:=h;refine cz.mk' r z u.2.1 λd H=>?_
 obtain⟨f,y,e,_⟩:=(u.1 d H).1;rw[<- e];exact (r.1 f y).1
theorem qq {α β A R:Type}(t:List α)(p:α->Bool)(g:α->β)(S:List β->Nat->A)(u:List β->Option R){step:(A->Option R)->A->Option R}
  (h:∀ (rec:A->Option R) (r:List β) (i:Nat) (O:i<t.length),r.length<=i->step rec (S r i)=rec (S (bif p t[i] then r++[g t[i]] else r) (i+1)))
  (y:∀ (rec:A->Option R) (r:List β),r.length<=t.length->step rec (S r t.length)=u r) {k:Nat} (J:t.length<k) :
  ae step k (S [] 0)=u ((t.filter p).map g):=by
 have:∀ (d i k:Nat) (r:List β),i+d=t.length->d<k->r.length<=i->ae step k (S r i)=u (r++((t.drop i).filter p).map g):=by
  intro d;induction d with
  |zero =>
   intro i k r O J I;obtain⟨k,rfl⟩:∃ H,k=H+1:=⟨k-1,by omega⟩;have:i=t.length:=by omega
   subst this;show step (ae step k) _=_;rw[y _ _ I];simp
  |succ d M =>
   intro i k r O J I;obtain⟨k,rfl⟩:∃ H,k=H+1:=⟨k-1,by omega⟩;have z:i<t.length:=by omega
   show step (ae step k) _=_;rw[h _ _ _ z I,BL z,BV];cases p t[i] with
   |true =>
    simp only[cond_true,if_true,Cp];rw[M (i+1) k _ (by omega) (by omega) (by simp;omega),CD];rfl
   |false =>
    simp only[cond_false];rw[M (i+1) k _ (by omega) (by omega) (by omega)];rfl
 have:=this t.length 0 k [] (by omega) J (BR _)
 rwa [BZ,BO]at this
theorem szw (a b c:Nat)(r:c<=128)(h:a+b<=2097152):decide ((a+b)*c<=am)=true:=by
 have:=Cc h r;exact decide_eq_true (by unfold am;omega)
def kz (n:aa):aa:=(n.1,n.2.1,true,n.2.2.2)
def nK (r:Int)(n:aa)(to:Int):ao:=(1,r,n.1,to,0,n.1,aa.coord n,aa.table n)
theorem zL (K:Nat)(n:aa)(r to:Int)(u:(aa.table n).length<=1048576):Q90.f K (n,r,to,())=some ((nK r n to,()),()):=by
 simp only[Q90.f,zcp4,Q69.f,BA,Q0.f];rw[dZ (by show (aa.table n).length*_<=_;omega)];rfl
theorem nL (K:Nat)(n:aa)(r to:Int)(u:(aa.table n).length<=1048576):Q143.f K (n,r,to,0,n.1,aa.table n,())=some ((nK r n to,()),()):=by
 simp only[Q143.f];rw[szb _ _ _ (by omega) (by show (BB ([]:List af))+(aa.table n).length<=_;simp;omega)];rfl
def eA (f:af):Bool:=f.2.2.1==1||f.2.2.1==2
theorem uF (K:Nat)(t:List af)(f:af)(y:ax t)(I:t.length<=1048576)(r:f∈t)(z:1048577<K):Q196.f K (t,f.1,())=rb (eA f):=by
 simp only[Q196.f];obtain⟨o,J,H⟩:=fk K t f.1 I z;rw[H];simp only[BA];cases J with
 |at_ i u e =>
  simp only;rw[decide_eq_true (by omega:((i:Nat):Int)>=0),ag u];simp only[cond_true,BA];rw[gp y.2 (BC u) r e,eA];cases f.2.2.1==1 <;> rfl
 |no h=>exact absurd rfl (h f r)
def sM (n:aa)(f:af):Bool:=f.1 != n.1&&eA f
def lw (n:aa):List ao:=((aa.table n).filter (sM n)).map λf=>nK 5 n f.1
def mL (n:aa):aa:=kz (sayOf n (n.1,n.2.2.2.2.1,4,n.2.2.2.1) n.1)
theorem sN (K:Nat)(x:ab Q209.ps)(m:aa)(z:ax (aa.table m))(u:(aa.table m).length<=1048576)(I:1048577<K) :
  Q209.l0 K x ([],0,m.1,m.2.1,m.2.2.2.1,m.2.2.2.2.1,m.2.2.2.2.2.1,m.2.2.2.2.2.2.1,m.2.2.2.2.2.2.2.1,m.2.2.2.2.2.2.2.2.1,m.2.2.2.2.2.2.2.2.2.1,m.2.2.2.2.2.2.2.2.2.2.1.1,m.2.2.2.2.2.2.2.2.2.2.1.2.1,m.2.2.2.2.2.2.2.2.2.2.1.2.2.1,m.2.2.2.2.2.2.2.2.2.2.1.2.2.2,m.2.2.2.2.2.2.2.2.2.2.2.1,m.2.2.2.2.2.2.2.2.2.2.2.2.1.1,m.2.2.2.2.2.2.2.2.2.2.2.2.1.2.1,m.2.2.2.2.2.2.2.2.2.2.2.2.1.2.2.1,m.2.2.2.2.2.2.2.2.2.2.2.2.1.2.2.2,m.2.2.2.2.2.2.2.2.2.2.2.2.2.1,m.2.2.2.2.2.2.2.2.2.2.2.2.2.2)=some ((kz m,lw (kz m),()),()):=by
 refine qq (step:=λrec a=>Q209.s0 K x rec a) (aa.table m) (sM (kz m)) (λf=>nK 5 (kz m) f.1) (λr i=>(r,(i:Int),m.1,m.2.1,m.2.2.2.1,m.2.2.2.2.1,m.2.2.2.2.2.1,m.2.2.2.2.2.2.1,m.2.2.2.2.2.2.2.1,m.2.2.2.2.2.2.2.2.1,m.2.2.2.2.2.2.2.2.2.1,m.2.2.2.2.2.2.2.2.2.2.1.1,m.2.2.2.2.2.2.2.2.2.2.1.2.1,m.2.2.2.2.2.2.2.2.2.2.1.2.2.1,m.2.2.2.2.2.2.2.2.2.2.1.2.2.2,m.2.2.2.2.2.2.2.2.2.2.2.1,m.2.2.2.2.2.2.2.2.2.2.2.2.1.1,m.2.2.2.2.2.2.2.2.2.2.2.2.1.2.1,m.2.2.2.2.2.2.2.2.2.2.2.2.1.2.2.1,m.2.2.2.2.2.2.2.2.2.2.2.2.1.2.2.2,m.2.2.2.2.2.2.2.2.2.2.2.2.2.1,m.2.2.2.2.2.2.2.2.2.2.2.2.2.2)) (λH=>some ((kz m,H,()),())) ?_ ?_ (by omega)
 ·intro rec r i y J;simp only[Q209.s0,zceae5f];rw[show decide ((i:Int)<(BB m.2.2.2.2.2.2.2.2.1:Int))=true from bD (by omega:(i:Int)<(BB (aa.table m):Int)),show idx m.2.2.2.2.2.2.2.2.1 (i:Int)=some (aa.table m)[i] from ag y,ar i (by omega)];simp only[cond_true,BA,sM];rw[show (kz m).1=m.1 from rfl];cases M:(aa.table m)[i].1 != m.1 with
  |false=>rfl
  |true =>
   simp only[cond_true,CB];rw[show Q196.f K (m.2.2.2.2.2.2.2.2.1,(aa.table m)[i].1,())=_ from uF K (aa.table m) _ z u (BC y) I];simp only[BA];cases eA (aa.table m)[i] with
   |false=>rfl
   |true =>
    simp only[cond_true];refine (congrArg (λo=>BS o _) (nL K (kz m) 5 (aa.table m)[i].1 u)).trans ?_;simp only[BA];rw[szw _ _ _ (by omega) (by simp;omega)];rfl
 ·intro rec r J;simp only[Q209.s0,zceae5f];rw[show decide ((BB (aa.table m):Int)<(BB m.2.2.2.2.2.2.2.2.1:Int))=false from aU _];rfl
theorem vu {n:aa}(r:gL n):bq (n.1,n.2.2.2.2.1,4,n.2.2.2.1):=⟨r.1,r.2.2.2.2.1,show (1:Int)<=4 by omega,show (4:Int)<=4 by omega⟩
theorem zM (K:Nat)(n:aa)(J:NB n)(r:gL n)(z:n.2.1=true)(I:n.2.2.1=false)(u:1048577<K):Q209.f K (n,())=some ((mL n,lw (mL n),()),()):=by
 have H:=(r.up z).say;have y:=ij (b:=n.1) H (vu r);simp only[Q209.f,Q209.pre];rw[z,I];simp only[BI,cond_false];rw[pC K n _ n.1 H u];exact sN K _ _ y.table y.lt u
theorem kA {α r A R:Type}(ds:List α)(st:r->α->r)(Inv:r->Prop)(S:r->Nat->A)(u:r->Option R){step:(A->Option R)->A->Option R}(n:r)(Y:Inv n)
  (h:∀ (rec:A->Option R) (m:r) (i:Nat) (M:i<ds.length),Inv m->step rec (S m i)=rec (S (st m ds[i]) (i+1))/\Inv (st m ds[i]))
  (y:∀ (rec:A->Option R) (m:r),Inv m->step rec (S m ds.length)=u m) {k:Nat} (I:ds.length<k):ae step k (S n 0)=u (ds.foldl st n):=by
 have:∀ (d i k:Nat) (m:r),i+d=ds.length->d<k->Inv m->ae step k (S m i)=u ((ds.drop i).foldl st m):=by
  intro d;induction d with
  |zero =>
   intro i k m M I J;obtain⟨k,rfl⟩:∃ H,k=H+1:=⟨k-1,by omega⟩;have:i=ds.length:=by omega
   subst this;show step (ae step k) _=_;rw[y _ _ J,Ci];rfl
  |succ d O =>
   intro i k m M I J;obtain⟨k,rfl⟩:∃ H,k=H+1:=⟨k-1,by omega⟩;have z:i<ds.length:=by omega
   show step (ae step k) _=_;obtain⟨Z,X⟩:=h (ae step k) m i z J;rw[Z,BL z];exact O (i+1) k _ (by omega) (by omega) X
 have:=this ds.length 0 k n (by omega) I Y
 rwa [BZ]at this
theorem l7 {α r:Type}{st:r->α->r}{Inv:r->Prop}:∀ {ds:List α} {n:r},Inv n->(∀ m,∀ d∈ds,Inv m->Inv (st m d))->Inv (ds.foldl st n)
 |[],_,h,_=>h
 |d::ds,n,h,y=>l7 (ds:=ds) (y n d (by simp) h) (λm z u=>y m z (by simp[u]))
def aP (t:List af)(r:Int):af:=(t.find? λg=>g.1==r).getD (0,0,0,false)
theorem jv {t:List af}(y:Asc (λg:af=>g.1) t){f:af}(r:f∈t):aP t f.1=f:=by
 obtain⟨i,u,e⟩:=BJ r;unfold aP;rw[show t.find? (λg=>g.1==f.1)=some t[i] from oO y u (by rw[e]),e];rfl
theorem jx {t:List af}{r:Int}(h:∀ g∈t,g.1≠r):aP t r=(0,0,0,false):=by
 unfold aP;rw[show t.find? (λg=>g.1==r)=none from nJ h];rfl
theorem mM (K:Nat)(t:List af)(r:Int)(y:ax t)(H:t.length<=1048576)(z:1048577<K):∃ b,Q22.f K (t,r,())=some ((aP t r,b,()),()):=by
 rcases iz K t r H z with ⟨u,_⟩|⟨_,⟨g,J,e,u⟩|⟨I,u⟩⟩
 ·exact absurd y u
 ·refine⟨true,?_⟩;rw[u,<- e,jv y.2 J]
 ·refine⟨false,?_⟩;rw[u,jx I]
theorem sO (K:Nat)(t:List af)(r:Int)(u:ax t)(H:t.length<=1048576)(y:1048577<K):Q196.f K (t,r,())=rb (eA (aP t r)):=by
 by_cases h:∃ f∈t,f.1=r
 ·obtain⟨f,I,rfl⟩:=h;rw[uF K t f u H I y,jv u.2 I]
 ·have z:∀ g∈t,g.1≠r:=λg R e=>h ⟨g,R,e⟩
  simp only[Q196.f];obtain⟨o,O,M⟩:=fk K t r H y;rw[M,jx z];cases O with
  |at_ i J e=>exact absurd e (z _ (BC J))
  |no _=>rfl
theorem iP (n:aa)(f:af)(b:Int):(sayOf n f b).1=n.1/\(sayOf n f b).2.1=n.2.1/\(sayOf n f b).2.2.1=n.2.2.1/\(sayOf n f b).2.2.2.1=n.2.2.2.1/\(sayOf n f b).2.2.2.2.1=n.2.2.2.2.1/\(sayOf n f b).2.2.2.2.2.1=n.2.2.2.2.2.1/\(sayOf n f b).2.2.2.2.2.2.1=n.2.2.2.2.2.2.1/\(sayOf n f b).2.2.2.2.2.2.2.1=n.2.2.2.2.2.2.2.1/\aa.probe (sayOf n f b)=aa.probe n/\(sayOf n f b).2.2.2.2.2.2.2.2.2.2.2.2=n.2.2.2.2.2.2.2.2.2.2.2.2:=by
 obtain⟨t,c,r,e,_⟩:=iD n f b;rw[e];exact⟨rfl,rfl,rfl,rfl,rfl,rfl,rfl,rfl,rfl,rfl⟩
theorem mN {t:List af}{f g:af}(r:g∈t):∃ u∈(bS t f).1,u.1=g.1:=by
 rcases gV t f with e|e
 ·rw[e];exact⟨g,r,rfl⟩
 ·rw[e];by_cases h:g.1=f.1
  ·exact⟨f,aX.2 (.inl rfl),h.symm⟩
  ·exact⟨g,aX.2 (.inr ⟨r,h⟩),rfl⟩
theorem jy {n:aa}{f:af}{b:Int}{g:af}(r:g∈aa.table n):∃ y∈aa.table (sayOf n f b),y.1=g.1:=by
 obtain⟨t,c,z,e,u,_⟩:=iD n f b;rw[e];rcases u with rfl|rfl
 ·exact⟨g,r,rfl⟩
 ·exact mN r
def qr (u r:Int)(len:Nat):Bool:=decide (u-r>=if 6-(len:Int)+1<3 then 3 else 6-(len:Int)+1)
def kD (f:af):af:=(f.1,f.2.1,3,f.2.2.2)
def ik (n:aa)(d:bo):aa:=bif qr n.2.2.2.2.2.1 d.2.2.1 d.2.2.2.length then sayOf n (kD (aP (aa.table n) d.1)) n.1 else n
def kk (n:aa):aa:=(aa.doubts n).foldl ik n
theorem due_s (K:Nat)(r:Int)(d:bo)(z:0<=d.2.2.1)(u:d.2.2.1<=r)(y:r<=1000000)(H:d.2.2.2.length<=1048576):Q193.f K (r,d,())=rb (qr r d.2.2.1 d.2.2.2.length):=by
 simp only[Q193.f];rw[aC (n:=6-(BB d.2.2.2:Int)) (by omega) (by omega),aC (n:=6-(BB d.2.2.2:Int)+1) (by omega) (by omega),aC (n:=r-d.2.2.1) (by omega) (by omega)];unfold qr;by_cases h:6-(BB d.2.2.2:Int)+1<3
 ·rw[decide_eq_true h,if_pos h];rfl
 ·rw[decide_eq_false h,if_neg h];rfl
structure pE (ds:List bo) (now:Int) (n:aa):Prop where
 ok:cz n
 key:∀ d∈ds,∃ f∈aa.table n,f.1=d.1
 now_:n.2.2.2.2.2.1=now
theorem uG {f:af}(h:bq f):bq (kD f):=⟨h.1,h.2.1,show (1:Int)<=3 by omega,show (3:Int)<=4 by omega⟩
theorem ek {t:List af}{r:Int}(y:ax t)(h:∃ f∈t,f.1=r):bq (aP t r)/\(aP t r).1=r/\aP t r∈t:=by
 obtain⟨f,u,rfl⟩:=h;rw[jv y.2 u];exact⟨y.1 f u,rfl,u⟩
theorem uc {ds:List bo}{r:Int}{n:aa}{d:bo}(h:pE ds r n)(O:d∈ds):pE ds r (ik n d):=by
 unfold ik;cases qr n.2.2.2.2.2.1 d.2.2.1 d.2.2.2.length with
 |false=>exact h
 |true =>
  have I:=uG (ek h.ok.table (h.key d O)).1;refine⟨ij h.ok I,λJ u=>?_,(iP n _ _).2.2.2.2.2.1.trans h.now_⟩;obtain⟨g,M,e⟩:=h.key J u;obtain⟨z,y,H⟩:=jy (f:=kD (aP (aa.table n) d.1)) (b:=n.1) M;exact⟨z,y,H.trans e⟩
theorem AH (K:Nat)(n:aa)(h:pE (aa.doubts n) n.2.2.2.2.2.1 n)(X:∀ d∈aa.doubts n,0<=d.2.2.1/\d.2.2.1<=n.2.2.2.2.2.1/\d.2.2.2.length<=1048576)(y:n.2.2.2.2.2.1<=1000000)(I:1048577<K):Q195.f K (n,())=some ((kk n,()),()):=by
 have hl:=h.ok.ld;refine kA (step:=λrec a=>Q195.s0 K (n,()) rec a) (aa.doubts n) ik (pE (aa.doubts n) n.2.2.2.2.2.1) (λm i=>((i:Int),m.1,m.2.1,m.2.2.1,m.2.2.2.1,m.2.2.2.2.1,m.2.2.2.2.2.1,m.2.2.2.2.2.2.1,m.2.2.2.2.2.2.2.1,m.2.2.2.2.2.2.2.2.1,m.2.2.2.2.2.2.2.2.2.1,m.2.2.2.2.2.2.2.2.2.2.1.1,m.2.2.2.2.2.2.2.2.2.2.1.2.1,m.2.2.2.2.2.2.2.2.2.2.1.2.2.1,m.2.2.2.2.2.2.2.2.2.2.1.2.2.2,m.2.2.2.2.2.2.2.2.2.2.2.1,m.2.2.2.2.2.2.2.2.2.2.2.2.1.1,m.2.2.2.2.2.2.2.2.2.2.2.2.1.2.1,m.2.2.2.2.2.2.2.2.2.2.2.2.1.2.2.1,m.2.2.2.2.2.2.2.2.2.2.2.2.1.2.2.2,m.2.2.2.2.2.2.2.2.2.2.2.2.2.1,m.2.2.2.2.2.2.2.2.2.2.2.2.2.2)) (λm=>some ((m,()),())) n h ?_ ?_ (by omega)
 ·intro rec m i H u;refine⟨?_,uc u (BC H)⟩;simp only[Q195.s0,zc286a0,zc3ec45];obtain⟨O,M,J⟩:=X _ (BC H);rw[show decide ((i:Int)<(BB n.2.2.2.2.2.2.2.2.2.2.2.1:Int))=true from bD (by omega:(i:Int)<(BB (aa.doubts n):Int)),show idx n.2.2.2.2.2.2.2.2.2.2.2.1 (i:Int)=some (aa.doubts n)[i] from ag H,ar i (by omega)];simp only[cond_true,BA];rw[due_s K m.2.2.2.2.2.1 (aa.doubts n)[i] O (by rw[u.now_];exact M) (by rw[u.now_];exact y) J];simp only[BA];have r:=u.key _ (BC H);generalize (aa.doubts n)[i]=d at r O M J ⊢;unfold ik;cases qr m.2.2.2.2.2.1 d.2.2.1 d.2.2.2.length with
  |false=>rfl
  |true =>
   simp only[cond_true];have z:=ek u.ok.table r;obtain⟨o,ho,Y⟩:=fk K (aa.table m) d.1 u.ok.lt I;rw[show Q102.f K (m.2.2.2.2.2.2.2.2.1,d.1,())=_ from Y];simp only[BA];cases ho with
   |no h=>exact absurd r (λ⟨f,Z,e⟩=>h f Z e)
   |at_ j R e =>
    simp only;rw[show idx m.2.2.2.2.2.2.2.2.1 ((j:Nat):Int)=some (aa.table m)[j] from ag R,gp u.ok.table.2 (BC R) z.2.2 (by rw[e,z.2.1])];simp only[BA];refine (congrArg (λo=>BS o _) (pC K m (kD (aP (aa.table m) d.1)) m.1 u.ok I)).trans ?_;rfl
 ·intro rec m u;simp only[Q195.s0,zc286a0,zc3ec45];rw[show decide ((BB (aa.doubts n):Int)<(BB n.2.2.2.2.2.2.2.2.2.2.2.1:Int))=false from aU _];rfl
def setP (n:aa)(p:af):aa:=(n.1,n.2.1,n.2.2.1,n.2.2.2.1,n.2.2.2.2.1,n.2.2.2.2.2.1,n.2.2.2.2.2.2.1,n.2.2.2.2.2.2.2.1,n.2.2.2.2.2.2.2.2.1,n.2.2.2.2.2.2.2.2.2.1,p,n.2.2.2.2.2.2.2.2.2.2.2)
def noP:af:=(-1,0,0,false)
def pF (f:af):af:=(f.1,f.2.1,2,f.2.2.2)
def vv (n:aa)(f:af):Bool:=f.2.2.1==1&&f.1 != n.1&&f.1 != (aa.probe n).1
def fA (n:aa):List Int:=(((aa.table n).filter (vv n)).map (·.1)).take 2
def askW (n:aa)(to:Int):ao:=(1,3,n.1,to,(aa.probe n).2.2.1,(aa.probe n).1,aa.coord n,[])
def lx (n:aa):aa:=setP n ((aa.probe n).1,(aa.probe n).2.1,(aa.probe n).2.2.1,true)
def dp (n:aa):aa×List ao :=
 bif (aa.probe n).1==-1 then (n,[]) else
 bif !eA (aP (aa.table n) (aa.probe n).1) then (setP n noP,[]) else
 bif decide (n.2.2.2.2.2.1-(aa.probe n).2.1>=4) then (bif (aP (aa.table n) (aa.probe n).1).2.2.1==1 then sayOf (setP n noP) (pF (aP (aa.table n) (aa.probe n).1)) n.1 else setP n noP,[]) else
 bif decide (n.2.2.2.2.2.1-(aa.probe n).2.1>=2) then (bif !(aa.probe n).2.2.2 then (lx n,(fA n).map (askW n)) else (n,[])) else (n,[])
theorem cz.setP {n:aa}(h:cz n)(p:af):cz (setP n p):=⟨h.table,h.cast,h.asc,h.inp,h.lt,h.lc,h.ld⟩
theorem zN {f:af}(h:bq f):bq (pF f):=⟨h.1,h.2.1,show (1:Int)<=2 by omega,show (2:Int)<=4 by omega⟩
theorem gW {t:List af}{r:Int}(h:eA (aP t r)=true):∃ f∈t,f.1=r:=by
 by_cases u:∃ f∈t,f.1=r
 ·exact u
 ·rw[jx (λg y e=>u ⟨g,y,e⟩)]at h;simp[eA]at h
theorem wU (K:Nat)(n:aa)(J:(aa.table n).length<=1048576)(I:1048577<K):Q197.f K (n,())=some ((fA n,()),()):=by
 have:=kR (step:=λrec a=>Q197.s0 K (n,()) rec a) (aa.table n) (vv n) (λf=>f.1) 2 (λz=>some ((z,()),())) ?_ ?_ ?_ (aa.table n).length 0 K [] (by omega) (by omega) (BR _) (by simp)
 ·exact this
 ·intro rec r i u H y;simp only[Q197.s0];rw[show decide ((i:Int)<(BB n.2.2.2.2.2.2.2.2.1:Int))=true from bD (by omega:(i:Int)<(BB (aa.table n):Int)),show idx n.2.2.2.2.2.2.2.2.1 (i:Int)=some (aa.table n)[i] from ag u,ar i (by omega),decide_eq_true (by omega:(BB r:Int)<2)];simp only[cond_true,BA,vv];show (bif (aa.table n)[i].1 != n.1 then (bif (aa.table n)[i].1 != (aa.probe n).1 then (bif (aa.table n)[i].2.2.1==1 then (bif decide ((BB r+BB ([(aa.table n)[i].1]))*8<=am) then (rec (r++([(aa.table n)[i].1]),((i+1:Nat):Int))) else none) else (rec (r,((i+1:Nat):Int)))) else (rec (r,((i+1:Nat):Int)))) else (rec (r,((i+1:Nat):Int))))=_;rw[szb _ _ _ (by omega) (by simp;omega)];cases (aa.table n)[i].1 != n.1 <;> cases (aa.table n)[i].1 != (aa.probe n).1 <;> cases (aa.table n)[i].2.2.1==1 <;> rfl
 ·intro rec r i u H y;simp only[Q197.s0];rw[show decide ((i:Int)<(BB n.2.2.2.2.2.2.2.2.1:Int))=true from bD (by omega:(i:Int)<(BB (aa.table n):Int)),decide_eq_false (by omega:¬ (BB r:Int)<2)];rfl
 ·intro rec r _;simp only[Q197.s0];rw[show decide ((BB (aa.table n):Int)<(BB n.2.2.2.2.2.2.2.2.1:Int))=false from aU _];rfl
theorem AI (K:Nat)(n:aa)(h:cz n)(Z:(aa.probe n).1≠-1)(h0:0<=(aa.probe n).2.1)(h1:(aa.probe n).2.1<=1000000)(a0:0<=n.2.2.2.2.2.1)(R:n.2.2.2.2.2.1<=1000000)(u:1048577<K) :
  Q198.f K (n,())=some (((dp n).1,(dp n).2,()),()):=by
 simp only[Q198.f,Q198.pre,zcp8,dp];rw[show ((aa.probe n).1==-1)=false by simpa using Z];simp only[cond_false];rw[show Q196.f K (n.2.2.2.2.2.2.2.2.1,n.2.2.2.2.2.2.2.2.2.2.1.1,())=_ from sO K (aa.table n) (aa.probe n).1 h.table h.lt u];simp only[BA];cases J:eA (aP (aa.table n) (aa.probe n).1) with
 |false=>rfl
 |true =>
  have y:=ek h.table (gW J);simp only[BI,cond_false];rw[aC (n:=n.2.2.2.2.2.1-n.2.2.2.2.2.2.2.2.2.2.1.2.1) (by show -9223372036854775808<=n.2.2.2.2.2.1-(aa.probe n).2.1;omega) (by show n.2.2.2.2.2.1-(aa.probe n).2.1<=9223372036854775807;omega)];show (bif decide (n.2.2.2.2.2.1-(aa.probe n).2.1>=4) then _ else _)=_;cases decide (n.2.2.2.2.2.1-(aa.probe n).2.1>=4) with
  |true =>
   simp only[cond_true];obtain⟨o,ho,e1⟩:=fk K (aa.table n) (aa.probe n).1 h.lt u;rw[show Q102.f K (n.2.2.2.2.2.2.2.2.1,n.2.2.2.2.2.2.2.2.2.2.1.1,())=_ from e1];simp only[BA];cases ho with
   |no z=>exact absurd (gW J) (λ⟨f,y,e⟩=>z f y e)
   |at_ j M e =>
    simp only;rw[show idx n.2.2.2.2.2.2.2.2.1 ((j:Nat):Int)=some (aa.table n)[j] from ag M,gp h.table.2 (BC M) y.2.2 (by rw[e,y.2.1])];simp only[BA];cases (aP (aa.table n) (aa.probe n).1).2.2.1==1 with
    |true =>
     simp only[cond_true];refine (congrArg (λo=>BS o _) (pC K (setP n noP) (pF (aP (aa.table n) (aa.probe n).1)) n.1 (h.setP noP) u)).trans ?_;rfl
    |false=>rfl
  |false =>
   simp only[cond_false];show (bif decide (n.2.2.2.2.2.1-(aa.probe n).2.1>=2) then _ else _)=_;cases decide (n.2.2.2.2.2.1-(aa.probe n).2.1>=2) with
   |false=>rfl
   |true =>
    simp only[cond_true];show (bif !(aa.probe n).2.2.2 then _ else _)=_;cases O:(aa.probe n).2.2.2 with
    |true=>rfl
    |false =>
     simp only[Bw,cond_true];refine (congrArg (λo=>BS o _) (wU K (lx n) h.lt u)).trans ?_;simp only[BA];rw[show fA (lx n)=fA n from rfl];have H:(fA n).length<=2:=CZ _ _;refine Cr (qq (step:=λrec a=>Q198.s0 K (n,()) rec a) (fA n) (λ_=>true) (askW n) (λr i=>(r,fA n,(i:Int))) (λY=>some ((lx n,Y,()),())) ?_ ?_ (by omega)) (by rw[BT.2 (λ_ _=>rfl)])
     ·intro rec r i I X;simp only[Q198.s0,zcp8];rw[bD (by omega:(i:Int)<(BB (fA n):Int)),ag I,ar i (by omega),BE,ag I];simp only[cond_true,BA,Q143.f];rw[szb _ _ _ (by omega) (by simp)];simp only[cond_true,BA];rw[szw _ _ _ (by omega) (by simp;omega)];rfl
     ·intro rec r X;simp only[Q198.s0,zcp8,aU];rfl
def gr (n:aa)(i:Int):aa:=(n.1,n.2.1,n.2.2.1,n.2.2.2.1,i,n.2.2.2.2.2)
def eB (n:aa)(f:af):aa:=bif decide (bI f (aP (aa.table n) n.1))&&decide (f.2.1<999) then sayOf (gr n (f.2.1+1)) (n.1,f.2.1+1,1,n.2.2.2.1) n.1 else n
def cF (f:af)(b:Int)(d:bo):bo:=bif d.1==f.1&&d.2.1==f.2.1&&f.2.2.1==2 then (d.1,d.2.1,d.2.2.1,bi (λx:Int=>x) b d.2.2.2) else d
def iE (n:aa)(f:af)(b:Int):aa:=fG n (aa.table n) (aa.cast n) ((aa.doubts n).map (cF f b))
def cV (b:Int)(n:aa)(f:af):aa:=bif f.1==n.1 then eB n f else iE (sayOf n f b) f b
def cY (n:aa)(t:List af)(b:Int):aa:=t.foldl (cV b) n
def kT (l:List Int):Prop:=Asc (λx:Int=>x) l/\∀ x∈l,InP x 0 7
theorem kT.len {l:List Int}(h:kT l):l.length<=8:=iO h.1 h.2
theorem kT.put {l:List Int}{b:Int}(h:kT l)(u:InP b 0 7):kT (bi (λx:Int=>x) b l) :=
 ⟨e8 h.1,λx r=>by
  rcases aX.1 r with rfl|⟨r,_⟩
  ·exact u
  ·exact h.2 x r⟩
structure dw (n:aa):Prop where
 say:cz n
 me:InP n.1 0 7
 has:∃ g∈aa.table n,g.1=n.1
 by_:∀ d∈aa.doubts n,kT d.2.2.2
theorem cz.inc {n:aa}(h:cz n)(i:Int):cz (gr n i):=⟨h.table,h.cast,h.asc,h.inp,h.lt,h.lc,h.ld⟩
theorem jR {n:aa}{f:af}{b:Int}(z:InP b 0 7)(h:∀ d∈aa.doubts n,kT d.2.2.2):∀ d∈aa.doubts (sayOf n f b),kT d.2.2.2:=by
 obtain⟨t,c,y,e,_,_,H⟩:=iD n f b;rw[e];intro d r;have r:d∈y:=r;rcases H with rfl|rfl
 ·exact h d r
 ·rcases kj r with rfl|r
  ·exact⟨Cs _ _,λx u=>by rw[B3.1 u];exact z⟩
  ·exact h d r
theorem qs {n:aa}{f:af}(r:InP n.1 0 7)(u:bq f)(h:f.2.1<999):bq (n.1,f.2.1+1,1,n.2.2.2.1):=by
 obtain⟨_,⟨y,z⟩,_⟩:=u;exact⟨r,⟨show (0:Int)<=f.2.1+1 by omega,show f.2.1+1<=999 by omega⟩,show (1:Int)<=1 by omega,show (1:Int)<=4 by omega⟩
theorem dw.refute {n:aa}{f:af}(h:dw n)(I:bq f):dw (eB n f):=by
 unfold eB;cases u:decide (bI f (aP (aa.table n) n.1))&&decide (f.2.1<999) with
 |false=>exact h
 |true =>
  have J:f.2.1<999:=by
   rw[CG]at u;exact of_decide_eq_true u.2
  obtain⟨z,_⟩:=iP (gr n (f.2.1+1)) (n.1,f.2.1+1,1,n.2.2.2.1) n.1;refine⟨ij (h.say.inc _) (qs h.me I J),?_,?_,jR h.me h.by_⟩
  ·show InP (sayOf (gr n (f.2.1+1)) (n.1,f.2.1+1,1,n.2.2.2.1) n.1).1 0 7;rw[z];exact h.me
  ·obtain⟨g,M,e⟩:=h.has;obtain⟨y,r,H⟩:=jy (n:=gr n (f.2.1+1)) (f:=(n.1,f.2.1+1,1,n.2.2.2.1)) (b:=n.1) (g:=g) M;refine⟨y,r,?_⟩;show y.1=(sayOf (gr n (f.2.1+1)) (n.1,f.2.1+1,1,n.2.2.2.1) n.1).1;rw[z,H,e];rfl
theorem dw.confirm {n:aa}{f:af}{b:Int}(h:dw n)(X:bq f)(M:InP b 0 7):dw (iE (sayOf n f b) f b):=by
 have u:=ij (b:=b) h.say X;obtain⟨O,_⟩:=iP n f b;have z:=jR (f:=f) M h.by_;obtain⟨g,Z,e⟩:=h.has;obtain⟨R,H,Y⟩:=jy (n:=n) (f:=f) (b:=b) Z;have J:∀ d,(cF f b d).1=d.1:=λd=>by unfold cF;cases d.1==f.1&&d.2.1==f.2.1&&f.2.2.1==2 <;> rfl
 refine⟨⟨u.table,u.cast,?_,λd I=>?_,u.lt,u.lc,?_⟩,?_,⟨R,H,?_⟩,λd I=>?_⟩
 ·show Asc (λd:bo=>d.1) ((aa.doubts (sayOf n f b)).map (cF f b));unfold Asc;rw[Bz];exact u.asc.imp λ {a c} h=>by show (cF f b a).1<(cF f b c).1;rw[J,J];exact h
 ·obtain⟨y,r,rfl⟩:=BY.1 I;rw[J];exact u.inp y r
 ·show ((aa.doubts (sayOf n f b)).map (cF f b)).length<=_;rw[BU];exact u.ld
 ·show InP (sayOf n f b).1 0 7;rw[O];exact h.me
 ·show R.1=(sayOf n f b).1;rw[O,Y,e]
 ·obtain⟨y,r,rfl⟩:=BY.1 I;unfold cF;cases y.1==f.1&&y.2.1==f.2.1&&f.2.2.1==2 with
  |false=>exact z y r
  |true=>exact (z y r).put M
theorem dw.step {n:aa}{f:af}{b:Int}(h:dw n)(r:bq f)(u:InP b 0 7):dw (cV b n f):=by
 unfold cV;cases f.1==n.1 with
 |true=>exact h.refute r
 |false=>exact h.confirm r u
theorem sP {α A R:Type}(ds:List α)(g:α->α)(S:List α->Nat->A)(u:List α->Option R){step:(A->Option R)->A->Option R}
  (h:∀ (rec:A->Option R) (cur:List α) (i:Nat) (O:i<ds.length),cur.length=ds.length->cur[i]?=some ds[i]->step rec (S cur i)=rec (S (cur.set i (g ds[i])) (i+1)))
  (y:∀ (rec:A->Option R) (cur:List α),cur.length=ds.length->step rec (S cur ds.length)=u cur) {k:Nat} (M:ds.length<k):ae step k (S ds 0)=u (ds.map g):=by
 have:∀ (d i k:Nat) (cur:List α),i+d=ds.length->d<k->cur.length=ds.length->(∀ j,(r:j<ds.length)->cur[j]?=some (if j<i then g ds[j] else ds[j]))->ae step k (S cur i)=u (ds.map g):=by
  intro d;induction d with
  |zero =>
   intro i k cur O M I H;obtain⟨k,rfl⟩:∃ J,k=J+1:=⟨k-1,by omega⟩;have:i=ds.length:=by omega
   subst this;show step (ae step k) _=_;rw[y _ _ I];congr 1;refine List.ext_getElem? λj=>?_
   rw[List.getElem?_map];by_cases r:j<ds.length
   ·rw[H j r,if_pos r,BK r];rfl
   ·rw[CQ (by omega),CQ (by omega)];rfl
  |succ d Y =>
   intro i k cur O M I H;obtain⟨k,rfl⟩:∃ J,k=J+1:=⟨k-1,by omega⟩;have z:i<ds.length:=by omega
   show step (ae step k) _=_;rw[h (ae step k) cur i z I (by rw[H i z,if_neg (by omega)])];refine Y (i+1) k _ (by omega) (by omega) (by rw[Cx,I]) λj r=>?_
   rw[List.getElem?_set];by_cases e:i=j
   ·subst e;rw[if_pos rfl,if_pos (by omega),if_pos (by omega)]
   ·rw[if_neg e,H j r];by_cases X:j<i
    ·rw[if_pos X,if_pos (by omega)]
    ·rw[if_neg X,if_neg (by omega)]
 exact this ds.length 0 k ds (by omega) M rfl (λj r=>by rw[if_neg (by omega),BK r])
theorem l8 {α:Type}{cur:List α}{i:Nat}{x:α}(h:cur[i]?=some x):cur.set i x=cur:=by
 obtain⟨r,e⟩:=List.getElem?_eq_some_iff.1 h;rw[<- e,List.set_getElem_self]
theorem sQ {by_:List Int}{b:Int}{m:Nat}(r:m<=by_.length)(z:by_.length<=8){R:Type}(G:List Int->Option R) :
  (bif decide ((0:Int)<=0)&&decide ((0:Int)<=(m:Int))&&decide ((m:Int)<=(BB by_:Int))&&true then (bif decide ((BB ([]:List Int)+BB ((by_.take (BD (m:Int))).drop (BD 0)))*8<=am) then (bif decide ((BB ([]++((by_.take (BD (m:Int))).drop (BD 0)))+BB ([b]))*8<=am) then (bif decide ((0:Int)<=(m:Int))&&decide ((m:Int)<=(BB by_:Int))&&decide ((BB by_:Int)<=(BB by_:Int))&&true then (bif decide ((BB (([]++((by_.take (BD (m:Int))).drop (BD 0)))++([b]))+BB ((by_.take (BD (BB by_:Int))).drop (BD (m:Int))))*8<=am) then G ((([]++((by_.take (BD (m:Int))).drop (BD 0)))++([b]))++((by_.take (BD (BB by_:Int))).drop (BD (m:Int)))) else none) else none) else none) else none) else none)=G (by_.take m++[b]++by_.drop m):=by
 rw[decide_eq_true (by omega:(0:Int)<=0),decide_eq_true (by omega:(0:Int)<=(m:Int)),decide_eq_true (by omega:(m:Int)<=(BB by_:Int)),decide_eq_true (by omega:(BB by_:Int)<=(BB by_:Int))];simp only[BE,CT,BZ,BO,CN,CP,cond_true];have u:(by_.take m).length=m:=by rw[BW];omega
 have y:(by_.drop m).length=by_.length-m:=B4;rw[szb _ _ _ (by omega) (by simp only[BM];omega),szb _ _ _ (by omega) (by simp only[BG,BM];omega),szb _ _ _ (by omega) (by simp only[BP,BG,BM];omega)];rfl
theorem wV (K:Nat)(n:aa)(f:af)(b:Int)(hd:∀ d∈aa.doubts n,kT d.2.2.2)(hl:(aa.doubts n).length<=1048576)(hK:1048577<K):Q137.f K (n,f,b,())=some ((iE n f b,()),()):=by
 simp only[Q137.f,Q137.pre];refine sP (step:=λrec a=>Q137.s0 K (n,f,b,()) (Q137.l1 K (n,f,b,()) rec) rec a) (aa.doubts n) (cF f b) (λu i=>((i:Int),u)) (λu=>some ((fG n (aa.table n) (aa.cast n) u,()),())) ?_ ?_ (by omega)
 ·intro rec u i hi X I;have M:i<u.length:=by omega
  have a2:u[i]=(aa.doubts n)[i]:=by
   rw[BK M]at I;exact DG I
  have R:=hd _ (BC hi);simp only[Q137.s0,zcp8];rw[bD (by omega:(i:Int)<(BB u:Int)),ag M,ar i (by omega),BE,ag M,a2];simp only[cond_true,BA];generalize a8:(aa.doubts n)[i]=d at R I ⊢;have H:rec (((i+1:Nat):Int),u)=rec (((i+1:Nat):Int),u.set i d):=by rw[l8 I]
  unfold cF;by_cases h1:d.1=f.1
  case neg =>
   rw[show (d.1 != f.1)=true by simpa using h1,show (d.1==f.1)=false by simpa using h1];exact H
  by_cases h2:d.2.1=f.2.1
  case neg =>
   rw[show (d.1 != f.1)=false by simpa using h1,show (d.2.1 != f.2.1)=true by simpa using h2,show (d.2.1==f.2.1)=false by simpa using h2,Cz];exact H
  by_cases h3:f.2.2.1=2
  case neg =>
   rw[show (d.1 != f.1)=false by simpa using h1,show (d.2.1 != f.2.1)=false by simpa using h2,show (f.2.2.1 != 2)=true by simpa using h3,show (f.2.2.1==2)=false by simpa using h3,Cz];exact H
  rw[show (d.1 != f.1)=false by simpa using h1,show (d.2.1 != f.2.1)=false by simpa using h2,show (f.2.2.1 != 2)=false by simpa using h3,show (d.1==f.1)=true by simpa using h1,show (d.2.1==f.2.1)=true by simpa using h2,show (f.2.2.1==2)=true by simpa using h3];simp only[cond_false,CP,cond_true];have a1:=R.len;have a0:∀ m:Nat,m<=d.2.2.2.length->(∀ j,(J:j<d.2.2.2.length)->j<m->d.2.2.2[j]<b)->(∀ j,(J:j<d.2.2.2.length)->m<=j->b<d.2.2.2[j])->d.2.2.2.take m++[b]++d.2.2.2.drop m=bi (λx:Int=>x) b d.2.2.2:=λm Z lo hi=>gq (k:=λx:Int=>x) Z lo hi
  have:=bX (step:=λr a=>Q137.s1 K (n,f,b,()) rec r a) d.2.2.2.length (λj=>((i:Int),(j:Int),u,d.1,d.2.1,d.2.2.1,d.2.2.2)) (λj=>∃ h:j<d.2.2.2.length,¬ d.2.2.2[j]<b)
   (rec (((i+1:Nat):Int),u.set i (d.1,d.2.1,d.2.2.1,d.2.2.2.take d.2.2.2.length++[b]++d.2.2.2.drop d.2.2.2.length)))
   (λj=>if h:j<d.2.2.2.length then (if d.2.2.2[j]=b then rec (((i+1:Nat):Int),u) else rec (((i+1:Nat):Int),u.set i (d.1,d.2.1,d.2.2.1,d.2.2.2.take j++[b]++d.2.2.2.drop j))) else none) ?_ ?_ d.2.2.2.length K 0 (by omega) (by omega)
  ·rcases this with ⟨a4,he⟩|⟨j,_,J,⟨Y,a7⟩,a6,he⟩
   ·refine Cr he ?_;rw[a0 _ (BR _) (λj J _=>by
     by_cases O:d.2.2.2[j]<b
     ·exact O
     ·exact absurd ⟨J,O⟩ (a4 j (B8 _) J)) (λj J Z=>by omega)]
   ·refine Cr he ?_;rw[dif_pos Y];have lo:∀ m,(Z:m<d.2.2.2.length)->m<j->d.2.2.2[m]<b:=λm Z a3=>by
     by_cases O:d.2.2.2[m]<b
     ·exact O
     ·exact absurd ⟨Z,O⟩ (a6 m (B8 _) a3)
    by_cases y:d.2.2.2[j]=b
    ·rw[if_pos y,<- ig (k:=λx:Int=>x) R.1 Y y];rw[show d.2.2.2.set j b=d.2.2.2 from l8 (by rw[BK Y,y])];exact H
    ·rw[if_neg y,a0 j (by omega) lo (λm Z a5=>by
      rcases CA a5 with h4|rfl
      ·have:=cE.1 R.1 j m (by omega) Z h4;omega
      ·omega)]
  ·intro r j J;simp only[Q137.s1];rw[bD (by omega:(j:Int)<(BB d.2.2.2:Int)),ag J,ar j (by omega)];simp only[cond_true,BA];by_cases O:d.2.2.2[j]<b
   ·left;refine⟨λ⟨_,h⟩=>h O,?_⟩;rw[decide_eq_true O];rfl
   ·right;refine⟨⟨J,O⟩,?_⟩;rw[decide_eq_false O,show ((j:Int)==(BB d.2.2.2:Int))=false by simp;omega,dif_pos J];simp only[cond_false];by_cases y:d.2.2.2[j]=b
    ·rw[if_pos y,show (d.2.2.2[j] != b)=false by simpa using y,ar i (by omega)];rfl
    ·rw[if_neg y,show (d.2.2.2[j] != b)=true by simpa using y];simp only[cond_true];refine (sQ (m:=j) (b:=b) (Nat.le_of_lt J) a1 (λz=>(idx u (i:Int)).bind λ_=>(idx u (BD (i:Int):Nat)).bind λ_=>rec (wr .i64 ((i:Int)+1),u.set (BD (i:Int)) (d.1,(d.2.1,(d.2.2.1,z)))))).trans ?_;rw[BE,ag M,ar i (by omega)];rfl
  ·intro r;simp only[Q137.s1];rw[aU];simp only[cond_false,beq_self_eq_true,cond_true];refine (sQ (b:=b) (BR _) a1 (λz=>(idx u (i:Int)).bind λ_=>(idx u (BD (i:Int):Nat)).bind λ_=>rec (wr .i64 ((i:Int)+1),u.set (BD (i:Int)) (d.1,(d.2.1,(d.2.2.1,z)))))).trans ?_;rw[BE,ag M,ar i (by omega)];rfl
 ·intro rec u X;simp only[Q137.s0,zcp8];rw[<- X,aU];rfl
theorem yq (K:Nat)(n:aa)(f:af)(h:dw n)(J:bq f)(y:1048577<K):Q136.f K (n,f,())=some ((eB n f,()),()):=by
 simp only[Q136.f,zcp4];have r:=ek h.say.table h.has;obtain⟨o,M,I⟩:=fk K (aa.table n) n.1 h.say.lt y;rw[show Q102.f K (n.2.2.2.2.2.2.2.2.1,n.1,())=_ from I];simp only[BA];cases M with
 |no u=>exact absurd h.has (λ⟨g,O,e⟩=>u g O e)
 |at_ j H e =>
  simp only;rw[show idx n.2.2.2.2.2.2.2.2.1 ((j:Nat):Int)=some (aa.table n)[j] from ag H,gp h.say.table.2 (BC H) r.2.2 (by rw[e,r.2.1])];simp only[BA];rw[pB];obtain⟨_,⟨R,X⟩,_⟩:=J;simp only[rb,BA,eB];cases decide (bI f (aP (aa.table n) n.1)) with
  |false=>rfl
  |true =>
   simp only[BI,cond_false,CB];by_cases z:f.2.1<999
   ·rw[decide_eq_false (by omega:¬ f.2.1>=999),decide_eq_true z,aC (by omega) (by omega)];simp only[cond_false,cond_true];refine (congrArg (λo=>BS o _) (pC K (gr n (f.2.1+1)) (n.1,f.2.1+1,1,n.2.2.2.1) n.1 (h.say.inc _) y)).trans ?_;rfl
   ·rw[decide_eq_true (by omega:f.2.1>=999),decide_eq_false z];rfl
theorem uH (K:Nat)(n:aa)(t:List af)(b:Int)(h:dw n)(I:∀ f∈t,bq f)(J:t.length<=1048576)(H:InP b 0 7)(y:1048577<K):Q138.f K (n,t,b,())=some ((cY n t b,()),()):=by
 refine kA (step:=λrec a=>Q138.s0 K (n,t,b,()) rec a) t (cV b) dw (λm i=>((i:Int),m.1,m.2.1,m.2.2.1,m.2.2.2.1,m.2.2.2.2.1,m.2.2.2.2.2.1,m.2.2.2.2.2.2.1,m.2.2.2.2.2.2.2.1,m.2.2.2.2.2.2.2.2.1,m.2.2.2.2.2.2.2.2.2.1,m.2.2.2.2.2.2.2.2.2.2.1.1,m.2.2.2.2.2.2.2.2.2.2.1.2.1,m.2.2.2.2.2.2.2.2.2.2.1.2.2.1,m.2.2.2.2.2.2.2.2.2.2.1.2.2.2,m.2.2.2.2.2.2.2.2.2.2.2.1,m.2.2.2.2.2.2.2.2.2.2.2.2.1.1,m.2.2.2.2.2.2.2.2.2.2.2.2.1.2.1,m.2.2.2.2.2.2.2.2.2.2.2.2.1.2.2.1,m.2.2.2.2.2.2.2.2.2.2.2.2.1.2.2.2,m.2.2.2.2.2.2.2.2.2.2.2.2.2.1,m.2.2.2.2.2.2.2.2.2.2.2.2.2.2)) (λm=>some ((m,()),())) n h ?_ ?_ (by omega)
 ·intro rec m i z r;have u:=I _ (BC z);refine⟨?_,r.step u H⟩;simp only[Q138.s0,zc286a0,zc3ec45];rw[bD (by omega:(i:Int)<(BB t:Int)),ag z,ar i (by omega)];simp only[cond_true,BA];generalize t[i]=f at u ⊢;unfold cV;cases f.1==m.1 with
  |true =>
   simp only[cond_true];refine (congrArg (λo=>BS o _) (yq K m f r u y)).trans ?_;rfl
  |false =>
   simp only[cond_false];refine (congrArg (λo=>BS o _) (pC K m f b r.say y)).trans ?_;simp only[BA];rw[wV K (sayOf m f b) f b (jR H r.by_) (ij r.say u).ld y];rfl
 ·intro rec m r;simp only[Q138.s0,zc286a0,zc3ec45];rw[aU];rfl
theorem zO (K:Nat)(l:List Int)(v:Int)(M:l.length<=1048576)(Z:Asc (λx:Int=>x) l)(hK:1048577<K) :
  ∃ m,m<=l.length/\(∀ i,(h:i<l.length)->i<m->l[i]<v)/\(∀ i,(h:i<l.length)->m<=i->v<=l[i])/\Q63.f K (l,v,())=some ((((m:Nat):Int),decide (∃ h:m<l.length,l[m]=v),()),()):=by
 let ks:Nat->Int:=λi=>if h:i<l.length then l[i] else 0
 have r:∀ i (h:i<l.length),ks i=l[i]:=λi h=>by simp[ks,h]
 let u:Nat->Option ((Int×Bool×Unit)×Unit):=λm=>some ((((m:Nat):Int),decide (∃ h:m<l.length,l[m]=v),()),())
 have:=pq (step:=λrec a=>Q63.s0 K (l,v,()) rec a) (ks:=ks) (n:=l.length) (t:=v) u M
  (λi j z H=>by
   rw[r i (by omega),r j H];exact cE.1 Z i j (by omega) H z) ?_ ?_ l.length K 0 l.length (by omega) (B8 _) (BR _) (by omega) (λi y=>by omega) (λi y hn=>by omega)
 ·obtain⟨m,X,J,O,h4⟩:=this;exact⟨m,X,λi h y=>by rw[<- r i h];exact J i y,λi h y=>by rw[<- r i h];exact O i y h,h4⟩
 ·intro rec a b a0 hb;have I:(a+b) / 2<l.length:=by omega
  simp only[Q63.s0];rw[decide_eq_true (by omega:(a:Int)<(b:Int)),nF (by omega)];simp only[cond_true];rw[ag I];simp only[BA,Q61.f,Q18.f,bne_self_eq_false,cond_false];rw[r _ I,ar _ (by omega)];by_cases h:l[(a+b) / 2]<v
  ·rw[if_pos h,decide_eq_true h];rfl
  ·rw[if_neg h,decide_eq_false h];rfl
 ·intro rec a ha;simp only[Q63.s0];rw[decide_eq_false (by omega)];simp only[cond_false];by_cases h:a<l.length
  ·rw[decide_eq_true (by omega:(a:Int)<(BB l:Int)),ag h];simp only[cond_true,BA,Q62.f,bne_self_eq_false,cond_false];by_cases e:l[a]=v
   ·rw[show (l[a]==v)=true by simpa using e];simp only[cond_true,u];rw[decide_eq_true ⟨h,e⟩]
   ·rw[show (l[a]==v)=false by simpa using e];simp only[cond_false,u];rw[decide_eq_false (λ⟨_,Y⟩=>e Y)]
  ·rw[decide_eq_false (by omega:¬ (a:Int)<(BB l:Int))];simp only[cond_false,u];rw[decide_eq_false (λ⟨R,_⟩=>h R)]
abbrev flN {R:Type}(n:aa)(r:R):=(n.1,n.2.1,n.2.2.1,n.2.2.2.1,n.2.2.2.2.1,n.2.2.2.2.2.1,n.2.2.2.2.2.2.1,n.2.2.2.2.2.2.2.1,n.2.2.2.2.2.2.2.2.1,n.2.2.2.2.2.2.2.2.2.1,n.2.2.2.2.2.2.2.2.2.2.1.1,n.2.2.2.2.2.2.2.2.2.2.1.2.1,n.2.2.2.2.2.2.2.2.2.2.1.2.2.1,n.2.2.2.2.2.2.2.2.2.2.1.2.2.2,n.2.2.2.2.2.2.2.2.2.2.2.1,n.2.2.2.2.2.2.2.2.2.2.2.2.1.1,n.2.2.2.2.2.2.2.2.2.2.2.2.1.2.1,n.2.2.2.2.2.2.2.2.2.2.2.2.1.2.2.1,n.2.2.2.2.2.2.2.2.2.2.2.2.1.2.2.2,n.2.2.2.2.2.2.2.2.2.2.2.2.2.1,n.2.2.2.2.2.2.2.2.2.2.2.2.2.2,r)
abbrev flE (n:aa):=(n.1,n.2.1,n.2.2.1,n.2.2.2.1,n.2.2.2.2.1,n.2.2.2.2.2.1,n.2.2.2.2.2.2.1,n.2.2.2.2.2.2.2.1,n.2.2.2.2.2.2.2.2.1,n.2.2.2.2.2.2.2.2.2.1,n.2.2.2.2.2.2.2.2.2.2.1.1,n.2.2.2.2.2.2.2.2.2.2.1.2.1,n.2.2.2.2.2.2.2.2.2.2.1.2.2.1,n.2.2.2.2.2.2.2.2.2.2.1.2.2.2,n.2.2.2.2.2.2.2.2.2.2.2.1,n.2.2.2.2.2.2.2.2.2.2.2.2.1.1,n.2.2.2.2.2.2.2.2.2.2.2.2.1.2.1,n.2.2.2.2.2.2.2.2.2.2.2.2.1.2.2.1,n.2.2.2.2.2.2.2.2.2.2.2.2.1.2.2.2,n.2.2.2.2.2.2.2.2.2.2.2.2.2.1,n.2.2.2.2.2.2.2.2.2.2.2.2.2.2)
theorem wW (K:Nat)(n0:aa)(t:List af)(n:aa)(f:af)(b:Int)(i:Nat)(hi:i<=1048576)(hd:∀ d∈aa.doubts n,kT d.2.2.2)(hl:(aa.doubts n).length<=1048576)(hK:1048577<K)(I:Q64.A0->Option Q64.Res) :
  Q64.l1 K (n0,t,b,()) I ((i:Int),(BB (aa.doubts n):Int),0,flN n f)=I (((i+1:Nat):Int),flE (iE n f b)):=by
 refine sP (step:=λr a=>Q64.s1 K (n0,t,b,()) I r a) (aa.doubts n) (cF f b) (λu k=>((i:Int),(BB (aa.doubts n):Int),(k:Int),flN (fG n (aa.table n) (aa.cast n) u) f)) (λu=>I (((i+1:Nat):Int),flE (fG n (aa.table n) (aa.cast n) u))) ?_ ?_ (by omega)
 ·intro rec u k hk O H;have R:k<u.length:=by omega
  have a0:u[k]=(aa.doubts n)[k]:=by
   rw[BK R]at H;exact DG H
  have J:=hd _ (BC hk);have z:idx u (k:Int)=some (aa.doubts n)[k]:=by rw[ag R,a0]
  simp only[Q64.s1,zcp4,zcp8];rw[bD (by omega:(k:Int)<(BB (aa.doubts n):Int)),ar k (by omega),BE];simp only[cond_true];refine (congrArg (λo=>BS o _) z).trans ?_;simp only[BA];generalize a2:(aa.doubts n)[k]=d at J H z ⊢;have y:rec ((i:Int),(BB (aa.doubts n):Int),((k+1:Nat):Int),flN (fG n (aa.table n) (aa.cast n) u) f)=rec ((i:Int),(BB (aa.doubts n):Int),((k+1:Nat):Int),flN (fG n (aa.table n) (aa.cast n) (u.set k d)) f):=by rw[l8 H]
  unfold cF;by_cases h3:f.2.2.1=2
  case neg =>
   rw[show (f.2.2.1 != 2)=true by simpa using h3,show (f.2.2.1==2)=false by simpa using h3,Cz];exact y
  rw[show (f.2.2.1 != 2)=false by simpa using h3,show (f.2.2.1==2)=true by simpa using h3];simp only[cond_false,Cj];refine (congrArg (λo=>BS o _) z).trans ?_;simp only[BA];by_cases h1:d.1=f.1
  case neg =>
   rw[show (d.1 != f.1)=true by simpa using h1,show (d.1==f.1)=false by simpa using h1,CM];exact y
  rw[show (d.1 != f.1)=false by simpa using h1,show (d.1==f.1)=true by simpa using h1];simp only[cond_false,CB];refine (congrArg (λo=>BS o _) z).trans ?_;simp only[BA];by_cases h2:d.2.1=f.2.1
  case neg =>
   rw[show (d.2.1 != f.2.1)=true by simpa using h2,show (d.2.1==f.2.1)=false by simpa using h2];exact y
  rw[show (d.2.1 != f.2.1)=false by simpa using h2,show (d.2.1==f.2.1)=true by simpa using h2];simp only[cond_false,cond_true];refine (congrArg (λo=>BS o _) z).trans ?_;simp only[BA];have a1:=J.len;obtain⟨m,hm,lo,Z,hs⟩:=zO K d.2.2.2 b (by omega) J.1 hK;refine (congrArg (λo=>BS o _) hs).trans ?_;simp only[BA];by_cases hb:∃ h:m<d.2.2.2.length,d.2.2.2[m]=b
  ·rw[decide_eq_true hb];obtain⟨X,e⟩:=hb;rw[show bi (λx:Int=>x) b d.2.2.2=d.2.2.2 by rw[<- ig (k:=λx:Int=>x) J.1 X e];exact l8 (by rw[BK X,e])];exact y
  ·rw[decide_eq_false hb];simp only[Bw,cond_true];refine (congrArg (λo=>BS o _) z).trans ?_;simp only[BA];refine (congrArg (λo=>BS o _) z).trans ?_;simp only[BA];have Y:Q6.f K (d.2.2.2,(m:Int),[b],())=some ((d.2.2.2.take m++[b]++d.2.2.2.drop m,()),()):=ju hm (by decide) (by show d.2.2.2.length<=1048576;omega);refine (congrArg (λo=>BS o _) Y).trans ?_;simp only[BA];refine (congrArg (λo=>BS o _) z).trans ?_;rw[<- gq (k:=λx:Int=>x) hm lo (λj hj M=>by
    rcases Int.lt_or_eq_of_le (Z j hj M) with h|h
    ·exact h
    ·exfalso;rcases CA M with h4|rfl
     ·have:=cE.1 J.1 m j (by omega) hj h4;have h5:=Z m (by omega) (BR _);omega
     ·exact hb ⟨hj,h.symm⟩)]
   simp only[BA,Nat.beq_refl,cond_true];rfl
 ·intro rec u O;simp only[Q64.s1,zcp4,zcp8];rw[aU,ar i (by omega)];rfl
theorem yt {R:Type}(K:Nat)(n:aa)(f:af)(h:dw n)(y:bq f)(e:f.1=n.1)(r:1048577<K)(G:aa->Option R) :
  ((Q22.f K (aa.table n,n.1,())).bind λZ=>(Q36.f K (f,Z.1.1,())).bind λH=>bif H.1.1 then (bif decide (f.2.1<999) then ((Q60.f K (gr n (wr .i64 (f.2.1+1)),(n.1,wr .i64 (f.2.1+1),1,n.2.2.2.1),n.1,())).bind λY=>G Y.2.1) else G n) else G n)=G (eB n f):=by
 obtain⟨b',O⟩:=mM K (aa.table n) n.1 h.say.table h.say.lt r;rw[O];simp only[BA];obtain⟨X,I,p3⟩:=ek h.say.table h.has;obtain⟨c,J,M⟩:=pu K f (aP (aa.table n) n.1) r;rw[J];have z:c=decide (bI f (aP (aa.table n) n.1)):=by
  rw[CO,M,decide_eq_true_eq];exact⟨λh=>h.2.2.2,λh=>⟨y,X,e.trans I.symm,h⟩⟩
 subst z;obtain⟨_,⟨i0,i1⟩,_⟩:=id y;simp only[rb,BA,eB];cases decide (bI f (aP (aa.table n) n.1)) with
 |false=>rfl
 |true =>
  simp only[cond_true,CB];by_cases u:f.2.1<999
  ·rw[decide_eq_true u,aC (by omega) (by omega)];simp only[cond_true];rw[zl K (gr n (f.2.1+1)) (n.1,f.2.1+1,1,n.2.2.2.1) n.1 (h.say.inc _) (qs h.me y u) r];rfl
  ·rw[decide_eq_false u];rfl
theorem uI (K:Nat)(n:aa)(t:List af)(b:Int)(h:dw n)(J:∀ f∈t,bq f)(M:t.length<=1048576)(I:InP b 0 7)(y:1048577<K):Q64.f K (n,t,b,())=some ((),(cY n t b,())):=by
 refine kA (step:=λrec a=>Q64.s0 K (n,t,b,()) (Q64.l1 K (n,t,b,()) rec) rec a) t (cV b) dw (λm i=>((i:Int),flE m)) (λm=>some ((),(m,()))) n h ?_ ?_ (by omega)
 ·intro rec m i H r;have u:=J _ (BC H);refine⟨?_,r.step u I⟩;simp only[Q64.s0,zc286a0,zc3ec45,zcp4];rw[bD (by omega:(i:Int)<(BB t:Int)),ag H,ar i (by omega)];simp only[cond_true,BA];generalize t[i]=f at u ⊢;unfold cV;by_cases e:f.1=m.1
  ·rw[show (f.1==m.1)=true by simpa using e];simp only[cond_true];exact yt K m f r u e y (λz=>rec (((i+1:Nat):Int),flE z))
  ·rw[show (f.1==m.1)=false by simpa using e];simp only[cond_false];refine (congrArg (λo=>BS o _) (zl K m f b r.say u y)).trans ?_;simp only[BA];exact wW K n t (sayOf m f b) f b i (by omega) (jR I r.by_) (ij r.say u).ld y rec
 ·intro rec m r;simp only[Q64.s0,zc286a0,zc3ec45,zcp4];rw[aU];rfl
def dB {α:Type}(r:α->α->Bool)(x:α):List α->List α->List α
 |[],B=>x::B
 |y::A,B=>bif r x y then dB r x A (y::B) else (y::A).reverse++x::B
def cW {α:Type}(r:α->α->Bool):List α->List α->List α
 |done,[]=>done
 |done,x::u=>cW r (dB r x done.reverse []) u
theorem oP {α:Type}(r:α->α->Bool)(x:α):∀ (A B C:List α),dB r x A (B++C)=dB r x A B++C
 |[],B,C=>rfl
 |y::A,B,C=>by
  simp only[dB];cases r x y with
  |true=>exact oP r x A (y::B) C
  |false=>simp
theorem oQ {α:Type}(r:α->α->Bool)(x:α):∀ (A B:List α),(dB r x A B).length=A.length+B.length+1
 |[],B=>by simp[dB]
 |y::A,B=>by
  simp only[dB];cases r x y with
  |true=>simp only[cond_true];rw[oQ r x A (y::B)];simp;omega
  |false=>simp;omega
theorem mO {α:Type}(r:α->α->Bool)(x:α):∀ (A B:List α),(dB r x A B).Perm (x::(A.reverse++B))
 |[],B=>by simp[dB]
 |y::A,B=>by
  simp only[dB];cases r x y with
  |true=>exact (mO r x A (y::B)).trans (by simp)
  |false=>simp only[cond_false];exact C9
theorem l9 {α:Type}(r:α->α->Bool):∀ (xs done:List α),(cW r done xs).Perm (done++xs)
 |[],done=>by simp[cW]
 |x::xs,done=>by
  simp only[cW];refine (l9 r xs _).trans ?_;have:=mO r x done.reverse [];simp only[Bx,BN]at this;exact (this.append_right xs).trans (by simpa using (C9 (a:=x) (l₁:=done) (l₂:=xs)).symm)
def jE {α:Type}(r:α->α->Bool)(xs:List α):Prop:=xs.Pairwise λa b=>r b a=false
theorem kU {α:Type}(r:α->α->Bool)(I:∀ a b c,r a b=false->r b c=false->r a c=false)(x:α) :
  ∀ (A B:List α),jE r A.reverse->dB r x A B=(A.reverse.filter λy=>!r x y)++x::((A.reverse.filter λy=>r x y)++B)
 |[],B,_=>rfl
 |y::A,B,h=>by
  simp only[dB];have O:jE r A.reverse:=by
   unfold jE at h ⊢;rw[CL,CJ]at h;exact h.1
  cases z:r x y with
  |true =>
   simp only[cond_true];rw[kU r I x A (y::B) O];simp[z,B9]
  |false =>
   have H:∀ a∈A.reverse,r x a=false:=λa u=>by
    unfold jE at h;rw[CL,CJ]at h;exact I x y a z (h.2.2 a u y (by simp))
   simp only[cond_false];have M:(y::A).reverse.filter (λy=>!r x y)=(y::A).reverse:=BT.2 λa u=>by
    rw[CL,B7,B3]at u;rcases u with u|rfl
    ·rw[H a u];rfl
    ·rw[z];rfl
   have J:(y::A).reverse.filter (λy=>r x y)=[]:=BX.2 λa u=>by
    rw[CL,B7,B3]at u;rcases u with u|rfl
    ·rw[H a u];simp
    ·rw[z];simp
   rw[M,J];rfl
theorem vw {α:Type}(r:α->α->Bool)(I:∀ a b c,r a b=false->r b c=false->r a c=false)(u:∀ a b,r a b=true->r b a=false)(x:α)(A:List α)(h:jE r A):jE r (dB r x A.reverse []):=by
 rw[kU r I x A.reverse [] (by rwa [Bx])];unfold jE at h ⊢;simp only[Bx,BN];rw[CJ];refine⟨h.filter _,?_,?_⟩
 ·rw[BQ];refine⟨λa y=>?_,h.filter _⟩;exact u _ _ (by simpa using (BH.1 y).2)
 ·intro a y b z;have H:r x a=false:=by simpa using (BH.1 y).2
  rcases CE.1 z with rfl|z
  ·exact H
  ·have J:r x b=true:=by simpa using (BH.1 z).2
   exact I b x a (u _ _ J) H
theorem mP {α:Type}(r:α->α->Bool)(y:∀ a b c,r a b=false->r b c=false->r a c=false)(u:∀ a b,r a b=true->r b a=false):∀ (xs done:List α),jE r done->jE r (cW r done xs)
 |[],done,h=>h
 |x::xs,done,h=>mP r y u xs _ (vw r y u x done h)
theorem n9 {α:Type}(O:α->α->Bool):∀ {H u:List α},H.Perm u->jE O H->u.Pairwise (λa b=>O a b=true)->H=u
 |H,[],r,_,_=>r.eq_nil
 |[],z::u,r,_,_=>absurd r.symm.eq_nil (by simp)
 |y::H,z::u,r,I,M=>by
  unfold jE at I;rw[BQ]at I M;have e:y=z:=by
   rcases CE.1 (r.mem_iff.1 (C5 ..)) with h|h
   ·exact h
   ·have R:=M.1 y h;rcases CE.1 (r.symm.mem_iff.1 (C5 ..)) with J|J
    ·exact J.symm
    ·rw[I.1 z J]at R;cases R
  subst e;rw[n9 O r.cons_inv I.2 M.2]
abbrev SoR (α:Type):=Unit×(List α×Unit)
theorem vz {α R:Type}(H:α->α->Bool)(i:Int)(r:List α×Int->Option R){step:(List α×Int×Int->Option R)->List α×Int×Int->Option R}
  (h:∀ (rec:List α×Int×Int->Option R) (A:List α) (y x:α) (B:List α),A.length+B.length<=1048576->step rec (A++y::x::B,i,((A.length+1:Nat):Int))=bif H x y then rec (A++x::y::B,i,(A.length:Int)) else r (A++y::x::B,wr .i64 (i+1)))
  (X:∀ (rec:List α×Int×Int->Option R) (I:List α),step rec (I,i,0)=r (I,wr .i64 (i+1))) :
  ∀ (A B:List α) (x:α) (k:Nat),A.length+B.length<=1048576->A.length<k->ae step k (A.reverse++x::B,i,(A.length:Int))=r (dB H x A B,wr .i64 (i+1)):=by
 intro A;induction A with
 |nil =>
  intro B x k J z;obtain⟨k,rfl⟩:∃ u,k=u+1:=⟨k-1,by simp at z;omega⟩;exact X (ae step k) (x::B)
 |cons y A O =>
  intro B x k J z;simp only[BG]at z J;obtain⟨k,rfl⟩:∃ u,k=u+1:=⟨k-1,by omega⟩;have M:=h (ae step k) A.reverse y x B (by simp;omega);simp only[Ca]at M;show step (ae step k) _=_;rw[CL,CD];simp only[BG,DA,BO,dB];rw[M];cases H x y with
  |true=>exact O (y::B) x k (by simp;omega) (by omega)
  |false=>simp
theorem ud {α:Type}(r:α->α->Bool){step:(List α×Int->Option (SoR α))->List α×Int->Option (SoR α)}(n:Nat)(O:n<=1048576)
  (h:∀ (rec:List α×Int->Option (SoR α)) (done:List α) (x:α) (xs:List α),done.length+1+xs.length=n->step rec (done++x::xs,(done.length:Int))=rec (dB r x done.reverse xs,wr .i64 ((done.length:Int)+1)))
  (M:∀ (rec:List α×Int->Option (SoR α)) (z:List α) (i:Int),(n:Int)<=i->step rec (z,i)=some ((),(z,()))) :
  ∀ (xs done:List α) (k:Nat),done.length+xs.length=n->xs.length<k->ae step k (done++xs,(done.length:Int))=some ((),(cW r done xs,())):=by
 intro xs;induction xs with
 |nil =>
  intro done k u I;obtain⟨k,rfl⟩:∃ y,k=y+1:=⟨k-1,by omega⟩;show step (ae step k) _=_;rw[M _ _ _ (by simp at u;omega)];simp[cW]
 |cons x xs J =>
  intro done k u I;simp only[BG]at I u;obtain⟨k,rfl⟩:∃ y,k=y+1:=⟨k-1,by omega⟩;show step (ae step k) _=_;rw[h _ _ _ _ (by omega),ar _ (by omega)];have e:dB r x done.reverse xs=dB r x done.reverse []++xs:=oP r x done.reverse [] xs;have H:(dB r x done.reverse []).length=done.length+1:=by rw[oQ];simp
  rw[e,<- H];exact J _ k (by rw[H];omega) (by omega)
theorem yu {α:Type}(u:α->α->Bool){step:(List α×Int->Option (SoR α))->List α×Int->Option (SoR α)}(xs:List α)(I:xs.length<=1048576)
  (h:∀ (rec:List α×Int->Option (SoR α)) (done:List α) (x:α) (r:List α),done.length+1+r.length=xs.length->step rec (done++x::r,(done.length:Int))=rec (dB u x done.reverse r,wr .i64 ((done.length:Int)+1)))
  (H:∀ (rec:List α×Int->Option (SoR α)) (z:List α) (i:Int),(xs.length:Int)<=i->step rec (z,i)=some ((),(z,()))) {k:Nat} (y:xs.length<k) :
  ae step k (xs,1)=some ((),(cW u [] xs,())):=by
 cases xs with
 |nil =>
  obtain⟨k,rfl⟩:∃ J,k=J+1:=⟨k-1,by simp at y;omega⟩;exact H (ae step k) [] 1 (by simp)
 |cons x xs =>
  simp only[BG]at y;have:=ud u (xs.length+1) (by simpa using I) h H xs [x] k (by simp;omega) (by omega);exact this
theorem uJ {α:Type}(A B:List α)(x:α):idx (A++x::B) (A.length:Int)=some x:=by
 rw[qm];simp
theorem sR {α:Type}(A B:List α)(y x:α):idx (A++y::x::B) ((A.length+1:Nat):Int)=some x:=by
 rw[qm];simp[List.getElem?_append_right]
theorem uK {α:Type}(A B:List α)(x v:α):(A++x::B).set A.length v=A++v::B:=by simp
theorem sS {α:Type}(A B:List α)(y x v:α):(A++y::x::B).set (A.length+1) v=A++y::v::B:=by
 simp[Cy]
theorem ue {α R:Type}(P:α->Prop)(M:α->α->Bool)(i:Int)(r:List α×Int->Option R){step:(List α×Int×Int->Option R)->List α×Int×Int->Option R}
  (h:∀ (rec:List α×Int×Int->Option R) (A:List α) (y x:α) (B:List α),P y->P x->A.length+B.length<=1048576->step rec (A++y::x::B,i,((A.length+1:Nat):Int))=bif M x y then rec (A++x::y::B,i,(A.length:Int)) else r (A++y::x::B,wr .i64 (i+1)))
  (h0:∀ (rec:List α×Int×Int->Option R) (O:List α),step rec (O,i,0)=r (O,wr .i64 (i+1))) :
  ∀ (A B:List α) (x:α) (k:Nat),(∀ y∈A,P y)->P x->A.length+B.length<=1048576->A.length<k->ae step k (A.reverse++x::B,i,(A.length:Int))=r (dB M x A B,wr .i64 (i+1)):=by
 intro A;induction A with
 |nil =>
  intro B x k J u X I;obtain⟨k,rfl⟩:∃ H,k=H+1:=⟨k-1,by simp at I;omega⟩;exact h0 (ae step k) (x::B)
 |cons y A Z =>
  intro B x k J u X I;simp only[BG]at I X;obtain⟨k,rfl⟩:∃ H,k=H+1:=⟨k-1,by omega⟩;have Y:=h (ae step k) A.reverse y x B (J y (by simp)) u (by simp;omega);simp only[Ca]at Y;show step (ae step k) _=_;rw[CL,CD];simp only[BG,DA,BO,dB];rw[Y];cases M x y with
  |true=>exact Z (y::B) x k (λz hz=>J z (by simp[hz])) u (by simp;omega) (by omega)
  |false=>simp
theorem sU {α:Type}(P:α->Prop)(r:α->α->Bool){step:(List α×Int->Option (SoR α))->List α×Int->Option (SoR α)}(n:Nat)(hn:n<=1048576)
  (h:∀ (rec:List α×Int->Option (SoR α)) (done:List α) (x:α) (xs:List α),(∀ y∈done,P y)->P x->done.length+1+xs.length=n->step rec (done++x::xs,(done.length:Int))=rec (dB r x done.reverse xs,wr .i64 ((done.length:Int)+1)))
  (h0:∀ (rec:List α×Int->Option (SoR α)) (R:List α) (i:Int),(n:Int)<=i->step rec (R,i)=some ((),(R,()))) :
  ∀ (xs done:List α) (k:Nat),(∀ y∈done,P y)->(∀ y∈xs,P y)->done.length+xs.length=n->xs.length<k->ae step k (done++xs,(done.length:Int))=some ((),(cW r done xs,())):=by
 intro xs;induction xs with
 |nil =>
  intro done k O u I Y;obtain⟨k,rfl⟩:∃ M,k=M+1:=⟨k-1,by omega⟩;show step (ae step k) _=_;rw[h0 _ _ _ (by simp at I;omega)];simp[cW]
 |cons x xs Z =>
  intro done k O u I Y;simp only[BG]at Y I;obtain⟨k,rfl⟩:∃ M,k=M+1:=⟨k-1,by omega⟩;show step (ae step k) _=_;rw[h _ _ _ _ O (u x (by simp)) (by omega),ar _ (by omega)];have e:dB r x done.reverse xs=dB r x done.reverse []++xs:=oP r x done.reverse [] xs;have X:(dB r x done.reverse []).length=done.length+1:=by rw[oQ];simp
  rw[e,<- X];refine Z _ k (λz J=>?_) (λz J=>u z (by simp[J])) (by rw[X];omega) (by omega);have H:=(mO r x done.reverse []).mem_iff.1 J;simp only[Bx,BN,CE]at H;rcases H with rfl|H
  ·exact u z (by simp)
  ·exact O z H
theorem wX {α:Type}(P:α->Prop)(z:α->α->Bool){step:(List α×Int->Option (SoR α))->List α×Int->Option (SoR α)}(xs:List α)(J:∀ y∈xs,P y)(R:xs.length<=1048576)
  (h:∀ (rec:List α×Int->Option (SoR α)) (done:List α) (x:α) (r:List α),(∀ y∈done,P y)->P x->done.length+1+r.length=xs.length->step rec (done++x::r,(done.length:Int))=rec (dB z x done.reverse r,wr .i64 ((done.length:Int)+1)))
  (I:∀ (rec:List α×Int->Option (SoR α)) (H:List α) (i:Int),(xs.length:Int)<=i->step rec (H,i)=some ((),(H,()))) {k:Nat} (M:xs.length<k) :
  ae step k (xs,1)=some ((),(cW z [] xs,())):=by
 cases xs with
 |nil =>
  obtain⟨k,rfl⟩:∃ O,k=O+1:=⟨k-1,by simp at M;omega⟩;exact I (ae step k) [] 1 (by simp)
 |cons x xs =>
  simp only[BG]at M;have:=sU P z (xs.length+1) (by simpa using R) h I xs [x] k (λy u=>J y (by simpa using .inl (by simpa using u))) (λy u=>J y (by simp[u])) (by simp;omega) (by omega);exact this
def ltZ (a b:Int):Bool:=decide (a<b)
theorem AJ (K:Nat)(a b:Int):Q61.f K (a,b,())=some ((ltZ a b,()),()):=by
 simp only[Q61.f,Q18.f,ltZ];simp
theorem yw (K:Nat)(xs:List Int)(H:Int×Int×Unit->Option Int)(I:Int->Int->Bool)(P:Int->Prop)(hP:∀ y∈xs,P y)(hφ:∀ y z,P y->P z->∃ c,H (y,z,())=some c/\decide (c<0)=I y z)(Z:xs.length<=1048576)(hK:1048577<K) :
  Q73.f K (xs,0,(xs.length:Int),H,())=some ((),(cW I [] xs,())):=by
 refine wX P (step:=λrec a=>Q73.s0 K (xs,0,(xs.length:Int),H,()) (Q73.l1 K (xs,0,(xs.length:Int),H,()) rec) rec a) I xs hP Z ?_ ?_ (by omega)
 ·intro rec done x r M O hl;simp only[Q73.s0];rw[decide_eq_true (by omega:((done.length:Int))<(xs.length:Int))];simp only[cond_true];have:=ue P I (done.length:Int) rec (step:=λu a=>Q73.s1 K (xs,0,(xs.length:Int),H,()) rec u a) ?_ ?_ done.reverse r x K (λy J=>M y (by simpa using J)) O (by simp;omega) (by simp;omega)
  ·rw[Bx,Ca]at this;exact this
  ·intro u A y z B J Y a0;simp only[Q73.s1];have e1:wr .i64 (((A.length+1:Nat):Int)-1)=(A.length:Int):=(aC (by omega) (by omega)).trans (by omega);rw[decide_eq_true (by omega:((A.length+1:Nat):Int)>0)];obtain⟨c,R,M⟩:=hφ z y Y J;simp only[cond_true,e1,BE,sR,uJ,BA,R,M,sS,uK]
  ·intro u X;simp only[Q73.s1];rw[decide_eq_false (by omega:¬ (0:Int)>0)];rfl
 ·intro rec X i hi;simp only[Q73.s0];rw[decide_eq_false (by omega:¬ i<(xs.length:Int))];rfl
theorem yx (K:Nat)(xs:List Int)(u:Int×Int×Unit->Option Int)(H:Int->Int->Bool)(P:Int->Prop)(O:∀ y∈xs,P y)(hφ:∀ y z,P y->P z->∃ c,u (y,z,())=some c/\decide (c<0)=H y z)(R:xs.length<=19)(I:1048577<K) :
  Q75.f K (xs,u,())=some ((),(cW H [] xs,())):=by
 simp only[Q75.f];have:Q74.f K (xs,(xs.length:Int),u,())=some ((),(cW H [] xs,())):=by
  obtain⟨k,rfl⟩:∃ J,K=J+1:=⟨K-1,by omega⟩;show Q74.s0 _ _ _ _ _=_;simp only[Q74.s0];rw[decide_eq_false (by omega:¬ (20:Int)<=(xs.length:Int))];simp only[cond_false];rw[yw (k+1) xs u H P O hφ (by omega) I];simp only[BA];have M:∀ (r:Q74.A1->Option Q74.Res),Q74.s1 (k+1) (xs,(xs.length:Int),u,()) (Q74.l2 (k+1) (xs,(xs.length:Int),u,()) r) r (cW H [] xs,20)=some ((),(cW H [] xs,())):=by
   intro r;simp only[Q74.s1];rw[decide_eq_false (by omega:¬ (20:Int)<(xs.length:Int))];rfl
  exact M _
 rw[this];rfl
theorem yy (K:Nat)(xs:List Int)(I:xs.length<=1048576)(O:1048577<K) :
  Q77.f K (xs,0,(xs.length:Int),())=some ((),(cW ltZ [] xs,())):=by
 refine yu (step:=λrec a=>Q77.s0 K (xs,0,(xs.length:Int),()) (Q77.l1 K (xs,0,(xs.length:Int),()) rec) rec a) ltZ xs I ?_ ?_ (by omega)
 ·intro rec done x r X;simp only[Q77.s0];rw[decide_eq_true (by omega:((done.length:Int))<(xs.length:Int))];simp only[cond_true];have:=vz ltZ (done.length:Int) rec (step:=λu a=>Q77.s1 K (xs,0,(xs.length:Int),()) rec u a) ?_ ?_ done.reverse r x K (by simp;omega) (by simp;omega)
  ·rw[Bx,Ca]at this;exact this
  ·intro u A y z B M;simp only[Q77.s1];have J:wr .i64 (((A.length+1:Nat):Int)-1)=(A.length:Int):=(aC (by omega) (by omega)).trans (by omega);rw[decide_eq_true (by omega:((A.length+1:Nat):Int)>0)];simp only[cond_true,J,BE,sR,uJ,BA,sS,uK];rw[show Q61.f K (z,y,())=_ from AJ K z y];rfl
  ·intro u H;simp only[Q77.s1];rw[decide_eq_false (by omega:¬ (0:Int)>0)];rfl
 ·intro rec H i R;simp only[Q77.s0];rw[decide_eq_false (by omega:¬ i<(xs.length:Int))];rfl
theorem yz (K:Nat)(xs:List Int)(y:xs.length<=12)(r:1048577<K) :
  Q85.f K (xs,())=some ((),(cW ltZ [] xs,())):=by
 simp only[Q85.f,Q84.f];obtain⟨l,u⟩:∃ l:Int,Q83.f K (wr .u64 (xs.length:Int),())=some ((l,()),()):=by
  have e:wr .u64 (xs.length:Int)=(xs.length:Int):=by
   show IntKind.u64.wrap _=_;have I:IntKind.u64.wrap (xs.length:Int)=(xs.length:Int) % 18446744073709551616:=by simp[IntKind.wrap,IntKind.bits,IntKind.signed]
   rw[I];omega
  rw[e];generalize J:xs.length=n at y;have:n=0\/n=1\/n=2\/n=3\/n=4\/n=5\/n=6\/n=7\/n=8\/n=9\/n=10\/n=11\/n=12:=by omega
  rcases this with rfl|rfl|rfl|rfl|rfl|rfl|rfl|rfl|rfl|rfl|rfl|rfl|rfl
  ·exact⟨0,by kernel_rfl⟩
  ·exact⟨1,by kernel_rfl⟩
  ·exact⟨2,by kernel_rfl⟩
  ·exact⟨2,by kernel_rfl⟩
  ·exact⟨3,by kernel_rfl⟩
  ·exact⟨3,by kernel_rfl⟩
  ·exact⟨3,by kernel_rfl⟩
  ·exact⟨3,by kernel_rfl⟩
  ·exact⟨4,by kernel_rfl⟩
  ·exact⟨4,by kernel_rfl⟩
  ·exact⟨4,by kernel_rfl⟩
  ·exact⟨4,by kernel_rfl⟩
  ·exact⟨4,by kernel_rfl⟩
 rw[u];simp only[BA];have:Q82.f K (xs,0,(xs.length:Int),l,())=some ((),(cW ltZ [] xs,())):=by
  obtain⟨k,rfl⟩:∃ z,K=z+1:=⟨K-1,by omega⟩;have H:∀ (rec:Q82.A0->Option Q82.Res) (a:Q82.A0),Q82.s0 (k+1) (xs,0,(xs.length:Int),l,()) rec a=some ((),(cW ltZ [] xs,())):=by
   intro rec a;simp only[Q82.s0];have e:wr .i64 ((xs.length:Int)-0)=(xs.length:Int):=(aC (by omega) (by omega)).trans (by omega);rw[e,decide_eq_true (by omega:(xs.length:Int)<=12)];simp only[cond_true];rw[yy (k+1) xs (by omega) r];rfl
  exact H (λ_=>none) ()
 rw[this];rfl
def d6 (l:List aL)(i:Int):Int:=((l[i.toNat]?).map (·.2)).getD 0
def ltL (l:List aL)(a b:Int):Bool:=decide (d6 l b<d6 l a)
def lt2 (l:List aL)(a b:Int):Prop:=d6 l b<d6 l a\/(d6 l a=d6 l b/\a<b)
def cB (n:Nat):List Int:=(List.range n).map λ (i:Nat)=>(i:Int)
def bA (l:List aL):List Int:=cW (ltL l) [] (cB l.length)
theorem il {n:Nat}{i:Int}:i∈cB n<->0<=i/\i<n:=by
 unfold cB;rw[BY];constructor
 ·rintro⟨j,hj,rfl⟩;have:=DJ.1 hj;omega
 ·rintro⟨h0,h1⟩;exact⟨i.toNat,DJ.2 (by omega),by omega⟩
theorem jc (n:Nat):(cB n).Pairwise (·<·):=by
 unfold cB;rw[Bz];exact List.pairwise_lt_range.imp λh=>by omega
theorem dN {l:List aL}{i:Nat}(h:i<l.length):d6 l (i:Int)=l[i].2:=by
 unfold d6;rw[BE,BK h];rfl
theorem sW (l:List aL):∀ (xs done:List Int),done.Pairwise (lt2 l)->(∀ a∈done,∀ b∈xs,a<b)->xs.Pairwise (·<·)->(cW (ltL l) done xs).Pairwise (lt2 l)
 |[],done,h,_,_=>h
 |x::xs,done,h,H,M=>by
  have y:=BQ.1 M;have J:jE (ltL l) done:=h.imp λ {a b} O=>by
   unfold ltL;rw[decide_eq_false_iff_not];rcases O with z|⟨z,_⟩ <;> omega
  have e:=kU (ltL l) (λa b c z I=>by
   unfold ltL at z I ⊢;rw[decide_eq_false_iff_not]at z I ⊢;omega) x done.reverse [] (by rw[Bx];exact J)
  rw[Bx,BN]at e;simp only[cW];rw[e];refine sW l xs _ ?_ ?_ y.2
  ·rw[CJ,BQ];refine⟨h.filter _,⟨λb u=>?_,h.filter _⟩,λa r b u=>?_⟩
   ·have z:ltL l x b=true:=by simpa using (BH.1 u).2
    exact .inl (by simpa[ltL]using z)
   ·have z:ltL l x a=false:=by simpa using (BH.1 r).2
    have Y:¬ d6 l a<d6 l x:=by simpa[ltL]using z
    have R:=H a (BH.1 r).1 x (by simp);rcases CE.1 u with rfl|u
    ·by_cases I:d6 l b<d6 l a
     ·exact .inl I
     ·exact .inr ⟨by omega,R⟩
    ·have I:ltL l x b=true:=by simpa using (BH.1 u).2
     have X:d6 l b<d6 l x:=by simpa[ltL]using I
     exact .inl (by omega)
  ·intro a r b u;rcases B7.1 r with r|r
   ·exact H a (BH.1 r).1 b (by simp[u])
   ·rcases CE.1 r with rfl|r
    ·exact y.1 b u
    ·exact H a (BH.1 r).1 b (by simp[u])
theorem pG (l:List aL):(bA l).Pairwise (lt2 l):=sW l _ [] List.Pairwise.nil (by simp) (jc _)
theorem ma (l:List aL):(bA l).Perm (cB l.length):=by
 unfold bA;simpa using l9 (ltL l) (cB l.length) []
theorem iF {l:List aL}{i:Int}:i∈bA l<->0<=i/\i<l.length:=by rw[(ma l).mem_iff,il]
theorem wY (l:List aL):(bA l).length=l.length:=by rw[(ma l).length_eq];simp[cB]
theorem uf (l:List aL):(bA l).Nodup:=(ma l).nodup_iff.2 ((jc _).imp λh=>by omega)
def dq (T:List Int)(n:Nat):List Bool:=(cB n).map λi=>decide (i∈T)
theorem eW (T:List Int)(n:Nat):(dq T n).length=n:=by simp[dq,cB]
theorem iG (T:List Int){n i:Nat}(h:i<n):(dq T n)[i]'(by rw[eW];exact h)=decide ((i:Int)∈T):=by
 simp[dq,cB]
theorem wZ {T:List Int}{n b:Nat}(y:b<n):(dq T n).set b true=dq (T++[(b:Int)]) n:=by
 refine CX (by rw[Cx,eW,eW]) λi u r=>?_
 rw[eW]at r;rw[DB,iG _ r];by_cases h:b=i
 ·subst h;rw[if_pos rfl,iG _ r];simp
 ·rw[if_neg h,iG _ r];have:¬ (i:Int)=(b:Int):=by omega
  simp[this]
def pH (l:List aL)(T:List Int)(i:Nat)(r:Int):Prop :=
 (r=-1/\∀ j:Nat,j<i->(j:Int)∈T)\/(0<=r/\r<i/\r∉T/\∀ j:Nat,j<i->(j:Int)∉T->(j:Int)≠r->lt2 l r (j:Int))
theorem zP (K:Nat)(l:List aL)(T:List Int)(hl:l.length<=1048576):∀ (d i k:Nat) (r:Int),i+d=l.length->d<k->pH l T i r ->
  ∃ b:Int,ae (λrec a=>Q145.s0 K (l,dq T l.length,()) rec a) k (r,(i:Int))=some ((b,()),())/\pH l T l.length b:=by
 intro d;induction d with
 |zero =>
  intro i k r hi hk Y;obtain⟨k,rfl⟩:∃ k',k=k'+1:=⟨k-1,by omega⟩;have:i=l.length:=by omega
  subst this;refine⟨r,?_,Y⟩;show Q145.s0 K (l,dq T l.length,()) _ _=_;simp only[Q145.s0,aU];rfl
 |succ d ih =>
  intro i k r hi hk Y;obtain⟨k,rfl⟩:∃ k',k=k'+1:=⟨k-1,by omega⟩;have z:i<l.length:=by omega
  have H:∀ r,pH l T (i+1) r->∃ b:Int,ae (λrec a=>Q145.s0 K (l,dq T l.length,()) rec a) k (r,((i+1:Nat):Int))=some ((b,()),())/\pH l T l.length b:=λr h=>ih (i+1) k r (by omega) (by omega) h
  show ∃ b:Int,Q145.s0 K (l,dq T l.length,()) (ae (λrec a=>Q145.s0 K (l,dq T l.length,()) rec a) k) (r,(i:Int))=_/\_;generalize ae (λrec a=>Q145.s0 K (l,dq T l.length,()) rec a) k=REC at H ⊢;simp only[Q145.s0];rw[bD (by omega:(i:Int)<(BB l:Int)),ag (show i<(dq T l.length).length by rw[eW];exact z),iG T z,ar i (by omega)];simp only[cond_true,BA];by_cases O:(i:Int)∈T
  ·rw[decide_eq_true O];simp only[BI,cond_false];refine H r ?_;rcases Y with ⟨rfl,h⟩|⟨h0,h1,h2,X⟩
   ·refine .inl ⟨rfl,λj Z=>?_⟩;by_cases y:j=i
    ·subst y;exact O
    ·exact h j (by omega)
   ·refine .inr ⟨h0,by omega,h2,λj Z u J=>?_⟩;by_cases y:j=i
    ·subst y;exact absurd O u
    ·exact X j (by omega) u J
  ·rw[decide_eq_false O];simp only[Bw,cond_true];rcases Y with ⟨rfl,h⟩|⟨h0,h1,h2,X⟩
   ·rw[show decide ((-1:Int)<0)=true from rfl];refine H (i:Int) (.inr ⟨by omega,by omega,O,λj Z u J=>?_⟩);exact absurd (h j (by omega)) u
   ·rw[decide_eq_false (by omega:¬ r<0)];obtain⟨b,rfl⟩:=BF h0;have I:b<l.length:=by omega
    simp only[cond_false];rw[ag z,ag I];simp only[BA];by_cases M:l[i].2>l[b].2
    ·rw[decide_eq_true M];refine H (i:Int) (.inr ⟨by omega,by omega,O,λj Z u J=>?_⟩);have y:j<i:=by omega
     have a1:j<l.length:=by omega
     by_cases R:(j:Int)=(b:Int)
     ·rw[R];exact .inl (by rw[dN z,dN I];exact M)
     ·have:=X j y u R;rcases this with h4|⟨h4,_⟩
      ·exact .inl (by rw[dN I]at h4;rw[dN z];omega)
      ·exact .inl (by rw[dN I]at h4;rw[dN z];omega)
    ·rw[decide_eq_false M];refine H (b:Int) (.inr ⟨by omega,by omega,h2,λj Z u J=>?_⟩);by_cases y:j=i
     ·subst y;by_cases a0:d6 l (b:Int)=d6 l (j:Int)
      ·exact .inr ⟨a0,h1⟩
      ·refine .inl ?_;rw[dN z,dN I]at *;omega
     ·exact X j (by omega) u J
theorem AK (K:Nat)(l:List aL)(n:Nat)(hl:l.length<=1048576)(hK:1048577<K):Q145.f K (l,dq ((bA l).take n) l.length,())=some ((((bA l)[n]?).getD (-1),()),()):=by
  obtain⟨b,e,Z⟩:=zP K l ((bA l).take n) hl l.length 0 K (-1) (by omega) (by omega) (.inl ⟨rfl,λj z=>by omega⟩);have:b=((bA l)[n]?).getD (-1):=by
    by_cases H:n<(bA l).length
    · rw[BK H]
      show b=(bA l)[n];have hm:(bA l)[n]∉(bA l).take n:=λh=>by
        obtain⟨j,z,e⟩:=BJ h;rw[BW]at z;rw[Cb]at e;have:=CI.1 (pG l) j n (by omega) H (by omega);rw[e]at this;rcases this with u|⟨_,u⟩ <;> omega
      have hr:=iF.1 (BC H);obtain⟨m,r⟩:=BF hr.1;rcases Z with ⟨rfl,h⟩|⟨R,X,y,h3⟩
      · have:=h m (by omega)
        rw[<- r]at this;exact absurd this hm
      · by_cases Y:b=(bA l)[n]
        · exact Y
        · exfalso
          have I:=h3 m (by omega) (by rw[<- r];exact hm) (by rw[<- r];exact λh=>Y h.symm);rw[<- r]at I;have J:b∈bA l:=iF.2 ⟨R,X⟩;obtain⟨j,z,O⟩:=BJ J;have M:n<j:=by
            rcases Cn j n with h|h|h
            · exact absurd (List.mem_take_iff_getElem.2 ⟨j,by omega,O⟩) y
            · subst h;exact absurd O.symm Y
            · exact h
          have u:=CI.1 (pG l) n j H z M;rw[O]at u;rcases I with I|⟨I,h6⟩ <;> rcases u with u|⟨u,h7⟩ <;> omega
    · rw[CQ (by omega)]
      show b=-1;rcases Z with ⟨rfl,_⟩|⟨R,X,y,_⟩
      · rfl
      · exfalso
        rw[B5 (by omega)]at y;exact y (iF.2 ⟨R,X⟩)
  rw[<- this];exact e
def bY (l:List aL):List Int:=(bA l).take 3
def gu (l:List aL)(i:Int):aL:=(l[i.toNat]?).getD ((0,0,0,false),0)
def dO (l:List aL)(T:List Int)(i:Int):aL:=bif decide (i∈T) then ((gu l i).1,(gu l i).2-1) else gu l i
def eh (l:List aL)(T:List Int)(n:Nat):List af:=((cB n).filter λi=>decide (i∈T)).map λi=>(gu l i).1
def fU (l:List aL)(T:List Int)(n:Nat):List aL:=(cB n).map (dO l T)
def dD (l:List aL)(T:List Int)(n:Nat):List aL:=(fU l T n).filter λx=>decide (x.2>0)
theorem cA {l:List aL}{i:Nat}(h:i<l.length):gu l (i:Int)=l[i]:=by
 unfold gu;rw[BE,BK h];rfl
theorem mQ (n:Nat):cB (n+1)=cB n++[(n:Int)]:=by
 unfold cB;rw[List.range_succ,Ck];rfl
theorem vA (l:List aL)(T:List Int)(n:Nat):eh l T (n+1)=eh l T n++(bif decide ((n:Int)∈T) then [(gu l (n:Int)).1] else []):=by
 unfold eh;rw[mQ,B9,Ck,BV];cases decide ((n:Int)∈T) <;> rfl
theorem vB (l:List aL)(T:List Int)(n:Nat):dD l T (n+1)=dD l T n++(bif decide ((dO l T (n:Int)).2>0) then [dO l T (n:Int)] else []):=by
 unfold dD fU;rw[mQ,Ck,B9,Cp,BV];cases decide ((dO l T (n:Int)).2>0) <;> rfl
theorem w8 (l:List aL)(T:List Int)(n:Nat):(eh l T n).length<=n:=by
 unfold eh;rw[BU];refine By (CH _ _) ?_;simp[cB]
theorem xa (l:List aL)(T:List Int)(n:Nat):(dD l T n).length<=n:=by
 unfold dD;refine By (CH _ _) ?_;simp[fU,cB]
theorem zQ (K:Nat)(l:List aL)(m:Int)(T:List Int)(M:l.length<=1048576)(H:cU l)(I:1048577<K) :
  Q146.l1 K (l,m,()) (dq T l.length,[],[],0)=some ((eh l T l.length,dD l T l.length,()),()):=by
 refine nI (step:=λrec a=>Q146.s1 K (l,m,()) rec a) l.length (λi=>(dq T l.length,eh l T i,dD l T i,(i:Int))) (some ((eh l T l.length,dD l T l.length,()),())) ?_ ?_ (by omega)
 ·intro rec i r;simp only[Q146.s1];have u:i<(dq T l.length).length:=by rw[eW];exact r
  have O:=w8 l T i;have J:=xa l T i;obtain⟨R,X⟩:=(H.1 l[i] (BC r)).2;rw[bD (by omega:(i:Int)<(BB l:Int)),ag r,ag u,ar i (by omega),BE,ag u,iG T r,vA,vB,cA r];simp only[cond_true,BA];cases z:decide ((i:Int)∈T) with
  |true =>
   have y:dO l T (i:Int)=(l[i].1,l[i].2-1):=by unfold dO;rw[z,cA r];rfl
   rw[y];simp only[cond_true];rw[szb _ _ _ (by omega) (by simp;omega),aC (n:=l[i].2-1) (by omega) (by omega)];simp only[cond_true];cases decide (l[i].2-1>0) with
   |true =>
    simp only[cond_true];rw[szb _ _ _ (by omega) (by simp;omega)];rfl
   |false =>
    simp only[cond_false,BN]
  |false =>
   have y:dO l T (i:Int)=l[i]:=by unfold dO;rw[z,cA r];rfl
   rw[y];simp only[cond_false,BN];cases decide (l[i].2>0) with
   |true =>
    simp only[cond_true];rw[szb _ _ _ (by omega) (by simp;omega)];rfl
   |false =>
    simp only[cond_false,BN]
 ·intro rec;simp only[Q146.s1,aU];rfl
theorem AL (K:Nat)(l:List aL)(O:l.length<=1048576)(hC:cU l)(J:1048577<K):Q146.f K (l,3,())=some ((eh l (bY l) l.length,dD l (bY l) l.length,()),()):=by
 have u:∀ T,Q146.l1 K (l,3,()) (dq T l.length,[],[],0)=some ((eh l T l.length,dD l T l.length,()),()):=λT=>zQ K l 3 T O hC J
 have Z:∀ (d n k:Nat),n+d=3->d<k->ae (λrec a=>Q146.s0 K (l,3,()) (Q146.l1 K (l,3,())) rec a) k (dq ((bA l).take n) l.length,(n:Int))=some ((eh l (bY l) l.length,dD l (bY l) l.length,()),()):=by
  intro d;induction d with
  |zero =>
   intro n k hn hk;obtain⟨k,rfl⟩:∃ I,k=I+1:=⟨k-1,by omega⟩;have:n=3:=by omega
   subst this;exact u _
  |succ d Y =>
   intro n k hn hk;obtain⟨k,rfl⟩:∃ I,k=I+1:=⟨k-1,by omega⟩;have y:=Y (n+1) k (by omega) (by omega);show Q146.s0 K (l,3,()) (Q146.l1 K (l,3,())) (ae (λrec a=>Q146.s0 K (l,3,()) (Q146.l1 K (l,3,())) rec a) k) (dq ((bA l).take n) l.length,(n:Int))=_;generalize ae (λrec a=>Q146.s0 K (l,3,()) (Q146.l1 K (l,3,())) rec a) k=REC at y ⊢;simp only[Q146.s0];rw[decide_eq_true (by omega:(n:Int)<3),AK K l n O J,ar n (by omega)];simp only[cond_true,BA];by_cases r:n<(bA l).length
   ·rw[BK r];have R:=iF.1 (BC r);have H:(bA l).take (n+1)=(bA l).take n++[(bA l)[n]]:=CK r;rw[H]at y;simp only[DC];generalize (bA l)[n]=v at R y ⊢;obtain⟨b,rfl⟩:=BF R.1;have X:b<l.length:=by omega
    have z:b<(dq ((bA l).take n) l.length).length:=by rw[eW];exact X
    rw[decide_eq_false (by omega:¬ (b:Int)<0),ag z,BE,ag z,wZ X];exact y
   ·rw[CQ (by omega)];show Q146.l1 K (l,3,()) (dq ((bA l).take n) l.length,[],[],0)=_;rw[u,show (bA l).take n=bY l by unfold bY;rw[B5 (by omega),B5 (by omega)]]
 simp only[Q146.f,Q146.pre];rw[decide_eq_true (by omega:(0:Int)<=(BB l:Int)),show decide ((BB l:Int)*(1:Nat)<=am)=true from decide_eq_true (by simp only[am];omega),BE];simp only[decide_true,CP,cond_true];have h0:CV l.length false=dq ((bA l).take 0) l.length:=by
  refine CX (by rw[Ch,eW]) λi h1 M=>?_
  rw[eW]at M;rw[List.getElem_replicate,iG _ M];simp
 have:=Z 3 0 K (by omega) (by omega);rw[<- h0]at this;exact this
theorem rT {a b:List Int}(r:a.Nodup)(u:b.Nodup)(h:∀ x,x∈a<->x∈b):a.Perm b:=by
 rw[List.perm_iff_count];intro x;rw[r.count,u.count];simp[h]
def c5 (l:List aL):List Int:=(cB l.length).filter λi=>decide (i∈bY l)
theorem ug (l:List aL):cW ltZ [] (bY l)=c5 l:=by
 have r:(bY l).Nodup:=(uf l).sublist (List.take_sublist _ _);have u:((cB l.length).filter λi=>decide (i∈bY l)).Nodup:=((jc l.length).imp (λh=>by omega:∀ {a b:Int},a<b->a≠b)).filter _;refine n9 ltZ ?_ (mP ltZ (λa b c r u=>by
  unfold ltZ at r u ⊢;rw[decide_eq_false_iff_not]at r u ⊢;omega) (λa b h=>by
  unfold ltZ at h ⊢;rw[decide_eq_true_eq]at h;rw[decide_eq_false_iff_not];omega) (bY l) [] List.Pairwise.nil) ?_
 ·refine (by simpa using l9 ltZ (bY l) []:(cW ltZ [] (bY l)).Perm (bY l)).trans (rT r u λx=>?_);rw[c5,BH,decide_eq_true_eq,il];exact⟨λh=>⟨iF.1 (C0 h),h⟩,λh=>h.2⟩
 ·exact ((jc l.length).filter _).imp λh=>by unfold ltZ;exact decide_eq_true h
theorem xb {l:List aL}{i:Int}:i∈c5 l<->i∈bY l:=by
 unfold c5;rw[BH,decide_eq_true_eq,il];exact⟨λh=>h.2,λh=>⟨iF.1 (C0 h),h⟩⟩
theorem xc (l:List aL):(c5 l).Pairwise (·<·):=(jc l.length).filter _
theorem eC (l:List aL)(T:List Int)(n:Nat):(fU l T n).length=n:=by simp[fU,cB]
theorem e9 (l:List aL)(T:List Int){n i:Nat}(h:i<n):(fU l T n)[i]'(by rw[eC];exact h)=dO l T (i:Int):=by
 simp[fU,cB]
theorem yA (l:List aL):fU l [] l.length=l:=by
 refine CX (eC _ _ _) λi u r=>?_
 rw[e9 l [] r];unfold dO;rw[cA r];simp
theorem yB {l:List aL}{T:List Int}{b:Nat}(y:b<l.length):(fU l T l.length).set b ((gu l (b:Int)).1,(gu l (b:Int)).2-1)=fU l (T++[(b:Int)]) l.length:=by
 refine CX (by rw[Cx,eC,eC]) λi u r=>?_
 rw[eC]at r;rw[DB,e9 _ _ r];by_cases h:b=i
 ·subst h;rw[if_pos rfl,e9 _ _ r];unfold dO;rw[decide_eq_true (by simp:(b:Int)∈T++[(b:Int)])];rfl
 ·rw[if_neg h,e9 _ _ r];unfold dO;have:((i:Int)∈T++[(b:Int)])<->(i:Int)∈T:=by
   rw[B7,B3];exact⟨λu=>u.resolve_right (by omega),.inl⟩
  rw[show decide ((i:Int)∈T++[(b:Int)])=decide ((i:Int)∈T) by rw[decide_eq_decide];exact this]
theorem vC {l:List aL}{T T':List Int}(h:∀ i,i∈T<->i∈T')(n:Nat):fU l T n=fU l T' n:=by
 unfold fU;refine List.map_congr_left λi _=>?_
 unfold dO;rw[show decide (i∈T)=decide (i∈T') by rw[decide_eq_decide];exact h i]
theorem uh (K:Nat)(x:ab Q87.ps)(l:List aL)(Z:l.length<=1048576)(Y:cU l)(hK:1048577<K) :
  Q87.l1 K x (l,c5 l,[],(BB (c5 l):Int),0)=some ((eh l (bY l) l.length,dD l (bY l) l.length,()),()):=by
 have a0:(c5 l).length<=l.length:=by
  refine By (CH _ _) ?_;simp[cB]
 refine Cr ?_ (nI (step:=λrec a=>Q87.s1 K x rec a) (c5 l).length (λi=>(fU l ((c5 l).take i) l.length,c5 l,((c5 l).take i).map (λj=>(gu l j).1),(BB (c5 l):Int),(i:Int))) (some ((eh l (bY l) l.length,dD l (bY l) l.length,()),())) ?_ ?_ (by omega:(c5 l).length<K))
 ·simp only[List.take_zero,DL,yA];rfl
 ·intro rec i r;simp only[Q87.s1];have X:=il.1 ((BH.1 (BC r)).1);have u:(c5 l)[i]∉(c5 l).take i:=λh=>by
   obtain⟨j,hj,e⟩:=BJ h;rw[BW]at hj;rw[Cb]at e;have:=CI.1 (xc l) j i (by omega) r (by omega);omega
  have M:(c5 l).take (i+1)=(c5 l).take i++[(c5 l)[i]]:=CK r;rw[M,Ck];have H:(((c5 l).take i).map (λj=>(gu l j).1)).length<=1048576:=by rw[BU,BW];omega
  rw[bD (by omega:(i:Int)<(BB (c5 l):Int)),ag r,ar i (by omega),BE,ag r];simp only[cond_true,BA];generalize (c5 l)[i]=v at X u ⊢;obtain⟨b,rfl⟩:=BF X.1;have z:b<l.length:=by omega
  have I:b<(fU l ((c5 l).take i) l.length).length:=by rw[eC];exact z
  have hd:dO l ((c5 l).take i) (b:Int)=l[b]:=by
   unfold dO;rw[decide_eq_false u,cA z];rfl
  obtain⟨c0,c1⟩:=(Y.1 l[b] (BC z)).2;rw[ag I,BE,ag I,e9 l _ z,hd];simp only[BA];rw[szb _ _ _ (by omega) (by simp only[BU,BG,BM]at H ⊢;omega),aC (n:=l[b].2-1) (by omega) (by omega),<- yB z,cA z];simp only[cond_true,Cp,DL,cA z]
 ·intro rec;simp only[Q87.s1,aU,cond_false,CN,Q9.f];have e:∀ J:List aL,J.length<=1048576->gI t3 J (λO=>(Q86.f K (O.1,())).map λy=>y.1.1)=some ((J.filter (λx=>!(x.2==0)),()),()):=λJ R=>qX (e:=t3) (λx=>x.2==0) R (λx _=>rfl)
  rw[e _ (by rw[eC];exact Z)];simp only[BA];rw[vC (l:=l) (T:=c5 l) (T':=bY l) (λi=>xb) l.length];have ef:(fU l (bY l) l.length).filter (λx=>!(x.2==0))=dD l (bY l) l.length:=by
   unfold dD;refine Co λx hx=>?_
   have h0:0<=x.2:=by
    obtain⟨i,r,rfl⟩:=BJ hx;rw[eC]at r;rw[e9 l _ r];obtain⟨c0,c1⟩:=(Y.1 l[i] (BC r)).2;unfold dO;rw[cA r];cases decide ((i:Int)∈bY l) with
    |true=>show 0<=l[i].2-1;omega
    |false=>show 0<=l[i].2;omega
   rw[CO];simp;omega
  rw[ef];rfl
theorem vD (K:Nat)(l:List aL)(hl:l.length<=8)(I:cU l)(H:1048577<K):Q87.f K (l,3,())=some ((eh l (bY l) l.length,dD l (bY l) l.length,()),()):=by
 simp only[Q87.f,Q87.pre];obtain⟨b1,e1,e2⟩:=oM K l (by omega) H;have O:=e2.2 I;subst O;rw[e1];simp only[BA,BI,cond_false];rw[decide_eq_true (by omega:(0:Int)<=(BB l:Int)),show decide ((BB l:Int)*(8:Nat)<=am)=true from decide_eq_true (by simp only[am];omega),BE];simp only[decide_true,CP,cond_true];have J:(cB l.length).length=l.length:=by simp[cB]
 have hS:∀ i,i<=l.length->(cB i++CV (l.length-i) (0:Int)).length=l.length:=λi Z=>by simp[cB];omega
 refine Cr ?_ (nI (step:=λrec a=>Q87.s0 K (l,3,()) (Q87.l1 K (l,3,())) rec a) l.length (λi=>(cB i++CV (l.length-i) (0:Int),(i:Int))) (some ((eh l (bY l) l.length,dD l (bY l) l.length,()),())) ?_ ?_ (by omega:l.length<K))
 ·rfl
 ·intro rec i Z;simp only[Q87.s0];have u:i<(cB i++CV (l.length-i) (0:Int)).length:=by rw[hS i (by omega)];exact Z
  rw[decide_eq_true (by rw[Ch];show (i:Int)<((BD (BB l:Int):Nat):Int);omega),ag u,ar i (by omega),BE,ag u];simp only[cond_true,BA];have e:(cB i++CV (l.length-i) (0:Int)).set i (i:Int)=cB (i+1)++CV (l.length-(i+1)) (0:Int):=by
   obtain⟨m,hm⟩:∃ m,l.length-i=m+1:=⟨l.length-i-1,by omega⟩;have Y:(cB i).length=i:=by simp[cB]
   rw[hm,show l.length-(i+1)=m by omega,mQ,Cy _ _ (by omega),Y,Nat.sub_self,List.replicate_succ,List.set_cons_zero,CD];rfl
  rw[e]
 ·intro rec;simp only[Q87.s0];rw[decide_eq_false (by rw[Ch];show ¬ (BB l:Int)<((BD (BB l:Int):Nat):Int);omega),Nat.sub_self,List.replicate_zero,BN];simp only[cond_false,Q2.f];have r:=yx K (cB l.length) (λy4=>(Q76.f K (y4.1,y4.2.1,l,())).map λy=>y.1.1) (ltL l) (λi=>0<=i/\i<l.length) (λy X=>il.1 X) (λy z X hz=>by
   obtain⟨a,rfl⟩:=BF X.1;obtain⟨b,rfl⟩:=BF hz.1;have M:a<l.length:=by omega
   have R:b<l.length:=by omega
   obtain⟨c0,c1⟩:=(I.1 l[a] (BC M)).2;obtain⟨c2,c3⟩:=(I.1 l[b] (BC R)).2;refine⟨l[b].2-l[a].2,?_,?_⟩
   ·simp only[Q76.f];rw[ag M,ag R];simp only[BA];rw[aC (n:=l[b].2-l[a].2) (by omega) (by omega)];rfl
   ·unfold ltL;rw[dN M,dN R,decide_eq_decide];omega) (by rw[J];omega) H
  rw[r];simp only[BA];rw[dZ (by omega)];simp only[BA];rw[show Q72.f K (cW (ltL l) [] (cB l.length),3,())=some ((bY l,()),()) from zF K (bA l) 3 (by rw[wY];omega)];simp only[BA];rw[yz K (bY l) (By (CZ _ _) (by omega)) H,ug];simp only[BA];exact uh K (l,3,()) l (by omega) I H
theorem AM {a b:Int}(u:0<=a)(z:a<4611686018427387904)(y:0<=b)(r:b<4611686018427387904):0<=qk .i64 a b:=by
 obtain⟨m,rfl⟩:=BF u;obtain⟨n,rfl⟩:=BF y;have h:(BitVec.ofInt 64 (m:Int) ^^^ BitVec.ofInt 64 (n:Int)).toNat=m ^^^ n:=by
  rw[BitVec.toNat_xor,BitVec.toNat_ofInt,BitVec.toNat_ofInt];congr 1
  ·omega
  ·omega
 have H:m ^^^ n<2 ^ 62:=Nat.xor_lt_two_pow (by omega) (by omega);show 0<=IntKind.i64.wrap (((BitVec.ofInt 64 (m:Int) ^^^ BitVec.ofInt 64 (n:Int)).toNat:Nat):Int);rw[h,DD];omega
structure fH (b:List Int):Prop where
 byte:∀ y∈b,0<=y/\y<=255
 len:b.length<=2000
theorem zR (K:Nat)(b:List Int)(q:Nat)(n:Int)(h:fH b)(hq:q<=100000)(hn:1<=n):∃ v:Int,Q114.f K ((b,(q:Int)),n,())=some ((v,()),((b,((q+1:Nat):Int)),()))/\0<=v/\v<n:=by
 have w1:wr .i64 ((q:Int)+1)=((q+1:Nat):Int):=ar q (by omega);have w2:wr .i64 (((q+1:Nat):Int)-1)=(q:Int):=by rw[aC (n:=((q+1:Nat):Int)-1) (by omega) (by omega)];omega
 have hl:=h.len;have I:decide (n=0)=false:=decide_eq_false (by omega);have r:∀ x:Int,0<=x->0<=CW x n/\CW x n<n:=λx u=>⟨DH _ u,C6 _ (by omega)⟩
 simp only[Q114.f];rw[decide_eq_false (by omega:¬ n<1)];simp only[cond_false,w1,w2,I];by_cases O:b.length=0
 ·rw[show ((b.length:Int)==0)=true by simpa using O];exact⟨0,rfl,by omega,by omega⟩
 ·rw[show ((b.length:Int)==0)=false by simpa using O];simp only[cond_false];by_cases H:q<b.length
  ·rw[decide_eq_true (by omega:(q:Int)<(b.length:Int)),ag H];simp only[cond_true,BA];obtain⟨J,M⟩:=h.byte b[q] (BC H);rw[aC (n:=b[q]) (by omega) (by omega)];exact⟨_,rfl,r _ J⟩
  ·rw[decide_eq_false (by omega:¬ (q:Int)<(b.length:Int)),decide_eq_false (by omega:¬ (b.length:Int)=0)];simp only[cond_false];have t1:CW (q:Int) (b.length:Int)=((q % b.length:Nat):Int):=by rw[Cm (by omega)];rfl
   have t2:wr .i64 (wr .i64 ((q:Int)*7)+3)=((q*7+3:Nat):Int):=by rw[aC (n:=(q:Int)*7) (by omega) (by omega),aC (n:=(q:Int)*7+3) (by omega) (by omega)];omega
   have t3:CW (((q*7+3:Nat)):Int) (b.length:Int)=(((q*7+3) % b.length:Nat):Int):=by rw[Cm (by omega)];rfl
   have Y:q % b.length<b.length:=Nat.mod_lt _ (by omega);have R:(q*7+3) % b.length<b.length:=Nat.mod_lt _ (by omega);rw[t1,t2,t3,ag Y,ag R];simp only[BA];obtain⟨J,M⟩:=h.byte b[q % b.length] (BC Y);obtain⟨z0,z1⟩:=h.byte b[(q*7+3) % b.length] (BC R);generalize b[q % b.length]=y at J M ⊢;generalize b[(q*7+3) % b.length]=z at z0 z1 ⊢;have d1:0<=Cd (q:Int) (b.length:Int)/\Cd (q:Int) (b.length:Int)<=q:=⟨DI (by omega) (by omega),DE _ (by omega)⟩;generalize Cd (q:Int) (b.length:Int)=e at d1 ⊢;have x1:wr .i64 (wr .i64 (wr .i64 (wr .i64 (wr .i64 y*131)+wr .i64 (wr .i64 z*1117))+wr .i64 ((q:Int)*29))+wr .i64 (wr .i64 e*53))=y*131+z*1117+q*29+e*53:=by
    rw[aC (n:=y) (by omega) (by omega),aC (n:=z) (by omega) (by omega),aC (n:=e) (by omega) (by omega),aC (n:=y*131) (by omega) (by omega),aC (n:=z*1117) (by omega) (by omega),aC (n:=(q:Int)*29) (by omega) (by omega),aC (n:=e*53) (by omega) (by omega),
     aC (n:=y*131+z*1117) (by omega) (by omega),aC (n:=y*131+z*1117+(q:Int)*29) (by omega) (by omega),aC (n:=y*131+z*1117+(q:Int)*29+e*53) (by omega) (by omega)]
   rw[x1];have u:0<=y*131+z*1117+q*29+e*53/\y*131+z*1117+q*29+e*53<=10000000:=by omega
   generalize y*131+z*1117+(q:Int)*29+e*53=X at u ⊢;have Z:0<=Cd X 64/\Cd X 64<=X:=⟨DI u.1 (by omega),DE _ u.1⟩;rw[aC (n:=Cd X 64) (by omega) (by omega)];exact⟨_,rfl,r _ (AM u.1 (by omega) Z.1 (by omega))⟩
theorem vE (K:Nat)(t:List af)(f:af)(ht:t.length<=1048576)(R:Asc (λg:af=>g.1) t)(Y:1048577<K):Q116.f K (t,f,())=some (((bS t f).1,(bS t f).2,()),()):=by
 simp only[Q116.f,Q116.pre];obtain⟨o,H,M⟩:=fk K t f.1 ht Y;rw[M];simp only[BA];cases H with
 |at_ i r e =>
  simp only;rw[kh R r e,decide_eq_true (by omega:((i:Nat):Int)>=0),ag r];simp only[cond_true,BA,BE,ag r];rw[show Q105.f K (f,t[i],())=_ from pB K f t[i]];simp only[BA];by_cases H:bI f t[i]
  ·rw[decide_eq_true H,if_pos H];simp only[BI,cond_false];rw[szb _ _ _ (by omega) (by show (BB ([]:List af))+t.length<=_;simp;omega)];simp only[cond_true,BO,ag r,BA,BE];rw[ig (k:=λg:af=>g.1) R r e]
  ·rw[decide_eq_false H,if_neg H];rfl
 |no h =>
  simp only;rw[ii h,decide_eq_false (by omega:¬ (-1:Int)>=0)];simp only[cond_false];have J:∀ m:Nat,m<=t.length->(bif decide ((0:Int)<=0)&&decide ((0:Int)<=(m:Int))&&decide ((m:Int)<=(BB t:Int))&&true then (bif decide ((BB ([]:List af)+BB ((t.take (BD (m:Int))).drop (BD 0)))*32<=am) then (bif decide ((BB ([]++((t.take (BD (m:Int))).drop (BD 0)))+BB ([f]))*32<=am) then (bif decide ((0:Int)<=(m:Int))&&decide ((m:Int)<=(BB t:Int))&&decide ((BB t:Int)<=(BB t:Int))&&true then (bif decide ((BB (([]++((t.take (BD (m:Int))).drop (BD 0)))++([f]))+BB ((t.take (BD (BB t:Int))).drop (BD (m:Int))))*32<=am) then (some (((([]++((t.take (BD (m:Int))).drop (BD 0)))++([f]))++((t.take (BD (BB t:Int))).drop (BD (m:Int))),true,()),())) else none) else none) else none) else none) else (none:Option ((List af×Bool×Unit)×Unit)))=some ((t.take m++[f]++t.drop m,true,()),()):=by
   intro m X;rw[decide_eq_true (by omega:(0:Int)<=0),decide_eq_true (by omega:(0:Int)<=(m:Int)),decide_eq_true (by omega:(m:Int)<=(BB t:Int)),decide_eq_true (by omega:(BB t:Int)<=(BB t:Int))];simp only[BE,CT,BZ,BO,CN,CP,cond_true];have M:(t.take m).length=m:=by rw[BW];omega
   have z:(t.drop m).length=t.length-m:=B4;rw[szb _ _ _ (by omega) (by simp only[BM];omega),szb _ _ _ (by omega) (by simp only[BG,BM];omega),szb _ _ _ (by omega) (by simp only[BP,BG,BM];omega)];rfl
  have:=bX (step:=λrec a=>Q116.s0 K (t,f,()) rec a) t.length (λi=>(i:Int)) (λj=>∃ h:j<t.length,¬ t[j].1<f.1) (some ((t.take t.length++[f]++t.drop t.length,true,()),())) (λj=>some ((t.take j++[f]++t.drop j,true,()),())) ?_ ?_ t.length K 0 (by omega) (by omega)
  ·have I:∀ m,m<=t.length->(∀ i,(r:i<t.length)->i<m->t[i].1<f.1)->(∀ i,(r:i<t.length)->m<=i->f.1<t[i].1)->t.take m++[f]++t.drop m=bi (λg=>g.1) f t:=λm X lo r=>gq (k:=λg:af=>g.1) X lo r
   rcases this with ⟨M,z⟩|⟨j,_,M,⟨h3,h4⟩,Z,z⟩
   ·rw[I t.length (BR _) (λi r _=>by
     have:=M i (B8 _) r;exact CS.1 λh=>this ⟨r,h⟩) (λi r h=>by omega)]at z
    exact z
   ·rw[I j (by omega) (λi r y=>by
     have:=Z i (B8 _) y;exact CS.1 λh=>this ⟨r,h⟩) (λi r y=>by
     have a0:=h t[i] (BC r);rcases CA y with O|O
     ·have:=cE.1 R j i h3 r O;omega
     ·subst O;omega)]at z
    exact z
  ·intro rec i r;simp only[Q116.s0];rw[bD (by omega:(i:Int)<(BB t:Int)),ag r,ar i (by omega)];simp only[cond_true,BA];rw[show idx t ((BD (i:Int):Nat):Int)=some t[i] by rw[BE];exact ag r];simp only[BA];by_cases u:t[i].1<f.1
   ·exact .inl ⟨λ⟨_,h⟩=>h u,by rw[decide_eq_true u];rfl⟩
   ·exact .inr ⟨⟨r,u⟩,by rw[decide_eq_false u];exact J i (by omega)⟩
  ·intro rec;simp only[Q116.s0,aU,cond_false];exact J t.length (BR _)
def eX (t:List af)(fs:List af):List af:=fs.foldl (λt f=>(bS t f).1) t
theorem qY:∀ {fs t:List af},ax t->(∀ f∈fs,bq f)->ax (eX t fs)
 |[],_,h,_=>h
 |f::fs,t,h,r=>qY (fs:=fs) (ki h (r f (by simp))) (λg u=>r g (by simp[u]))
theorem bZ {t:List af}(h:ax t):t.length<=1048576:=By (iO h.2 (λg r=>(h.1 g r).1)) (by decide)
theorem oa {R:Type}(a fs:List af)(O:ax a)(X:∀ f∈fs,bq f)(r:List af->Option R){step:(List af×Int->Option R)->List af×Int->Option R}
  (h:∀ (rec:List af×Int->Option R) (t:List af) (i:Nat) (I:i<fs.length),ax t->step rec (t,(i:Int))=rec ((bS t fs[i]).1,((i+1:Nat):Int)))
  (y:∀ (rec:List af×Int->Option R) (t:List af),step rec (t,(fs.length:Int))=r t) {k:Nat} (H:fs.length<k):ae step k (a,0)=r (eX a fs):=by
 have:∀ (d i k:Nat) (t:List af),i+d=fs.length->d<k->ax t->ae step k (t,(i:Int))=r (eX t (fs.drop i)):=by
  intro d;induction d with
  |zero =>
   intro i k t I H _;obtain⟨k,rfl⟩:∃ z,k=z+1:=⟨k-1,by omega⟩;have:i=fs.length:=by omega
   subst this;show step (ae step k) _=_;rw[y,Ci];rfl
  |succ d M =>
   intro i k t I H J;obtain⟨k,rfl⟩:∃ z,k=z+1:=⟨k-1,by omega⟩;have u:i<fs.length:=by omega
   show step (ae step k) _=_;rw[h _ _ _ u J,BL u];exact M (i+1) k _ (by omega) (by omega) (ki J (X _ (BC u)))
 have:=this fs.length 0 k a (by omega) H O
 rwa [BZ]at this
theorem AN (K:Nat)(a b:List af)(r:ax a)(u:ax b)(y:1048577<K):Q54.f K (a,b,())=some ((eX a b,()),()):=by
 simp only[Q54.f,Q54.pre,Q0.f];obtain⟨Z,O,R⟩:=gm K a (bZ r) y;obtain⟨b2,J,H⟩:=gm K b (bZ u) y;have X:=R.2 r;have M:=H.2 u;subst X M;have Y:=bZ u;rw[O,J];simp only[BA,BI,cond_false];rw[dZ (by have:=bZ r;omega)];simp only[BA];refine oa a b r u.1 (step:=λrec x=>Q54.s0 K (a,b,()) rec x) (λt=>some ((t,()),())) ?_ ?_ (by omega)
 ·intro rec t i I z;simp only[Q54.s0];rw[bD (by omega:(i:Int)<(BB b:Int)),ag I,ar i (by omega)];simp only[cond_true,BA];rw[vt K t _ (bZ z) z.2 y];rfl
 ·intro rec t;simp only[Q54.s0,aU];rfl
theorem xd (f:af):¬ bI f f:=by
 unfold bI;simp
theorem oR {l:List aL}(O:cU l)(T:List Int):ax (eh l T l.length):=by
 unfold eh;constructor
 ·intro f Z;obtain⟨i,H,rfl⟩:=BY.1 Z;obtain⟨X,h1⟩:=il.1 (BH.1 H).1;obtain⟨b,rfl⟩:=BF X;have J:b<l.length:=by omega
  rw[cA J];exact (O.1 l[b] (BC J)).1
 ·unfold Asc;rw[Bz];have Y:((cB l.length).filter λi=>decide (i∈T)).Pairwise λ (a b:Int)=>(0<=a/\a<l.length)/\(0<=b/\b<l.length)/\a<b:=by
   refine CU _ ?_;have:∀ u:List Int,(∀ x∈u,0<=x/\x<l.length)->u.Pairwise (·<·)->u.Pairwise λ (a b:Int)=>(0<=a/\a<l.length)/\(0<=b/\b<l.length)/\a<b:=by
    intro u z r;induction u with
    |nil=>exact List.Pairwise.nil
    |cons x u R =>
     rw[BQ]at r ⊢;exact⟨λy I=>⟨z x (by simp),z y (by simp[I]),r.1 y I⟩,R (λy I=>z y (by simp[I])) r.2⟩
   exact this _ (λx z=>il.1 z) (jc _)
  refine Y.imp λ {a b} h=>?_
  obtain⟨⟨a0,a1⟩,⟨b0,b1⟩,a2⟩:=h;obtain⟨i,rfl⟩:=BF a0;obtain⟨j,rfl⟩:=BF b0;have H:i<l.length:=by omega
  have M:j<l.length:=by omega
  rw[cA H,cA M];exact cE.1 O.2 i j H M (by omega)
theorem yC {l:List aL}(J:cU l)(T:List Int):cU (dD l T l.length):=by
 have r:∀ i (h:i<l.length),(dO l T (i:Int)).1=l[i].1:=λi h=>by
  unfold dO;rw[cA h];cases decide ((i:Int)∈T) <;> rfl
 have I:∀ i (h:i<l.length),(dO l T (i:Int)).2<=l[i].2:=λi h=>by
  unfold dO;rw[cA h];cases decide ((i:Int)∈T) with
  |true=>show l[i].2-1<=l[i].2;omega
  |false=>exact CF _
 unfold dD;constructor
 ·intro x O;obtain⟨M,z⟩:=BH.1 O;have z:x.2>0:=by simpa using z
  obtain⟨i,u,rfl⟩:=BJ M;rw[eC]at u;rw[e9 l T u]at z ⊢;have:=(J.1 l[i] (BC u));refine⟨by rw[r i u];exact this.1,?_,?_⟩
  ·omega
  ·have R:=I i u;have X:=this.2.2;omega
 ·unfold Asc;refine CU _ ?_;rw[CI];intro i j u y H;rw[eC]at u y;show (fU l T l.length)[i].1.1<(fU l T l.length)[j].1.1;rw[e9 l T u,e9 l T y,r i u,r j y];exact cE.1 J.2 i j u y H
def gX (n:aa)(to:Int):List af :=
 bif (aP (aa.table n) to).2.2.1==2 then (bS (eh (aa.cast n) (bY (aa.cast n)) (aa.cast n).length) (aP (aa.table n) to)).1 else eh (aa.cast n) (bY (aa.cast n)) (aa.cast n).length
def iQ (n:aa):aa:=fG n (aa.table n) (dD (aa.cast n) (bY (aa.cast n)) (aa.cast n).length) (aa.doubts n)
theorem nM {n:aa}(h:cz n)(to:Int):ax (gX n to):=by
 have r:=oR h.cast (bY (aa.cast n));unfold gX;cases u:(aP (aa.table n) to).2.2.1==2 with
 |false=>exact r
 |true =>
  refine ki r (ek h.table ?_).1;by_cases y:∃ f∈aa.table n,f.1=to
  ·exact y
  ·rw[jx (λg z e=>y ⟨g,z,e⟩)]at u;simp at u
theorem clen {n:aa}(h:cz n):(aa.cast n).length<=8:=iO h.cast.2 (λx r=>(h.cast.1 x r).1.1)
theorem uL (K:Nat)(n:aa)(to:Int)(h:cz n)(r:1048577<K):Q199.f K (n,to,())=some ((gX n to,iQ n,()),()):=by
 have M:=clen h;simp only[Q199.f,zcp8];rw[show Q146.f K (n.2.2.2.2.2.2.2.2.2.1,3,())=_ from AL K (aa.cast n) (by omega) h.cast r];simp only[BA];obtain⟨o,I,J⟩:=fk K (aa.table n) to h.lt r;rw[show Q102.f K (n.2.2.2.2.2.2.2.2.1,to,())=_ from J];simp only[BA,gX];have z:=oR h.cast (bY (aa.cast n));cases I with
 |no u =>
  rw[jx u];rfl
 |at_ j H e =>
  have y:aP (aa.table n) to=(aa.table n)[j]:=by rw[<- e];exact jv h.table.2 (BC H)
  rw[y];simp only;rw[decide_eq_true (by omega:((j:Nat):Int)>=0),show idx n.2.2.2.2.2.2.2.2.1 ((j:Nat):Int)=some (aa.table n)[j] from ag H];simp only[cond_true,BA];cases (aa.table n)[j].2.2.1==2 with
  |false=>rfl
  |true =>
   simp only[cond_true];rw[vE K _ _ (bZ z) z.2 r];rfl
theorem vF (K:Nat)(n:aa)(to:Int)(h:cz n)(r:1048577<K):Q88.f K (n,to,())=some ((gX n to,()),(iQ n,())):=by
 simp only[Q88.f,zcp8];rw[show Q87.f K (n.2.2.2.2.2.2.2.2.2.1,3,())=_ from vD K (aa.cast n) (clen h) h.cast r];simp only[BA];obtain⟨b,y⟩:=mM K (aa.table n) to h.table h.lt r;rw[show Q22.f K (n.2.2.2.2.2.2.2.2.1,to,())=_ from y];simp only[BA,gX];have u:=oR h.cast (bY (aa.cast n));cases (aP (aa.table n) to).2.2.1==2 with
 |false=>rfl
 |true =>
  simp only[cond_true];rw[vt K _ _ (bZ u) u.2 r];rfl
def cK (n:aa)(k:Nat):Int:=CW (n.2.2.2.2.2.2.2.1+(k:Int)) 8
def hH (n:aa)(k:Nat):Prop:=cK n k≠n.1/\eA (aP (aa.table n) (cK n k))=true
def askN (n:aa)(to:Int):aa :=
 let m:=iQ n
 (m.1,m.2.1,m.2.2.1,m.2.2.2.1,m.2.2.2.2.1,m.2.2.2.2.2.1,m.2.2.2.2.2.2.1+1,to+1,m.2.2.2.2.2.2.2.2.1,m.2.2.2.2.2.2.2.2.2.1,(to,m.2.2.2.2.2.1,m.2.2.2.2.2.2.1+1,false),m.2.2.2.2.2.2.2.2.2.2.2)
def pingW (n:aa)(to:Int):ao:=(1,1,n.1,to,n.2.2.2.2.2.2.1+1,n.1,aa.coord n,gX n to)
theorem zS (K:Nat)(n:aa)(h:cz n)(Y:0<=n.2.2.2.2.2.2.2.1)(a0:n.2.2.2.2.2.2.2.1<=8)(O:1048577<K) :
  ∃ to:Int,Q200.f K (n,())=some ((to,()),())/\((to=-1/\∀ k,k<8->¬ hH n k)\/∃ k,k<8/\hH n k/\(∀ j,j<k->¬ hH n j)/\to=cK n k):=by
 have u:∀ k:Nat,k<8->wr .i64 (n.2.2.2.2.2.2.2.1+(k:Int))=n.2.2.2.2.2.2.2.1+(k:Int):=λk M=>aC (by omega) (by omega)
 have:=bX (step:=λrec a=>Q200.s0 K (n,()) rec a) 8 (λi=>(i:Int)) (hH n) (some ((-1,()),())) (λj=>some ((cK n j,()),())) ?_ ?_ 8 K 0 (by omega) (by omega)
 ·rcases this with ⟨J,H⟩|⟨j,_,J,X,h4,H⟩
  ·exact⟨-1,H,.inl ⟨rfl,λk M=>J k (B8 _) M⟩⟩
  ·exact⟨_,H,.inr ⟨j,J,X,λm Z=>h4 m (B8 _) Z,rfl⟩⟩
 ·intro rec i R;simp only[Q200.s0];rw[decide_eq_true (by omega:(i:Int)<=7),u i R,ar i (by omega)];simp only[cond_true];show (¬ hH n i/\(bif cK n i != n.1 then ((Q196.f K (aa.table n,cK n i,())).bind λy=>bif y.1.1 then (some ((cK n i,()),())) else (rec ((i+1:Nat):Int))) else (rec ((i+1:Nat):Int)))=rec ((i+1:Nat):Int))\/(hH n i/\(bif cK n i != n.1 then ((Q196.f K (aa.table n,cK n i,())).bind λy=>bif y.1.1 then (some ((cK n i,()),())) else (rec ((i+1:Nat):Int))) else (rec ((i+1:Nat):Int)))=some ((cK n i,()),()));rw[sO K (aa.table n) (cK n i) h.table h.lt O];by_cases r:cK n i=n.1
  ·exact .inl ⟨λz=>z.1 r,by rw[show (cK n i != n.1)=false by simpa using r];rfl⟩
  ·rw[show (cK n i != n.1)=true by simpa using r];cases I:eA (aP (aa.table n) (cK n i)) with
   |true=>exact .inr ⟨⟨r,I⟩,rfl⟩
   |false=>exact .inl ⟨λz=>(by rw[z.2]at I;cases I),rfl⟩
 ·intro rec;simp only[Q200.s0];rfl
abbrev ly:=Int×ByteArray×Bool
abbrev b7:=List aa×List ly×List Int×List af
abbrev b7.radio (w:b7):List ly:=w.2.1
abbrev b7.sides (w:b7):List Int:=w.2.2.1
abbrev b7.born (w:b7):List af:=w.2.2.2
theorem gv {n:Int}(h:InP n 0 7):ak n=n / 4:=by
 obtain⟨r,u⟩:=h;unfold ak;rw[B6 r,aC (by omega) (by omega)]
theorem zT {α:Type}{k:α->Int}{xs:List α}(h:Asc k xs):∀ i (r:i<xs.length),k (xs[0]'(by omega))+i<=k xs[i]:=by
 rw[gK]at h;intro i;induction i with
 |zero=>intro r;simp
 |succ i u =>
  intro r;have z:=u (by omega);have y:=h (i+1) r (by omega);simp only[Nat.add_sub_cancel]at y;omega
theorem ui {t:List af}{s:Int}(u:ax t)(y:bP t s):t.length<=4:=by
 cases h:t.length with
 |zero=>omega
 |succ m =>
  have r:m<t.length:=by omega
  have z:0<t.length:=by omega
  have O:=zT u.2 m r;have M:=y _ (BC r);have H:=y _ (BC z);have I:=(u.1 _ (BC r)).1;have J:=(u.1 _ (BC z)).1;rw[gv I]at M;rw[gv J]at H;omega
theorem sX {u:Int}{l:List b8}(z:InP u 0 7)(h:da u l):l=[]\/∃ x,l=[x]:=by
 match l,h with
 |[],_=>exact .inl rfl
 |[x],_=>exact .inr ⟨x,rfl⟩
 |x::y::r,h =>
  exfalso;have J:=h.1 x (by simp);have H:=h.1 y (by simp);have Y:x.1<y.1:=by
   have:=h.2;unfold Asc at this;rw[BQ]at this;exact this.1 y (by simp)
  have e:=gv z;obtain⟨⟨a1,O⟩,I,_⟩:=J;obtain⟨⟨Z,b2⟩,M,_⟩:=H;obtain⟨R,X⟩:=z;rw[e]at I M;omega
theorem lz {a:Int}{m:Nat}(u:m<4611686018427387904):0<=bC .i64 a (m:Int)/\bC .i64 a (m:Int)<=m:=by
 have h:(BitVec.ofInt 64 a &&& BitVec.ofInt 64 (m:Int)).toNat<=m:=by
  rw[BitVec.toNat_and];refine By Nat.and_le_right ?_;rw[BitVec.toNat_ofInt];omega
 show 0<=IntKind.i64.wrap (((BitVec.ofInt 64 a &&& BitVec.ofInt 64 (m:Int)).toNat:Nat):Int)/\IntKind.i64.wrap (((BitVec.ofInt 64 a &&& BitVec.ofInt 64 (m:Int)).toNat:Nat):Int)<=m;generalize (BitVec.ofInt 64 a &&& BitVec.ofInt 64 (m:Int)).toNat=r at h ⊢;rw[DD];omega
def gM (g:List Int)(d:Int):Int:=g.getD (BD (CW (bC .i64 d 255) (g.length:Int))) 0
theorem im {g:List Int}{d:Int}(h:g≠[]):idx g (CW (bC .i64 d 255) (g.length:Int))=some (gM g d)/\idx g ((BD (CW (bC .i64 d 255) (g.length:Int)):Nat):Int)=some (gM g d)/\gM g d∈g:=by
 have I:0<g.length:=Cl.2 h;have H:=(lz (a:=d) (m:=255) (by omega)).1;have u:0<=CW (bC .i64 d 255) (g.length:Int):=DH _ H;have z:CW (bC .i64 d 255) (g.length:Int)<g.length:=C6 _ (by omega);unfold gM;obtain⟨v,y⟩:=BF u;rw[y]at z ⊢;have r:v<g.length:=by omega
 rw[BE,ag r,List.getD_eq_getElem?_getD,BK r];exact⟨rfl,rfl,BC r⟩
def mb (n:aa)(r d:Int):Int :=
 bif decide (fF (eG (aa.others n) r)≠[])&&bC .i64 d 4==0 then gM (fF (eG (aa.others n) r)) (CC d (2 ^ 3)) else r*4+bC .i64 (CC d (2 ^ 3)) 3
structure nN (n:aa):Prop where
 short:(aa.others n).length<=1
 table:∀ x∈aa.others n,ax x.2/\x.2.length<=1048576
theorem AO {r d:Int}(H:0<=r)(z:r<=1):wr .i64 (wr .i64 (r*4)+bC .i64 (CC d (2 ^ 3)) 3)=r*4+bC .i64 (CC d (2 ^ 3)) 3:=by
 obtain⟨y,u⟩:=lz (a:=CC d (2 ^ 3)) (m:=3) (by omega);have y:0<=bC .i64 (CC d (2 ^ 3)) 3:=y;have u:bC .i64 (CC d (2 ^ 3)) 3<=3:=u;rw[aC (n:=r*4) (by omega) (by omega),aC (by omega) (by omega)]
theorem far_s (K:Nat)(n:aa)(r d:Int)(h:nN n)(R:0<=r)(X:r<=1)(J:1048577<K):Q205.f K (n,r,d,())=some ((mb n r d,()),()):=by
 obtain⟨k,rfl⟩:∃ k,K=k+2:=⟨K-2,by omega⟩;show Q205.s0 (k+2) (n,r,d,()) (ae (λrec a=>Q205.s0 (k+2) (n,r,d,()) rec a) (k+1)) 0=_;have y:∀ (rec:Int->Option ((Int×Unit)×Unit)) (a:Int),¬ a<(aa.others n).length->Q205.s0 (k+2) (n,r,d,()) rec a=some ((r*4+bC .i64 (CC d (2 ^ 3)) 3,()),()):=by
  intro rec a O;simp only[Q205.s0];rw[show decide (a<(BB n.2.2.2.2.2.2.2.2.2.2.2.2.2.2:Int))=false from decide_eq_false O,AO R X];rfl
 match z:aa.others n with
 |[] =>
  rw[y _ _ (by rw[z];simp),mb,z];rfl
 |[x] =>
  have M:=h.table x (by rw[z];simp);have u:ae (λrec a=>Q205.s0 (k+2) (n,r,d,()) rec a) (k+1) 1=some ((r*4+bC .i64 (CC d (2 ^ 3)) 3,()),()):=y _ _ (by rw[z];simp);generalize ae (λrec a=>Q205.s0 (k+2) (n,r,d,()) rec a) (k+1)=rec at u ⊢;simp only[Q205.s0];rw[show decide ((0:Int)<(BB n.2.2.2.2.2.2.2.2.2.2.2.2.2.2:Int))=true from decide_eq_true (by show (0:Int)<((aa.others n).length:Int);rw[z];simp),show idx n.2.2.2.2.2.2.2.2.2.2.2.2.2.2 (0:Int)=some x by show idx (aa.others n) (0:Int)=some x;rw[z];rfl,show wr .i64 ((0:Int)+1)=1 from rfl];simp only[cond_true,BA,u];rw[mb,z];cases I:x.1==r with
  |false =>
   simp only[cond_false,eG,Cv,I,List.find?_nil];rfl
  |true =>
   simp only[cond_true,eG,Cv,I,DF,DC];rw[uE (k+2) x.2 M.2 J];simp only[BA];by_cases H:fF x.2=[]
   ·rw[H];rfl
   ·have Y:0<(fF x.2).length:=Cl.2 H;rw[decide_eq_true H,decide_eq_true (by omega:((fF x.2).length:Int)>0)];simp only[cond_true,CB];cases bC .i64 d 4==0 with
    |false=>rfl
    |true =>
     simp only[cond_true];rw[decide_eq_false (by omega:¬ ((fF x.2).length:Int)=0),(im H).1,(im H).2.1];rfl
 |_::_::_=>exact absurd h.short (by rw[z];simp)
def lA (n:aa):Bool:=decide (n.1∈fF (aa.table n))
theorem yD (K:Nat)(n:aa)(M:(aa.table n).length<=1048576)(z:1048577<K):Q204.f K (n,())=rb (lA n):=by
 simp only[Q204.f,Q204.pre];rw[show Q203.f K (n.2.2.2.2.2.2.2.2.1,2,())=_ from uE K (aa.table n) M z];simp only[BA];have H:=wR (aa.table n);unfold lA;generalize fF (aa.table n)=g at H ⊢;have:=bX (step:=λrec a=>Q204.s0 K (n,()) rec a) g.length (λi=>(g,(i:Int))) (λj=>∃ h:j<g.length,g[j]=n.1) (rb false) (λ_=>rb true) ?_ ?_ g.length K 0 (by omega) (by omega)
 ·rcases this with ⟨y,u⟩|⟨j,_,y,⟨I,R⟩,_,u⟩
  ·rw[decide_eq_false (λO=>by
    obtain⟨i,r,e⟩:=BJ O;exact y i (B8 _) r ⟨r,e⟩)]
   exact u
  ·rw[decide_eq_true (R ▸ BC I:n.1∈g)];exact u
 ·intro rec i r;simp only[Q204.s0];rw[bD (by omega:(i:Int)<(BB g:Int)),ag r,ar i (by omega),BE,ag r];simp only[cond_true,BA];by_cases h:g[i]=n.1
  ·exact .inr ⟨⟨r,h⟩,by rw[show (g[i]==n.1)=true by simpa using h];rfl⟩
  ·exact .inl ⟨λ⟨_,J⟩=>h J,by rw[show (g[i]==n.1)=false by simpa using h];rfl⟩
 ·intro rec;simp only[Q204.s0,aU];rfl
def wanW (n:aa)(d r:Int):ao:=(2,(nK 6 n (mb n r d)).2)
def mc (n:aa)(d:Int):List ao:=bif lA n then (([0,1]:List Int).filter (λs=>s != ak n.1)).map (wanW n d) else []
theorem wan_s (K:Nat)(n:aa)(d:Int)(h:nN n)(y:(aa.table n).length<=1048576)(u:1048577<K):Q206.f K (n,d,())=some ((mc n d,()),()):=by
 simp only[Q206.f,Q206.pre];rw[yD K n y u];simp only[BA,mc];cases lA n with
 |false=>rfl
 |true =>
  simp only[BI,cond_false,cond_true];refine qq (step:=λrec a=>Q206.s0 K (n,d,()) rec a) ([0,1]:List Int) (λs=>s != ak n.1) (wanW n d) (λr i=>(r,(i:Int))) (λI=>some ((I,()),())) ?_ ?_ (by simp;omega)
  ·intro rec r i z H;have J:i<2:=z;have M:([0,1]:List Int)[i]=(i:Int):=by
    have:i=0\/i=1:=by omega
    rcases this with rfl|rfl <;> rfl
   simp only[Q206.s0,M];rw[decide_eq_true (by omega:(i:Int)<=1),ar i (by omega),ez K n.1];simp only[cond_true,BA];cases (i:Int) != ak n.1 with
   |false=>rfl
   |true =>
    simp only[cond_true];rw[far_s K n (i:Int) d h (by omega) (by omega) u];simp only[BA];refine (congrArg (λo=>BS o _) (nL K n 6 (mb n (i:Int) d) y)).trans ?_;simp only[BA];rw[szw _ _ _ (by omega) (by simp;omega)];rfl
  ·intro rec r H;simp only[Q206.s0];rfl
def sY (n:aa)(f:af):Bool:=f.2.2.1 != 4&&f.1 != n.1
def fp (n:aa):List Int:=((aa.table n).filter (sY n)).map (·.1)
def sZ (n:aa)(to:Int):List ao:=match aa.others n with
 |[]=>[]
 |x::_=>[(1,6,n.1,to,0,n.1,aa.coord n,x.2)]
def j0 (n:aa)(r:Int):List ao :=
 bif bC .i64 r 3==1 then mc n (CC r (2 ^ 2)) else
 bif bC .i64 r 3==3||decide (fp n=[]) then [] else
 bif bC .i64 r 3==0 then [nK 4 n (gM (fp n) (CC r (2 ^ 2)))] else sZ n (gM (fp n) (CC r (2 ^ 2)))
theorem and3 (a:Int):bC .i64 a 3=0\/bC .i64 a 3=1\/bC .i64 a 3=2\/bC .i64 a 3=3:=by
 obtain⟨u,r⟩:=lz (a:=a) (m:=3) (by omega);have u:0<=bC .i64 a 3:=u;have r:bC .i64 a 3<=3:=r;omega
theorem xe {n:aa}(r:ax (aa.table n)){v:Int}(u:v∈fp n):0<=v:=by
 obtain⟨f,y,rfl⟩:=BY.1 u;exact (r.1 f (BH.1 y).1).1.1
theorem AP (K:Nat)(n:aa)(d:Int)(I:(aa.table n).length<=1048576)(H:1048577<K):Q202.f K (n,d,())=some ((bif decide (fp n=[]) then -1 else gM (fp n) d,()),()):=by
 refine (vr (step:=λrec a=>Q202.s0 K (n,d,()) rec a) (aa.table n) (sY n) (λf=>f.1) (λy=>some ((bif decide (y=[]) then -1 else gM y d,()),())) ?_ ?_ (by omega)).trans rfl
 ·intro rec r i z J;simp only[Q202.s0];rw[show decide ((i:Int)<(BB n.2.2.2.2.2.2.2.2.1:Int))=true from bD (by omega:(i:Int)<(BB (aa.table n):Int)),show idx n.2.2.2.2.2.2.2.2.1 (i:Int)=some (aa.table n)[i] from ag z,ar i (by omega)];simp only[cond_true,BA,sY];rw[szb _ _ _ (by omega) (by simp;omega)];cases (aa.table n)[i].1 != n.1 <;> cases (aa.table n)[i].2.2.1 != 4 <;> rfl
 ·intro rec r _;simp only[Q202.s0];rw[show decide ((BB (aa.table n):Int)<(BB n.2.2.2.2.2.2.2.2.1:Int))=false from aU _];simp only[cond_false];by_cases u:r=[]
  ·subst u;rfl
  ·have M:0<r.length:=Cl.2 u;rw[show ((r.length:Int)==0)=false by simp;exact u,decide_eq_false (by omega:¬ (r.length:Int)=0),decide_eq_false u,(im u).1,(im u).2.1];rfl
theorem AQ (K:Nat)(n:aa)(r:Int)(h:nN n)(J:ax (aa.table n))(z:(aa.table n).length<=1048576)(I:1048577<K):Q207.f K (n,r,())=some ((j0 n r,()),()):=by
 simp only[Q207.f];rw[AP K n _ z I];simp only[BA];rw[wan_s K n _ h z I];simp only[BA,j0];by_cases u:fp n=[]
 ·rw[decide_eq_true u];simp only[cond_true,DK,show decide ((-1:Int)>=0)=false from rfl,cond_false];rcases and3 r with e|e|e|e <;> rw[e] <;> rfl
 ·have O:=xe J (im (d:=CC r (2 ^ 2)) u).2.2;rw[decide_eq_false u];simp only[cond_false,Bool.or_false];rw[decide_eq_true (by omega:gM (fp n) (CC r (2 ^ 2))>=0)];simp only[cond_true];rw[show Q143.f K (n,4,gM (fp n) (CC r (2 ^ 2)),0,n.1,n.2.2.2.2.2.2.2.2.1,())=_ from nL K n 4 _ z];simp only[BA];rcases and3 r with e|e|e|e
  ·rw[e];rfl
  ·rw[e];rfl
  ·rw[e];simp only[show ((2:Int)==0)=false from rfl,show ((2:Int)==1)=false from rfl,show ((2:Int)==2)=true from rfl,show ((2:Int)==3)=false from rfl,cond_false,cond_true];unfold sZ
   match y:aa.others n with
   |[] =>
    rw[show decide ((BB n.2.2.2.2.2.2.2.2.2.2.2.2.2.2:Int)>0)=false by show decide (((aa.others n).length:Int)>0)=false;rw[y];rfl];rfl
   |[x] =>
    have M:=h.table x (by rw[y];simp);have H:(aa.others n).length=1:=by rw[y];rfl
    rw[show decide ((BB n.2.2.2.2.2.2.2.2.2.2.2.2.2.2:Int)>0)=true by show decide (((aa.others n).length:Int)>0)=true;rw[H];rfl,show decide ((BB n.2.2.2.2.2.2.2.2.2.2.2.2.2.2:Int)=0)=false by show decide (((aa.others n).length:Int)=0)=false;rw[H];rfl];simp only[cond_true,cond_false];rw[show idx n.2.2.2.2.2.2.2.2.2.2.2.2.2.2 (CW (bC .i64 (CC r (2 ^ 10)) 255) (BB n.2.2.2.2.2.2.2.2.2.2.2.2.2.2:Int))=some x by
     show idx (aa.others n) (CW (bC .i64 (CC r (2 ^ 10)) 255) ((aa.others n).length:Int))=some x;rw[H,y,show ((1:Nat):Int)=1 from rfl,Int.tmod_one];rfl]
    simp only[BA,Q143.f];rw[szb _ _ _ (by omega) (by have:=M.2;simp;omega)];rfl
   |_::_::_=>exact absurd h.short (by rw[y];simp)
  ·rw[e];rfl
def rk (f:af):Int:=f.2.1*16+f.2.2.1*2+(if f.2.2.2=true then 1 else 0)
theorem nO {f g:af}(r:bq f)(u:bq g):bI f g<->rk g<rk f:=by
 obtain⟨_,_,y,H⟩:=r;obtain⟨_,_,I,z⟩:=u;unfold bI rk;by_cases a:f.2.1=g.2.1
 ·rw[if_neg (by simpa using a)];by_cases c:f.2.2.1=g.2.2.1
  ·rw[if_neg (by simpa using c),a,c];cases f.2.2.2 <;> cases g.2.2.2 <;> simp <;> omega
  ·rw[if_pos c];cases f.2.2.2 <;> cases g.2.2.2 <;> simp <;> omega
 ·rw[if_pos a];cases f.2.2.2 <;> cases g.2.2.2 <;> simp <;> omega
theorem kV {t:List af}(H:Asc (λg:af=>g.1) t)(f:af):bS t f=(t,false)\/(bS t f=(bi (λg=>g.1) f t,true)/\∀ g∈t,g.1=f.1->bI f g):=by
 by_cases h:∃ g∈t,g.1=f.1
 ·obtain⟨g,r,e⟩:=h;obtain⟨i,J,rfl⟩:=BJ r;rw[kh H J e];by_cases u:bI f t[i]
  ·rw[if_pos u];refine .inr ⟨rfl,λM y I=>?_⟩;rw[gp H y r (by rw[e,I])];exact u
  ·rw[if_neg u];exact .inl rfl
 ·have z:∀ g∈t,g.1≠f.1:=λg r e=>h ⟨g,r,e⟩
  exact .inr ⟨ii z,λg r e=>absurd e (z g r)⟩
theorem oc {n:aa}(R:ax (aa.table n)):iB n<->(∀ d∈aa.doubts n,lv n d)/\Asc (λd:bo=>d.1) (aa.doubts n)/\∀ f∈aa.table n,f.2.2.1=2->∃ d∈aa.doubts n,d.1=f.1:=by
 have z:((aS (aa.table n)).map (λf:af=>f.1)).Pairwise (·<·):=by
  rw[Bz];exact CU _ R.2
 constructor
 ·rintro⟨h1,h2,h3⟩;refine⟨h1,h2,λf I u=>?_⟩;have r:((aa.doubts n).map (λd:bo=>d.1)).Pairwise (·<·):=by rw[Bz];exact h2
  have:=(ja _ _ r z (λx y=>by
   obtain⟨d,r,rfl⟩:=BY.1 y;obtain⟨⟨g,M,e,H,_⟩,_⟩:=h1 d r;exact BY.2 ⟨g,BH.2 ⟨M,by simpa using H⟩,e⟩)).2 (by rw[BU,BU,h3])
  have O:f.1∈(aS (aa.table n)).map (λf:af=>f.1):=BY.2 ⟨f,BH.2 ⟨I,by simpa using u⟩,rfl⟩;rw[<- this]at O;obtain⟨d,r,e⟩:=BY.1 O;exact⟨d,r,e⟩
 ·rintro⟨h1,h2,h3⟩;refine⟨h1,h2,?_⟩;have r:((aa.doubts n).map (λd:bo=>d.1)).Pairwise (·<·):=by rw[Bz];exact h2
  have Y:=(ja _ _ r z (λx y=>by
   obtain⟨d,r,rfl⟩:=BY.1 y;obtain⟨⟨g,M,e,H,_⟩,_⟩:=h1 d r;exact BY.2 ⟨g,BH.2 ⟨M,by simpa using H⟩,e⟩)).1
  have X:=(ja _ _ z r (λx y=>by
   obtain⟨f,I,rfl⟩:=BY.1 y;obtain⟨J,u⟩:=BH.1 I;obtain⟨d,r,e⟩:=h3 f J (by simpa using u);exact BY.2 ⟨d,r,e⟩)).1
  rw[BU,BU]at Y X;omega
def ch (n:aa):Int:=n.2.2.2.2.2.1
def fq (n:aa)(b:Int):Prop:=InP b 0 7/\ak b=ak n.1
theorem kW {n:aa}(u:Asc (λg:af=>g.1) (aa.table n))(f:af)(b:Int):sayOf n f b=n \/
  (sayOf n f b=fG n (bi (λg=>g.1) f (aa.table n)) (dv (aa.cast n) f) (bif iN n f then aa.doubts n else ct (ch n) (aa.doubts n) f b)/\∀ g∈aa.table n,g.1=f.1->bI f g):=by
 rcases kV u f with h|⟨h,r⟩
 ·left;unfold sayOf;rw[h];rfl
 ·right;refine⟨?_,r⟩;unfold sayOf;rw[h];rfl
theorem vG {n:aa}{f:af}{b:Int}(O:ax (aa.table n))(hD:iB n)(hf:bq f)(hb:fq n b)(hn:0<=ch n)(c:List aL) :
  iB (fG n (bi (λg=>g.1) f (aa.table n)) c (bif iN n f then aa.doubts n else ct (ch n) (aa.doubts n) f b)):=by
 obtain⟨h1,h2,h3⟩:=(oc O).1 hD;have Z:ax (bi (λg:af=>g.1) f (aa.table n)):=⟨λg y=>by
  rcases aX.1 y with rfl|⟨y,_⟩
  ·exact hf
  ·exact O.1 g y,e8 O.2⟩
 refine (oc (n:=fG n _ c _) Z).2 ?_;have J:∀ d∈aa.doubts n,d.1≠f.1->∀ ds,lv (fG n (bi (λg:af=>g.1) f (aa.table n)) c ds) d:=λd z u ds=>by
  obtain⟨⟨g,y,Y,X,R⟩,r⟩:=h1 d z;exact⟨⟨g,aX.2 (.inr ⟨y,by rw[Y];exact u⟩),Y,X,R⟩,r⟩
 have I:∀ g∈bi (λg:af=>g.1) f (aa.table n),g.1≠f.1->g.2.2.1=2->∃ d∈aa.doubts n,d.1=g.1:=λg y u h=>by
  rcases aX.1 y with rfl|⟨y,_⟩
  ·exact absurd rfl u
  ·exact h3 g y h
 cases hs:iN n f with
 |true =>
  obtain⟨g0,M,s1,s2,s3⟩:=of_decide_eq_true hs;refine⟨λd z=>?_,h2,λg y h=>?_⟩
  ·by_cases u:d.1=f.1
   ·obtain⟨⟨g,y,Y,X,R⟩,r⟩:=h1 d z;rw[gp O.2 y M (by rw[Y,s1,u])]at X R;exact⟨⟨f,aX.2 (.inl rfl),u.symm,by rw[<- s3];exact X,by rw[<- s2];exact R⟩,r⟩
   ·exact J d z u _
  ·by_cases u:g.1=f.1
   ·have a0:g=f:=by
     rcases aX.1 y with h|⟨_,h⟩
     ·exact h
     ·exact absurd u h
    rw[a0]at h ⊢;obtain⟨d,z,e⟩:=h3 g0 M (by rw[s3];exact h);exact⟨d,z,by rw[e,s1]⟩
   ·exact I g y u h
 |false =>
  by_cases H:f.2.2.1=2
  ·have e:ct (ch n) (aa.doubts n) f b=bi (λd=>d.1) (mkD (ch n) f b) (aa.doubts n):=by unfold ct;rw[if_pos H]
   simp only[cond_false];rw[e];refine⟨λd z=>?_,e8 h2,λg y h=>?_⟩
   ·rcases aX.1 z with rfl|⟨z,u⟩
    ·exact⟨⟨f,aX.2 (.inl rfl),rfl,H,rfl⟩,⟨hn,CF _⟩,List.cons_ne_nil _ _,λx hx=>by rw[B3.1 hx];exact hb,Cs _ _⟩
    ·exact J d z u _
   ·by_cases u:g.1=f.1
    ·exact⟨mkD (ch n) f b,aX.2 (.inl rfl),u.symm⟩
    ·obtain⟨d,z,e⟩:=I g y u h;exact⟨d,aX.2 (.inr ⟨z,λe'=>u (e.symm.trans e')⟩),e⟩
  ·have e:ct (ch n) (aa.doubts n) f b=(aa.doubts n).filter (λd=>!(d.1==f.1)):=by unfold ct;rw[if_neg H]
   simp only[cond_false];rw[e];refine⟨λd z=>?_,l6 h2 _,λg y h=>?_⟩
   ·obtain⟨z,u⟩:=BH.1 z;exact J d z (by simpa using u) _
   ·have u:g.1≠f.1:=λu=>by
     rcases aX.1 y with h'|⟨_,h'⟩
     ·rw[h']at h;exact H h
     ·exact h' u
    obtain⟨d,z,e⟩:=I g y u h;exact⟨d,BH.2 ⟨z,by rw[e];simpa using u⟩,e⟩
theorem vH {n:aa}{f:af}(O:ax (aa.table n))(R:cU (aa.cast n))(Y:gU (aa.table n) (aa.cast n))(M:bq f)(X:∀ g∈aa.table n,g.1=f.1->bI f g) :
  gU (bi (λg=>g.1) f (aa.table n)) (dv (aa.cast n) f):=by
 have I:∀ x∈aa.cast n,∃ g∈bi (λg:af=>g.1) f (aa.table n),g.1=x.1.1/\¬ bI x.1 g:=λx r=>by
  obtain⟨g,J,e,z⟩:=Y x r;by_cases u:g.1=f.1
  ·refine⟨f,aX.2 (.inl rfl),by rw[<- e,u],λh=>z ?_⟩;have H:=(R.1 x r).1;have y:=O.1 g J;have:=X g J u;rw[nO M y]at this;rw[nO H M]at h;rw[nO H y];omega
  ·exact⟨g,aX.2 (.inr ⟨J,u⟩),e,z⟩
 intro x r;unfold dv at r;split at r
 ·exact I x r
 ·rcases aX.1 r with rfl|⟨r,_⟩
  ·exact⟨f,aX.2 (.inl rfl),rfl,xd f⟩
  ·exact I x r
structure UpX (n:aa):Prop where
 me:InP n.1 0 7
 now0:0<=ch n
 table:ax (aa.table n)
 site:bP (aa.table n) (ak n.1)
 cast:cU (aa.cast n)
 vs:gU (aa.table n) (aa.cast n)
 probe:c9 n
 doubts:iB n
 coord:cJ (aa.coord n)
 places:er n.1 (aa.places n)
 others:da n.1 (aa.others n)
theorem UpX.of {n:aa}(h:UpP n)(z:InP n.1 0 7)(X:0<=ch n):UpX n:=by
 obtain⟨H,J,_,⟨R,O⟩,I,M,r,u,y⟩:=h;exact⟨z,X,H,J,R,O,I,M,r,u,y⟩
theorem UpX.up {n:aa}(h:UpX n)(r:dh n):UpP n:=⟨h.table,h.site,r,⟨h.cast,h.vs⟩,h.probe,h.doubts,h.coord,h.places,h.others⟩
theorem UpX.say {n:aa}(h:UpX n):cz n:=by
 refine cz.mk' h.table h.cast h.doubts.2.1 λd u=>?_
 obtain⟨f,r,e,_⟩:=(h.doubts.1 d u).1;rw[<- e];exact (h.table.1 f r).1
theorem fq.me {n:aa}(h:InP n.1 0 7):fq n n.1:=⟨h,rfl⟩
theorem qZ {n m:aa}(h:c9 n)(Z:m.1=n.1)(M:aa.probe m=aa.probe n)(J:∀ g∈aa.table n,∃ y∈aa.table m,y.1=g.1)(hn:ch n<=ch m)(I:n.2.2.2.2.2.2.1<=m.2.2.2.2.2.2.1):c9 m:=by
 unfold c9 at h ⊢;rw[M,Z];split at h
 ·rename_i u;rw[if_pos u];exact h
 ·rename_i u;rw[if_neg u];obtain⟨Y,⟨g,hg,z⟩,⟨H,X⟩,⟨O,p5⟩⟩:=h;obtain⟨y,r,R⟩:=J g hg;exact⟨Y,⟨y,r,R.trans z⟩,⟨H,Ce X hn⟩,⟨O,Ce p5 I⟩⟩
theorem UpX.said {n:aa}{f:af}{b:Int}(h:UpX n)(u:bq f)(H:ak f.1=ak n.1)(I:fq n b):UpX (sayOf n f b):=by
 rcases kW h.table.2 f b with e|⟨e,z⟩
 ·rw[e];exact h
 ·have y:=λg r=>jy (n:=n) (f:=f) (b:=b) (g:=g) r
  rw[e]at y ⊢;refine⟨h.me,h.now0,⟨λg r=>?_,e8 h.table.2⟩,λg r=>?_,pD h.cast u,vH h.table h.cast h.vs u z,qZ h.probe rfl rfl y (CF _) (CF _),vG h.table h.doubts u I h.now0 _,h.coord,h.places,h.others⟩
  ·rcases aX.1 r with rfl|⟨r,_⟩
   ·exact u
   ·exact h.table.1 g r
  ·rcases aX.1 r with rfl|⟨r,_⟩
   ·exact H
   ·exact h.site g r
theorem q8 {n:aa}(u:Asc (λg:af=>g.1) (aa.table n)){f g:af}{b:Int}(r:g.1≠f.1):g∈aa.table (sayOf n f b)<->g∈aa.table n:=by
 rcases kW u f b with e|⟨e,_⟩
 ·rw[e]
 ·rw[e];exact aX.trans ⟨λh=>h.elim (λh=>absurd (by rw[h]) r) (·.1),λh=>.inr ⟨h,r⟩⟩
theorem q9 {n:aa}(z:Asc (λg:af=>g.1) (aa.table n)){f:af}{b:Int}(h:∀ g∈aa.table n,g.1=f.1->bI f g):f∈aa.table (sayOf n f b):=by
 have H:bS (aa.table n) f=(bi (λg=>g.1) f (aa.table n),true):=by
  rcases kV z f with e|⟨e,_⟩
  ·by_cases u:∃ g∈aa.table n,g.1=f.1
   ·obtain⟨g,r,y⟩:=u;obtain⟨i,I,rfl⟩:=BJ r;rw[kh z I y,if_pos (h _ r y)]
   ·exact ii λg r e=>u ⟨g,r,e⟩
  ·exact e
 unfold Go.Proofs.YtadlacffdemoiaaGreatEv.sayOf;rw[H];exact aX.2 (.inl rfl)
def OnN (n m:aa):Prop:=∃ t c r,m=fG n t c r
theorem OnN.refl (n:aa):OnN n n:=⟨_,_,_,rfl⟩
theorem OnN.say {n m:aa}(h:OnN n m)(f:af)(b:Int):OnN n (Go.Proofs.YtadlacffdemoiaaGreatEv.sayOf m f b):=by
 obtain⟨t,c,y,rfl⟩:=h;obtain⟨z,u,r,e,_⟩:=iD (fG n t c y) f b;exact⟨z,u,r,e⟩
def md (n:aa):af:=(n.1,n.2.2.2.2.1,(if n.2.2.1=true then 4 else 1),n.2.2.2.1)
theorem oS {n m:aa}(J:Asc (λg:af=>g.1) (aa.table m))(y:OnN n m){f:af}{b:Int}(r:f.1≠n.1)(h:dh m):dh (sayOf m f b):=by
 obtain⟨t,c,O,e⟩:=y.say f b;obtain⟨M,R,z,I⟩:=y;have H:md n∈aa.table m:=by rw[I]at h ⊢;exact h
 have u:=(q8 J (f:=f) (b:=b) (g:=md n) (λh=>r h.symm)).2 H;rw[e]at u ⊢;exact u
theorem ta {n:aa}(h:UpX n)(y:dh n){d:bo}(I:d∈aa.doubts n):d.1≠n.1:=by
 obtain⟨⟨g,z,e,r,_⟩,_⟩:=h.doubts.1 d I;intro H;have u:md n∈aa.table n:=y;have:=gp h.table.2 z u (by rw[e,H];rfl);rw[this]at r;revert r;show (if n.2.2.1=true then (4:Int) else 1)=2->False;split <;> omega
theorem mR {n:aa}(h:UpX n)(Z:dh n):UpX (kk n)/\dh (kk n)/\OnN n (kk n):=by
 have:=l7 (st:=ik) (Inv:=λm=>(UpX m/\dh m/\OnN n m)/\∀ g∈aa.table n,∃ Y∈aa.table m,Y.1=g.1) (ds:=aa.doubts n) (n:=n) ⟨⟨h,Z,OnN.refl n⟩,λg y=>⟨g,y,rfl⟩⟩ ?_
 ·exact this.1
 ·rintro m d hd ⟨⟨r,u,X⟩,R⟩;have z:=ta h Z hd;unfold ik;cases qr m.2.2.2.2.2.1 d.2.2.1 d.2.2.2.length with
  |false=>exact⟨⟨r,u,X⟩,R⟩
  |true =>
   obtain⟨⟨g,y,e,_⟩,_⟩:=h.doubts.1 d hd;obtain⟨Y,H,e'⟩:=R g y;obtain⟨h1,h2,h3⟩:=ek r.table ⟨Y,H,e'.trans e⟩;have I:ak (kD (aP (aa.table m) d.1)).1=ak m.1:=by
    show ak (aP (aa.table m) d.1).1=ak m.1;exact r.site _ h3
   have J:(kD (aP (aa.table m) d.1)).1≠n.1:=by rw[show (kD (aP (aa.table m) d.1)).1=_ from h2];exact z
   refine⟨⟨r.said (uG h1) I (fq.me r.me),oS r.table.2 X J u,X.say _ _⟩,λg y=>?_⟩;obtain⟨g1,M,e1⟩:=R g y;obtain⟨g2,O,e2⟩:=jy (f:=kD (aP (aa.table m) d.1)) (b:=m.1) M;exact⟨g2,O,e2.trans e1⟩
theorem UpX.setProbe {n:aa}(h:UpX n){p:af}(r:c9 (setP n p)):UpX (setP n p):=⟨h.me,h.now0,h.table,h.site,h.cast,h.vs,r,h.doubts,h.coord,h.places,h.others⟩
theorem xf (n:aa):c9 (setP n noP):=by
 unfold c9;exact (if_pos rfl).mpr rfl
theorem xg {n:aa}(h:UpX n)(H:dh n):UpX (dp n).1/\dh (dp n).1/\∃ p,OnN (setP n p) (dp n).1:=by
 have r:UpX n/\dh n/\∃ p,OnN (setP n p) n:=⟨h,H,aa.probe n,OnN.refl n⟩;have y:UpX (setP n noP):=h.setProbe (xf n);unfold dp;cases M:(aa.probe n).1==-1 with
 |true=>exact r
 |false =>
  have z:(aa.probe n).1≠-1:=by simpa using M
  have u:=h.probe;unfold c9 at u;rw[if_neg z]at u;simp only[cond_false];cases R:eA (aP (aa.table n) (aa.probe n).1) with
  |false=>exact⟨y,H,_,OnN.refl _⟩
  |true =>
   obtain⟨J,O,X⟩:=ek h.table (gW R);simp only[BI,cond_false];cases decide (n.2.2.2.2.2.1-(aa.probe n).2.1>=4) with
   |true =>
    simp only[cond_true];cases (aP (aa.table n) (aa.probe n).1).2.2.1==1 with
    |true =>
     have I:ak (pF (aP (aa.table n) (aa.probe n).1)).1=ak (setP n noP).1:=by
      show ak (aP (aa.table n) (aa.probe n).1).1=ak n.1;exact h.site _ X
     refine⟨y.said (zN J) I (fq.me (n:=setP n noP) h.me),oS (n:=setP n noP) (m:=setP n noP) h.table.2 (OnN.refl (setP n noP)) ?_ H,noP,(OnN.refl (setP n noP)).say _ _⟩;rw[show (pF (aP (aa.table n) (aa.probe n).1)).1=_ from O];exact u.1
    |false=>exact⟨y,H,_,OnN.refl _⟩
   |false =>
    simp only[cond_false];cases decide (n.2.2.2.2.2.1-(aa.probe n).2.1>=2) with
    |false=>exact r
    |true =>
     simp only[cond_true];cases (aa.probe n).2.2.2 with
     |true=>exact r
     |false =>
      refine⟨h.setProbe ?_,H,_,OnN.refl _⟩;show c9 (lx n);unfold c9;rw[if_neg (show ¬ (aa.probe (lx n)).1=-1 from z)];exact u
def iR (n:aa):Option Int:=((List.range 8).map (cK n)).find? λx=>x != n.1&&eA (aP (aa.table n) x)
def jF (n:aa):Int:=n.2.2.2.2.2.2.1
def dS (n:aa):aa×List ao:=bif decide (jF n>=999999) then (n,[]) else match iR n with
 |some to=>(askN n to,[pingW n to])
 |none=>(n,[])
theorem ra {n:aa}{to:Int}(h:iR n=some to):to≠n.1/\eA (aP (aa.table n) to)=true:=by
 have:=Cw h;simpa using this
theorem xh {l:List aL}{T:List Int}{x:aL}(h:x∈dD l T l.length):∃ y∈l,x.1=y.1:=by
 unfold dD at h;obtain⟨u,_⟩:=BH.1 h;obtain⟨i,r,rfl⟩:=BJ u;rw[eC]at r;rw[e9 l T r];refine⟨l[i],BC r,?_⟩;unfold dO;rw[cA r];cases decide ((i:Int)∈T) <;> rfl
theorem UpX.way {n:aa}(h:UpX n):UpX (iQ n):=⟨h.me,h.now0,h.table,h.site,yC h.cast _,λx u=>by
 obtain⟨y,H,e⟩:=xh u;obtain⟨g,I,z,r⟩:=h.vs y H;exact⟨g,I,by rw[e,z],by rw[e];exact r⟩,h.probe,h.doubts,h.coord,h.places,h.others⟩
structure tc (n:aa):Prop where
 seq:InP (jF n) 0 999999
 turn:InP n.2.2.2.2.2.2.2.1 0 8
theorem AR {n:aa}(h:UpX n)(u:dh n)(z:tc n):UpX (dS n).1/\dh (dS n).1/\tc (dS n).1/\(dS n).1.1=n.1/\ch (dS n).1=ch n/\(dS n).1.2.2.2.2.1=n.2.2.2.2.1:=by
 unfold dS;by_cases H:jF n>=999999
 ·rw[decide_eq_true H];exact⟨h,u,z,rfl,rfl,rfl⟩
 ·rw[decide_eq_false H];simp only[cond_false];cases O:iR n with
  |none=>exact⟨h,u,z,rfl,rfl,rfl⟩
  |some to =>
   obtain⟨y,X⟩:=ra O;obtain⟨R,J,M⟩:=ek h.table (gW X);obtain⟨⟨Y,Z⟩,_⟩:=z;have r:InP to 0 7:=J ▸ R.1;have I:=h.way;refine⟨⟨h.me,h.now0,h.table,h.site,I.cast,I.vs,?_,h.doubts,h.coord,h.places,h.others⟩,u,⟨⟨show 0<=jF n+1 by omega,show jF n+1<=999999 by omega⟩,show 0<=to+1 by have:=r.1;omega,show to+1<=8 by have:=r.2;omega⟩,rfl,rfl,rfl⟩;show c9 (askN n to);unfold c9;rw[if_neg (show ¬ (aa.probe (askN n to)).1=-1 by have:=r.1;show ¬ to=-1;omega)];exact⟨y,⟨_,M,J⟩,⟨h.now0,CF _⟩,show 1<=jF n+1 by omega,CF _⟩
def d7 (n:aa):aa:=(n.1,n.2.1,n.2.2.1,n.2.2.2.1,n.2.2.2.2.1,n.2.2.2.2.2.1+1,n.2.2.2.2.2.2)
def ft (m:aa):aa×List ao:=bif (aa.probe m).1==-1 then dS m else (m,[])
def fu (n:aa):aa×List ao:=dp (kk (d7 n))
def kE (n:aa):aa:=(ft (fu n).1).1
def pI (n:aa)(r:Int):List ao:=(fu n).2++(ft (fu n).1).2++j0 (kE n) r
theorem UpX.later {n:aa}(h:UpX n):UpX (d7 n):=by
 have M:ch (d7 n)=ch n+1:=rfl;have J:=h.now0;refine⟨h.me,by omega,h.table,h.site,h.cast,h.vs,qZ h.probe rfl rfl (λg I=>⟨g,I,rfl⟩) (by omega) (CF _),⟨λd H=>?_,h.doubts.2⟩,h.coord,h.places,h.others⟩;obtain⟨r,⟨y,z⟩,u⟩:=h.doubts.1 d H;exact⟨r,⟨y,Ce z (show ch n<=ch (d7 n) by omega)⟩,u⟩
structure UpN (n:aa):Prop where
 x:UpX n
 self:dh n
 now1:ch n<=999999
 seq:tc n
 inc:InP n.2.2.2.2.1 0 999
 up:n.2.1=true
theorem UpN.of {n:aa}(h:gL n)(u:n.2.1=true):UpN n:=by
 obtain⟨z,y,J,I,H,r⟩:=h;rw[if_pos u]at r;exact⟨UpX.of r z y.1,r.2.2.1,y.2,⟨J,I⟩,H,u⟩
theorem UpN.ok {n:aa}(h:UpN n):gL n:=⟨h.x.me,⟨h.x.now0,h.now1⟩,h.seq.seq,h.seq.turn,h.inc,by rw[if_pos h.up];exact h.x.up h.self⟩
theorem pJ {n:aa}(h:UpN n)(hm:ch n<999999):UpN (fu n).1/\(fu n).1.1=n.1/\(fu n).1.2.2.1=n.2.2.1:=by
 have z:dh (d7 n):=h.self;obtain⟨H,J,O⟩:=mR h.x.later z;obtain⟨R,I,p,u⟩:=xg H J;obtain⟨t,c,Y,r⟩:=O;obtain⟨X,Z,y,M⟩:=u;have e:(fu n).1=_:=M;rw[r]at e;refine⟨⟨R,I,?_,⟨?_,?_⟩,?_,?_⟩,?_,?_⟩
 ·show ch (fu n).1<=999999;rw[e];show ch n+1<=999999;omega
 ·show InP (jF (fu n).1) 0 999999;rw[e];exact h.seq.seq
 ·show InP (fu n).1.2.2.2.2.2.2.2.1 0 8;rw[e];exact h.seq.turn
 ·show InP (fu n).1.2.2.2.2.1 0 999;rw[e];exact h.inc
 ·show (fu n).1.2.1=true;rw[e];exact h.up
 ·rw[e];rfl
 ·rw[e];rfl
theorem td {m:aa}:(dS m).1.2.1=m.2.1/\(dS m).1.2.2.1=m.2.2.1:=by
 unfold dS;cases decide (jF m>=999999) with
 |true=>exact⟨rfl,rfl⟩
 |false =>
  cases iR m with
  |none=>exact⟨rfl,rfl⟩
  |some to=>exact⟨rfl,rfl⟩
theorem vI {m:aa}(h:UpN m):UpN (ft m).1/\(ft m).1.1=m.1/\(ft m).1.2.2.1=m.2.2.1:=by
 unfold ft;cases (aa.probe m).1==-1 with
 |false=>exact⟨h,rfl,rfl⟩
 |true =>
  obtain⟨I,r,u,y,z,H⟩:=AR h.x h.self h.seq;refine⟨⟨I,r,?_,u,?_,?_⟩,y,td.2⟩
  ·show ch (dS m).1<=999999;rw[z];exact h.now1
  ·show InP (dS m).1.2.2.2.2.1 0 999;rw[H];exact h.inc
  ·show (dS m).1.2.1=true;rw[td.1];exact h.up
theorem qt {n:aa}(h:UpN n)(r:ch n<999999):UpN (kE n)/\(kE n).1=n.1/\(kE n).2.2.1=n.2.2.1:=by
 obtain⟨u,I,J⟩:=pJ h r;obtain⟨H,y,z⟩:=vI u;exact⟨H,y.trans I,z.trans J⟩
theorem yE {f g:af}(h:g.2.1<f.2.1):bI f g:=by
 unfold bI;rw[if_pos (by omega)];exact h
theorem zU {f g:af}(h:bI f g):g.2.1<=f.2.1:=by
 unfold bI at h;split at h <;> omega
theorem UpX.inc {n:aa}(h:UpX n)(i:Int):UpX (gr n i):=⟨h.me,h.now0,h.table,h.site,h.cast,h.vs,h.probe,h.doubts,h.coord,h.places,h.others⟩
theorem re {n:aa}(h:UpX n)(r:dh n){g:af}(u:g∈aa.table n)(e:g.1=n.1):g=md n:=gp h.table.2 u r (by rw[e];rfl)
theorem xi {n:aa}(h:UpX n)(r:dh n):aP (aa.table n) n.1=md n:=jv h.table.2 (f:=md n) r
theorem yF {n:aa}(h:UpN n)(H:n.2.2.1=false):UpN (mL n)/\(mL n).1=n.1:=by
 have z:bq (n.1,n.2.2.2.2.1,4,n.2.2.2.1):=⟨h.x.me,h.inc,show (1:Int)<=4 by omega,show (4:Int)<=4 by omega⟩;have r:=h.x.said z rfl (fq.me h.x.me);have y:(n.1,n.2.2.2.2.1,(4:Int),n.2.2.2.1)∈aa.table (sayOf n (n.1,n.2.2.2.2.1,4,n.2.2.2.1) n.1):=q9 h.x.table.2 λg u e=>by
  rw[re h.x h.self u e];unfold bI md;rw[H];simp
 obtain⟨t,c,I,e⟩:=(OnN.refl n).say (n.1,n.2.2.2.2.1,4,n.2.2.2.1) n.1;unfold mL;rw[e]at r y ⊢;exact⟨⟨⟨r.me,r.now0,r.table,r.site,r.cast,r.vs,r.probe,r.doubts,r.coord,r.places,r.others⟩,y,h.now1,⟨h.seq.seq,h.seq.turn⟩,h.inc,h.up⟩,rfl⟩
theorem xj {n:aa}{f:af}(h:UpN n)(y:n.2.2.1=false)(O:bq f):UpN (eB n f)/\(eB n f).1=n.1/\(eB n f).2.2.1=false:=by
 unfold eB;cases z:decide (bI f (aP (aa.table n) n.1))&&decide (f.2.1<999) with
 |false=>exact⟨h,rfl,y⟩
 |true =>
  rw[CG,decide_eq_true_eq,decide_eq_true_eq,xi h.x h.self]at z;obtain⟨J,X⟩:=z;have R:n.2.2.2.2.1<=f.2.1:=zU J;have r:=qs (n:=n) h.x.me O X;have H:UpX (sayOf (gr n (f.2.1+1)) (n.1,f.2.1+1,1,n.2.2.2.1) n.1):=(h.x.inc (f.2.1+1)).said r rfl (fq.me (n:=gr n (f.2.1+1)) h.x.me);have I:(n.1,f.2.1+1,(1:Int),n.2.2.2.1)∈aa.table (sayOf (gr n (f.2.1+1)) (n.1,f.2.1+1,1,n.2.2.2.1) n.1):=q9 (n:=gr n (f.2.1+1)) h.x.table.2 λg u e=>by
   rw[re h.x h.self u e];exact yE (show n.2.2.2.2.1<f.2.1+1 by omega)
  obtain⟨t,c,M,e⟩:=(OnN.refl (gr n (f.2.1+1))).say (n.1,f.2.1+1,1,n.2.2.2.1) n.1;simp only[cond_true];rw[show sayOf (gr n (f.2.1+1)) (n.1,f.2.1+1,1,n.2.2.2.1) n.1=fG (gr n (f.2.1+1)) t c M from e]at H I ⊢;refine⟨⟨H,?_,h.now1,⟨h.seq.seq,h.seq.turn⟩,r.2.1,h.up⟩,rfl,y⟩;show (n.1,f.2.1+1,(if n.2.2.1=true then (4:Int) else 1),n.2.2.2.1)∈_;rw[y];exact I
theorem mS (f:af)(b:Int)(d:bo):(cF f b d).1=d.1/\(cF f b d).2.1=d.2.1/\(cF f b d).2.2.1=d.2.2.1:=by
 unfold cF;cases d.1==f.1&&d.2.1==f.2.1&&f.2.2.1==2 <;> exact⟨rfl,rfl,rfl⟩
theorem UpX.conf {n:aa}(h:UpX n)(f:af){b:Int}(R:fq n b):UpX (iE n f b):=by
 refine⟨h.me,h.now0,h.table,h.site,h.cast,h.vs,h.probe,⟨λd X=>?_,?_,?_⟩,h.coord,h.places,h.others⟩
 ·obtain⟨r,y,rfl⟩:=BY.1 X;obtain⟨H,k2,O⟩:=mS f b r;obtain⟨⟨g,hg,Z,Y,I⟩,J,M,z⟩:=h.doubts.1 r y;refine⟨⟨g,hg,by rw[H];exact Z,Y,by rw[k2];exact I⟩,by rw[O];exact J,?_⟩;unfold cF;cases r.1==f.1&&r.2.1==f.2.1&&f.2.2.1==2 with
  |false=>exact⟨M,z⟩
  |true =>
   refine⟨List.ne_nil_of_mem (aX.2 (.inl rfl)),λx u=>?_,e8 z.2⟩;rcases aX.1 u with rfl|⟨u,_⟩
   ·exact R
   ·exact z.1 x u
 ·show Asc _ ((aa.doubts n).map (cF f b));unfold Asc;rw[Bz];exact h.doubts.2.1.imp λ {a c} h=>by show (cF f b a).1<(cF f b c).1;rw[(mS f b a).1,(mS f b c).1];exact h
 ·show _=((aa.doubts n).map (cF f b)).length;rw[BU];exact h.doubts.2.2
theorem te {n:aa}{f:af}{b:Int}(h:UpN n)(I:n.2.2.1=false)(z:bq f)(M:ak f.1=ak n.1)(H:fq n b):UpN (cV b n f)/\(cV b n f).1=n.1/\(cV b n f).2.2.1=false:=by
 unfold cV;by_cases r:f.1=n.1
 ·rw[show (f.1==n.1)=true by simpa using r];exact xj h I z
 ·rw[show (f.1==n.1)=false by simpa using r];have y:=h.x.said z M H;have u:=oS h.x.table.2 (OnN.refl n) (b:=b) r h.self;obtain⟨t,c,J,e⟩:=(OnN.refl n).say f b;simp only[cond_false];rw[show sayOf n f b=fG n t c J from e]at y u ⊢;exact⟨⟨y.conf f H,u,h.now1,⟨h.seq.seq,h.seq.turn⟩,h.inc,h.up⟩,rfl,I⟩
theorem kl {n:aa}{t:List af}{b:Int}(h:UpN n)(M:n.2.2.1=false)(H:ax t)(I:bP t (ak n.1))(u:fq n b):UpN (cY n t b)/\(cY n t b).1=n.1/\(cY n t b).2.2.1=false:=by
 refine l7 (st:=cV b) (Inv:=λm=>UpN m/\m.1=n.1/\m.2.2.1=false) (ds:=t) (n:=n) ⟨h,rfl,M⟩ λm f y ⟨z,r,J⟩=>?_
 have:=te (b:=b) z J (H.1 f y) (by rw[r];exact I f y) ⟨u.1,by rw[r];exact u.2⟩;exact⟨this.1,this.2.1.trans r,this.2.2⟩
theorem UpN.learns {n:aa}(h:UpN n):dw n:=⟨h.x.say,h.x.me,⟨_,h.self,rfl⟩,λd y=>by
 obtain⟨_,_,_,r⟩:=h.x.doubts.1 d y;exact⟨r.2,λx u=>(r.1 x u).1⟩⟩
def mT (n:aa)(o:List b8):aa:=(n.1,n.2.1,n.2.2.1,n.2.2.2.1,n.2.2.2.2.1,n.2.2.2.2.2.1,n.2.2.2.2.2.2.1,n.2.2.2.2.2.2.2.1,n.2.2.2.2.2.2.2.2.1,n.2.2.2.2.2.2.2.2.2.1,n.2.2.2.2.2.2.2.2.2.2.1,n.2.2.2.2.2.2.2.2.2.2.2.1,n.2.2.2.2.2.2.2.2.2.2.2.2.1,n.2.2.2.2.2.2.2.2.2.2.2.2.2.1,o)
theorem UpN.setOthers {n:aa}(h:UpN n){o:List b8}(r:da n.1 o):UpN (mT n o):=⟨⟨h.x.me,h.x.now0,h.x.table,h.x.site,h.x.cast,h.x.vs,h.x.probe,h.x.doubts,h.x.coord,h.x.places,r⟩,h.self,h.now1,⟨h.seq.seq,h.seq.turn⟩,h.inc,h.up⟩
theorem vJ {H s:Int}{r:List af}{o:List b8}(I:da H o)(M:InP s 0 1)(z:s≠ak H)(O:r≠[])(J:ax r)(y:bP r s):da H (bi (λx:b8=>x.1) (s,r) o) :=
 ⟨λx u=>by
  rcases aX.1 u with rfl|⟨u,_⟩
  ·exact⟨M,z,O,J,y⟩
  ·exact I.1 x u,e8 I.2⟩
def gY (l:List Int)(t:Int):List Int:=(l++[t]).drop ((l++[t]).length-3)
def dJ (l:List dM)(r:Int):List Int:=((l.find? λp=>p.1==r).map (·.2.2)).getD []
def oT (l:List dM)(r:Int)(c:dC)(t:Int):List dM:=bi (λp=>p.1) (r,c,gY (dJ l r) t) l
def pK (n:aa)(c:dC)(p:List dM):aa:=(n.1,n.2.1,n.2.2.1,n.2.2.2.1,n.2.2.2.2.1,n.2.2.2.2.2.1,n.2.2.2.2.2.2.1,n.2.2.2.2.2.2.2.1,n.2.2.2.2.2.2.2.2.1,n.2.2.2.2.2.2.2.2.2.1,noP,n.2.2.2.2.2.2.2.2.2.2.2.1,c,p,n.2.2.2.2.2.2.2.2.2.2.2.2.2.2)
theorem uj {l:List dM}{r:Int}{t:Int}(h:t∈dJ l r):∃ p∈l,t∈p.2.2:=by
 unfold dJ at h;cases u:l.find? λp=>p.1==r with
 |none=>rw[u]at h;simp at h
 |some p =>
  rw[u]at h;exact⟨p,CY u,h⟩
theorem xk {l:List Int}{t:Int}(y:∀ x∈l,InP x 1 60000)(r:InP t 1 60000):InP ((gY l t).length:Int) 1 3/\∀ x∈gY l t,InP x 1 60000:=by
 unfold gY;constructor
 ·simp only[B4,BP,BG,BM];constructor <;> omega
 ·intro x u;have:=List.mem_of_mem_drop u;rcases B7.1 this with h|h
  ·exact y x h
  ·rw[B3.1 h];exact r
theorem vK {y r:Int}{l:List dM}{c:dC}{t:Int}(h:er y l)(R:InP r 0 7)(I:ak r=ak y)(J:r≠y)(M:cJ c)(O:InP t 1 60000):er y (oT l r c t):=by
 have H:=xk (l:=dJ l r) (t:=t) (λx z=>by
  obtain⟨p,u,z⟩:=uj z;exact (h.1 p u).2.2.2.2.2 x z) O
 exact⟨λp u=>by
  rcases aX.1 u with rfl|⟨u,_⟩
  ·exact⟨R,I,J,M,H.1,H.2⟩
  ·exact h.1 p u,e8 h.2⟩
theorem UpN.heard {n:aa}(h:UpN n){c:dC}{p:List dM}(r:cJ c)(u:er n.1 p):UpN (pK n c p):=⟨⟨h.x.me,h.x.now0,h.x.table,h.x.site,h.x.cast,h.x.vs,xf n,h.x.doubts,r,u,h.x.others⟩,h.self,h.now1,⟨h.seq.seq,h.seq.turn⟩,h.inc,h.up⟩
theorem UpN.way {n:aa}(h:UpN n):UpN (iQ n):=⟨h.x.way,h.self,h.now1,⟨h.seq.seq,h.seq.turn⟩,h.inc,h.up⟩
def Tot {α:Type}(o:Option α)(P:α->Prop):Prop:=∃ v,o=some v/\P v
section
variable {α β:Type} {P:α->Prop} {Q:β->Prop}
theorem Tot.ret {v:α}(h:P v):Tot (some v) P:=⟨v,rfl,h⟩
theorem Tot.mono {o:Option α}{r:α->Prop}(h:Tot o P)(k:∀ v,P v->r v):Tot o r:=by obtain⟨v,e,u⟩:=h;exact⟨v,e,k v u⟩
theorem Tot.bind {o:Option α}{g:α->Option β}(h:Tot o P)(k:∀ v,P v->Tot (g v) Q):Tot (o.bind g) Q:=by obtain⟨v,e,r⟩:=h;rw[e];exact k v r
theorem Tot.vl {o:Option α}{v:α}{g:α->Option β}(e:o=some v)(k:Tot (g v) Q):Tot (o.bind g) Q:=by rw[e];exact k
theorem Tot.cnd {b:Bool}{x y:Option α}(r:b=true->Tot x P)(u:b=false->Tot y P):Tot (bif b then x else y) P:=by
 cases b
 ·exact u rfl
 ·exact r rfl
theorem Tot.must {b:Bool}{x y:Option α}(r:b=true)(h:Tot x P):Tot (bif b then x else y) P:=by rw[r];exact h
theorem Tot.not {b:Bool}{x y:Option α}(r:b=false)(h:Tot x P):Tot (bif b then y else x) P:=by rw[r];exact h
theorem Tot.ix {xs:List α}{i:Int}{g:α->Option β}(u:0<=i)(z:i<xs.length)(k:∀ y∈xs,idx xs i=some y->Tot (g y) Q):Tot ((idx xs i).bind g) Q:=by
 obtain⟨n,rfl⟩:=BF u;have r:n<xs.length:=by omega
 have:=ag r;rw[this];exact k _ (BC r) this
theorem Tot.iter {A:Type}{step:(A->Option β)->A->Option β}(Inv:A->Prop)(m:A->Nat)(h:∀ (rec:A->Option β) (a:A),Inv a->(∀ r,Inv r->m r<m a->Tot (rec r) Q)->Tot (step rec a) Q):∀ (k:Nat) (a:A),m a<k->Inv a->Tot (ae step k a) Q:=by
 intro k;induction k with
 |zero=>intro a z;omega
 |succ k y =>
  intro a z I;exact h (ae step k) a I λr u H=>y r (by omega) u
end
theorem Ret.tot {o:Option RB}{P:Prop}(h:Ret o P):Tot o λv=>(v.1.1=true<->P):=by
 obtain⟨b,e,r⟩:=h;exact⟨_,e,r⟩
section
variable {α β:Type} {Q:β->Prop}
theorem Tot.cat {x y:ByteArray}{k:ByteArray->Option β}{a b:Nat}(r:x.size<=a)(H:y.size<=b)(h:∀ z:ByteArray,z.size<=a+b->Tot (k z) Q)(u:a+b<=4611686018427387904:=by omega):Tot (aT x y k) Q:=by
 unfold aT;rw[decide_eq_true (by omega)];exact h _ (by rw[ByteArray.size_append];omega)
theorem Tot.fit {a b c:Nat}{x y:Option β}(h:Tot x Q)(u:c<=1000:=by omega)(r:a+b<=2097152:=by omega):Tot (bif decide ((a+b)*c<=am) then x else y) Q:=by
 have:=Cc r u;rw[decide_eq_true (by unfold am;omega)];exact h
theorem Tot.ix2 {xs:List α}{i:Int}{g:α->Option β}(r:0<=i)(u:i<xs.length)(k:∀ y∈xs,idx xs i=some y->Tot (g y) Q):Tot ((idx xs i).bind λ_=>(idx xs ((BD i:Nat):Int)).bind g) Q :=
 Tot.ix r u λy z e=>by rw[Int.toNat_of_nonneg r,e];exact k y z e
end
theorem fI (s:ByteArray):s.data.toList.length=s.size:=Array.length_toList
theorem iS (xs:List Int):(gH xs).size=xs.length:=by
 unfold gH;show (List.toArray _).size=_;rw[List.size_toArray,BU]
theorem rg (s:ByteArray):(eq s).length=s.size:=by
 unfold eq;rw[BU];exact fI s
theorem dec_t:∀ (d k:Nat) (n:Int),0<=n->n<10 ^ (d+1)->n<=1000000000->d<=100->d<k->Tot (Q10.f k (n,())) λr=>r.1.1.size<=d+1:=by
 intro d;induction d with
 |zero =>
  intro k n H y J O X;obtain⟨k,rfl⟩:∃ m,k=m+1:=⟨k-1,by omega⟩;show Tot (Q10.step (Q10.f k) (n,())) _;simp only[Q10.step];refine Tot.not (decide_eq_false (show ¬ n< -9223372036854775807 by omega)) (Tot.not (decide_eq_false (show ¬ n<0 by omega)) (Tot.must (decide_eq_true (show n<10 by exact y)) (Tot.ret ?_)));show (gH _).size<=1;rw[iS];exact BR _
 |succ d I =>
  intro k n H y J O X;obtain⟨k,rfl⟩:∃ m,k=m+1:=⟨k-1,by omega⟩;show Tot (Q10.step (Q10.f k) (n,())) _;simp only[Q10.step];refine Tot.not (decide_eq_false (show ¬ n< -9223372036854775807 by omega)) (Tot.not (decide_eq_false (show ¬ n<0 by omega)) (Tot.cnd (λ_=>Tot.ret ?_) λh=>?_))
  ·show (gH _).size<=_;rw[iS];exact Nat.succ_le_succ (B8 _)
  ·have h:¬ n<10:=of_decide_eq_false h;have e:Cd n 10=n / 10:=by rw[B6 H]
   have u:(10:Int) ^ (d+1+1)=10 ^ (d+1)*10:=Int.pow_succ ..;have R:n / 10<10 ^ (d+1):=Int.ediv_lt_of_lt_mul (by omega) (by rw[<- u];exact y);rw[e,aC (by omega) (by omega)];refine Tot.bind (I k (n / 10) (by omega) R (by omega) (by omega) (by omega)) λv Y=>Tot.cat Y (b:=1) (by rw[iS];exact BR _) (λz M=>Tot.ret M) (by omega)
theorem kX (K:Nat)(n:Int)(u:0<=n)(y:n<=999999)(z:1048577<K):Tot (Q10.f K (n,())) λr=>r.1.1.size<=6 :=
 dec_t 5 K n u (by show n<1000000;omega) (by omega) (by omega) (by omega)
theorem tf (K:Nat)(i:Int)(y:0<=i)(u:i<=4):Tot (Q168.f K (i,())) λr=>r.1.1.size<=7:=by
 have:i=0\/i=1\/i=2\/i=3\/i=4:=by omega
 rcases this with rfl|rfl|rfl|rfl|rfl <;> exact⟨_,rfl,by decide⟩
theorem tg (K:Nat)(i:Int)(y:0<=i)(u:i<=6):Tot (Q165.f K (i,())) λr=>r.1.1.size<=4:=by
 have:i=0\/i=1\/i=2\/i=3\/i=4\/i=5\/i=6:=by omega
 rcases this with rfl|rfl|rfl|rfl|rfl|rfl|rfl <;> exact⟨_,rfl,by decide⟩
theorem yG (K:Nat)(t:List af)(y:ax t)(hK:1048577<K):Tot (Q171.f K (t,())) λr=>r.1.1.size<=240:=by
 have hl:=iO y.2 (λg hg=>(y.1 g hg).1);refine Tot.iter (step:=λrec a=>Q171.s0 K (t,()) rec a) (λa=>0<=a.2/\a.2<=t.length/\(a.1.size:Int)<=30*a.2) (λa=>t.length-a.2.toNat) ?_ K _ (by show t.length-BD 0<K;omega) ⟨by show (0:Int)<=0;omega,by show (0:Int)<=_;omega,by show (0:Int)<=30*0;omega⟩;rintro rec ⟨s,i⟩ ⟨h0,h1,h2⟩ ih;simp only at h0 h1 h2 ih ⊢;simp only[Q171.s0];refine Tot.cnd (λh=>?_) λh=>?_
 ·have h:=of_decide_eq_true h;obtain⟨n,rfl⟩:=BF h0;have hn:n<t.length:=by omega
  obtain⟨⟨f1,f2⟩,⟨f3,f4⟩,f5,f6⟩:=y.1 t[n] (BC hn);rw[ag hn,ar n (by omega)];simp only[BA];have go:∀ z:ByteArray,z.size<=s.size+29->Tot (rec (z,((n+1:Nat):Int))) λr=>r.1.1.size<=240:=λz hz=>ih _ ⟨by show (0:Int)<=((n+1:Nat):Int);omega,by show ((n+1:Nat):Int)<=_;omega,by show (z.size:Int)<=30*((n+1:Nat):Int);omega⟩ (by show t.length-BD ((n+1:Nat):Int)<t.length-BD (n:Int);omega)
  have body:∀ I:ByteArray,I.size<=s.size+1->Tot ((Q10.f K (t[n].1,())).bind λy3=>aT I y3.1.1 λy4=>aT y4 (ByteArray.mk #[58]) λy5=>(Q10.f K (t[n].2.1,())).bind λy7=>aT y5 y7.1.1 λy8=>aT y8 (ByteArray.mk #[58]) λy9=>(Q168.f K (t[n].2.2.1,())).bind λX=>aT y9 X.1.1 λu=>bif t[n].2.2.2 then (aT u (ByteArray.mk #[42]) λM=>rec (M,((n+1:Nat):Int))) else (rec (u,((n+1:Nat):Int)))) λr=>r.1.1.size<=240:=λI H =>
   Tot.bind (kX K _ f1 (by omega) hK) λv1 s1=>Tot.cat H s1 λz1 Y=>Tot.cat Y (b:=1) (by decide) λz2 R =>
   Tot.bind (kX K _ f3 (by omega) hK) λv2 s2=>Tot.cat R s2 λz3 Z=>Tot.cat Z (b:=1) (by decide) λz4 J =>
   Tot.bind (tf K _ (by omega) f6) λv3 s3=>Tot.cat J s3 λz5 O =>
   Tot.cnd (λ_=>Tot.cat O (b:=1) (by decide) λz6 a0=>go z6 (by omega)) λ_=>go z5 (by omega)
  exact Tot.cnd (λ_=>Tot.cat (BR _) (b:=1) (by decide) λz hz=>body z hz) λ_=>body s (by omega)
 ·have h:=of_decide_eq_false h;exact Tot.ret (by show s.size<=240;omega)
theorem od (K:Nat)(t:List af)(z:t.length<=1048576)(u:1048577<K):Tot (Q172.f K (t,())) λr=>r.1.1.size<=240:=by
 simp only[Q172.f];refine Tot.bind (gl K t z u).tot λv H=>Tot.cnd (λ_=>Tot.ret (by show (0:Nat)<=240;omega)) λh=>?_
 have y:=H.1 (by simpa using h);exact Tot.cnd (λ_=>Tot.ret (by show (1:Nat)<=240;omega)) λ_=>Tot.bind (yG K t y u) λv h=>Tot.ret h
theorem pL (K:Nat)(n:Int)(I:-999999<=n)(H:n<=999999)(y:1048577<K):Tot (Q174.f K (n,())) λr=>r.1.1.size<=7:=by
 simp only[Q174.f];refine Tot.cnd (λh=>?_) λh=>?_
 ·have h:n<0:=of_decide_eq_true h;rw[aC (by omega) (by omega)];exact Tot.bind (kX K _ (by omega) (by omega) y) λv s=>Tot.cat (a:=1) (by decide) s λz u=>Tot.ret u
 ·have h:¬ n<0:=of_decide_eq_false h;exact Tot.bind (kX K _ (by omega) (by omega) y) λv s=>Tot.cat (a:=1) (by decide) s λz u=>Tot.ret u
theorem yH (K:Nat)(w:ao)(Y:fb w)(y:1048577<K):Tot (Q175.f K (w,())) λr=>r.1.1.size<=400:=by
 obtain⟨_,⟨a1,z⟩,⟨M,b2⟩,⟨R,c2⟩,⟨I,d2⟩,⟨X,e2⟩,⟨⟨x1,x2⟩,⟨Z,y2⟩,⟨J,z2⟩,⟨u1,u2⟩⟩,H,_⟩:=Y;have O:=bZ H;simp only[Q175.f];have u:(ByteArray.mk #[32]).size<=1:=by decide
 refine Tot.cnd (λ_=>?_) λ_=>?_ <;>
 exact Tot.cat (a:=3) (by decide) u λ_ h=>Tot.bind (tg K _ (by omega) z) λ_ s=>Tot.cat h s λ_ h=>Tot.cat h u λ_ h =>
  Tot.bind (kX K _ M (by omega) y) λ_ s=>Tot.cat h s λ_ h=>Tot.cat h u λ_ h =>
  Tot.bind (kX K _ R (by omega) y) λ_ s=>Tot.cat h s λ_ h=>Tot.cat h u λ_ h =>
  Tot.bind (kX K _ I (by omega) y) λ_ s=>Tot.cat h s λ_ h=>Tot.cat h u λ_ h =>
  Tot.bind (kX K _ X (by omega) y) λ_ s=>Tot.cat h s λ_ h=>Tot.cat h u λ_ h =>
  Tot.bind (pL K _ (by show -999999<=(ao.coord w).1;omega) (by show (ao.coord w).1<=999999;omega) y) λ_ s=>Tot.cat h s λ_ h=>Tot.cat h u λ_ h =>
  Tot.bind (pL K _ (by show -999999<=(ao.coord w).2.1;omega) (by show (ao.coord w).2.1<=999999;omega) y) λ_ s=>Tot.cat h s λ_ h=>Tot.cat h u λ_ h =>
  Tot.bind (kX K _ J (by show (ao.coord w).2.2.1<=999999;omega) y) λ_ s=>Tot.cat h s λ_ h=>Tot.cat h u λ_ h =>
  Tot.bind (kX K _ (by show 0<=(ao.coord w).2.2.2;omega) (by show (ao.coord w).2.2.2<=999999;omega) y) λ_ s=>Tot.cat h s λ_ h=>Tot.cat h u λ_ h =>
  Tot.bind (od K _ O y) λ_ s=>Tot.cat h s λ_ h=>Tot.ret (By h (by decide))
theorem yI (K:Nat)(n:Int)(I:1048577<K):Tot (Q177.f K (n,())) λ_=>True:=by
 refine Tot.iter (step:=λrec a=>Q177.s0 K (n,()) rec a) (λa=>0<=a.2/\a.2<=8) (λa=>8-a.2.toNat) ?_ K _ (by show 8-BD 0<K;omega) ⟨by show (0:Int)<=0;omega,by show (0:Int)<=8;omega⟩;rintro rec ⟨s,i⟩ ⟨y,H⟩ r;simp only at y H r ⊢;simp only[Q177.s0];obtain⟨i,rfl⟩:=BF y;refine Tot.cnd (λh=>?_) λ_=>Tot.ret trivial
 have h:=of_decide_eq_true h;rw[ar i (by omega)];have u:∀ z:Int,Tot (rec (z,((i+1:Nat):Int))) λ_=>True:=λz=>r _ ⟨by show (0:Int)<=((i+1:Nat):Int);omega,by show ((i+1:Nat):Int)<=8;omega⟩ (by show 8-BD ((i+1:Nat):Int)<8-BD (i:Int);omega)
 exact Tot.cnd (λ_=>u _) λ_=>u _
theorem zV (K:Nat)(s:ByteArray)(J:s.size<=1000000)(H:1048577<K):Tot (Q178.f K (s,())) λ_=>True:=by
 refine Tot.iter (step:=λrec a=>Q178.s0 K (s,()) rec a) (λa=>0<=a.2/\a.2<=s.size) (λa=>s.size-a.2.toNat) ?_ K _ (by show s.size-BD 0<K;omega) ⟨by show (0:Int)<=0;omega,by show (0:Int)<=_;omega⟩;rintro rec ⟨z,i⟩ ⟨r,I⟩ u;simp only at r I u ⊢;simp only[Q178.s0];obtain⟨i,rfl⟩:=BF r;refine Tot.cnd (λh=>?_) λ_=>Tot.ret trivial
 have h:=of_decide_eq_true h;rw[ar i (by omega)];exact Tot.ix r (by rw[fI];exact h) λy _ _=>Tot.bind (yI K _ H) λv _=>u _ ⟨by show (0:Int)<=((i+1:Nat):Int);omega,by show ((i+1:Nat):Int)<=_;omega⟩ (by show s.size-BD ((i+1:Nat):Int)<s.size-BD (i:Int);omega)
theorem hex_t (K:Nat)(n:Int)(R:1048577<K):Tot (Q176.f K (n,())) λr=>r.1.1.size<=8:=by
 refine Tot.iter (step:=λrec a=>Q176.s0 K (n,()) rec a) (λa=>-1<=a.2/\a.2<=7/\a.1.length=7-a.2) (λa=>(a.2+1).toNat) ?_ K _ (by show BD 8<K;omega) ⟨by show (-1:Int)<=7;omega,by show (7:Int)<=7;omega,by show (0:Int)=7-7;omega⟩;rintro rec ⟨z,i⟩ ⟨M,H,I⟩ u;simp only at M H I u ⊢;simp only[Q176.s0];refine Tot.cnd (λh=>?_) λh=>?_
 ·have h:=of_decide_eq_true h;rw[aC (n:=4*i) (by omega) (by omega),aC (n:=i-1) (by omega) (by omega)];obtain⟨O,J⟩:=lz (a:=CC n (2 ^ min (BD (4*i)) 64)) (m:=15) (by omega);refine Tot.not (decide_eq_false (by omega)) (Tot.ix O (Int.lt_of_le_of_lt J (by decide)) λy _ _=>Tot.fit ?_ (by omega) (by simp only[BG,BM];omega));exact u _ ⟨by show -1<=i-1;omega,by show i-1<=7;omega,by show ((z++[_]).length:Int)=7-(i-1);rw[BP,CR];omega⟩ (by show BD (i-1+1)<BD (i+1);omega)
 ·have h:=of_decide_eq_false h;refine Tot.ret ?_;show (gH z).size<=8;rw[iS];omega
theorem oe (K:Nat)(w:ao)(I:(ao.table w).length<=1048576)(u:1048577<K):Tot (Q179.f K (w,())) λr=>r.1.1.size<=409/\(¬ fb w->r.1.1=ByteArray.mk #[]):=by
 simp only[Q179.f];refine Tot.bind (sI K w I u).tot λv M=>Tot.cnd (λ_=>Tot.ret ⟨by show (0:Nat)<=409;omega,λ_=>rfl⟩) λh=>?_
 have H:=M.1 (by simpa using h);exact Tot.bind (yH K w H u) λb O=>Tot.cat O (b:=1) (by decide) λz y=>Tot.bind (zV K _ (by omega) u) λs _=>Tot.bind (hex_t K _ u) λx J=>Tot.cat y J λz y=>Tot.ret ⟨y,λh=>absurd H h⟩
theorem vL (K:Nat)(s:ByteArray)(c:Int)(hs:s.size<=100000)(hK:1048577<K):Tot (Q164.f K (s,c,())) λr=>r.1.1.length<=s.size+1/\∀ p∈r.1.1,p.size<=s.size:=by
 have I:∀ i j:Nat,(s.extract i j).size<=s.size:=λi j=>by rw[Cf];omega
 refine Tot.iter (step:=λrec a=>Q164.s0 K (s,c,()) rec a) (λa=>0<=a.2.1/\a.2.1<=a.2.2/\a.2.2<=s.size/\a.1.length<=a.2.2/\∀ p∈a.1,p.size<=s.size) (λa=>s.size-a.2.2.toNat) ?_ K _ (by show s.size-BD 0<K;omega) ⟨by show (0:Int)<=0;omega,by show (0:Int)<=0;omega,by show (0:Int)<=_;omega,by show (0:Int)<=0;omega,λp O=>by cases O⟩;rintro rec ⟨u,from_,i⟩ ⟨z,J,X,Y,R⟩ M;simp only at z J X Y R M ⊢;simp only[Q164.s0];obtain⟨i,rfl⟩:=BF (Ce z J);have H:∀ x:ByteArray,x.size<=s.size->∀ p∈u++[x],p.size<=s.size:=λx Z p O=>by
  rcases B7.1 O with h|h
  ·exact R p h
  ·rw[B3.1 h];exact Z
 refine Tot.cnd (λh=>?_) λh=>?_
 ·have h:=of_decide_eq_true h;rw[ar i (by omega)];refine Tot.ix (Ce z J) (by rw[fI];exact h) λy _ _=>Tot.cnd (λ_=>Tot.must (by rw[decide_eq_true z,decide_eq_true J,decide_eq_true X];rfl) (Tot.fit (M _ ⟨?_,?_,?_,?_,H _ (I _ _)⟩ ?_) (by omega) (by simp only[BG,BM];omega))) λ_=>M _ ⟨z,?_,?_,?_,R⟩ ?_
  ·show (0:Int)<=((i+1:Nat):Int);omega
  ·show ((i+1:Nat):Int)<=((i+1:Nat):Int);omega
  ·show ((i+1:Nat):Int)<=s.size;omega
  ·show ((u++[_]).length:Int)<=((i+1:Nat):Int);rw[BP,CR];omega
  ·show s.size-BD ((i+1:Nat):Int)<s.size-BD (i:Int);omega
  ·show from_<=((i+1:Nat):Int);omega
  ·show ((i+1:Nat):Int)<=s.size;omega
  ·show (u.length:Int)<=((i+1:Nat):Int);omega
  ·show s.size-BD ((i+1:Nat):Int)<s.size-BD (i:Int);omega
 ·refine Tot.must (by rw[decide_eq_true z,decide_eq_true (by omega),decide_eq_true (CF _)];rfl) (Tot.fit (Tot.ret ⟨?_,H _ (I _ _)⟩) (by omega) (by simp only[BG,BM];omega));show (u++[_]).length<=_;rw[BP,CR];omega
theorem jS (K:Nat)(s:ByteArray)(Y:s.size<=100000)(R:1048577<K):Tot (Q166.f K (s,())) λ_=>True:=by
 simp only[Q166.f,Q166.pre];have r:((s.size:Int)<=6)->Tot (Q166.l0 K (s,()) (0,0)) λ_=>True:=λX=>by
  refine Tot.iter (step:=λrec a=>Q166.s0 K (s,()) rec a) (λa=>0<=a.2/\a.2<=s.size) (λa=>s.size-a.2.toNat) ?_ K _ (by show s.size-BD 0<K;omega) ⟨by show (0:Int)<=0;omega,by show (0:Int)<=_;omega⟩;rintro rec ⟨z,i⟩ ⟨u,M⟩ J;simp only at u M J ⊢;simp only[Q166.s0];obtain⟨i,rfl⟩:=BF u;refine Tot.cnd (λh=>?_) λ_=>Tot.ret trivial
  have h:=of_decide_eq_true h;have I:((i:Nat):Int)<s.data.toList.length:=by rw[fI];exact h
  rw[ar i (by omega)];exact Tot.ix u I λy _ _=>Tot.cnd (λ_=>Tot.ret trivial) λ_=>Tot.ix u I λy _ _=>Tot.cnd (λ_=>Tot.ret trivial) λ_=>Tot.ix u I λy _ _=>J _ ⟨by show (0:Int)<=((i+1:Nat):Int);omega,by show ((i+1:Nat):Int)<=_;omega⟩ (by show s.size-BD ((i+1:Nat):Int)<s.size-BD (i:Int);omega)
 refine Tot.bind (cI K _ _ _).tot λv O=>Tot.cnd (λ_=>Tot.ret trivial) λh=>?_
 have H:=O.1 (by simpa using h);exact Tot.cnd (λh=>Tot.ix (by omega) (by rw[fI];have:=of_decide_eq_true h;omega) λy _ _=>Tot.cnd (λ_=>Tot.ret trivial) λ_=>r H.2) λ_=>r H.2
theorem uM (K:Nat)(s:ByteArray)(J:s.size<=100000)(H:1048577<K):Tot (Q167.f K (s,())) λ_=>True:=by
 simp only[Q167.f];refine Tot.cnd (λ_=>Tot.ret trivial) λh=>?_
 have h:=of_decide_eq_false h;have z:(0:Int)<s.data.toList.length:=by rw[fI];omega
 have r:Tot (bif decide ((0:Int)<=1)&&decide ((1:Int)<=(s.size:Int))&&decide ((s.size:Int)<=(s.size:Int)) then ((Q166.f K (s.extract (BD 1) (BD (s.size:Int)),())).bind λu=>bif decide (u.1.1<0) then (some (((-1),false,()),())) else (bif s.toList==(ByteArray.mk #[45,48]).toList then (some (((-1),false,()),())) else ((idx s.data.toList 0).bind λI=>bif (I.toNat:Int)==45 then (some ((wr .i64 (0-u.1.1),true,()),())) else (some ((u.1.1,true,()),()))))) else none) λ (_:(Int×Bool×Unit)×Unit)=>True :=
  Tot.must (by rw[decide_eq_true (by omega:(0:Int)<=1),decide_eq_true (by omega:(1:Int)<=s.size),decide_eq_true (CF _)];rfl) (Tot.bind (jS K _ (by rw[Cf];omega) H) λv _=>Tot.cnd (λ_=>Tot.ret trivial) λ_=>Tot.cnd (λ_=>Tot.ret trivial) λ_=>Tot.ix (by omega) z λy _ _=>Tot.cnd (λ_=>Tot.ret trivial) λ_=>Tot.ret trivial)
 exact Tot.ix (by omega) z λy _ _=>Tot.cnd (λ_=>Tot.ix (by omega) z λy _ _=>Tot.cnd (λ_=>Tot.ret trivial) λ_=>r) λ_=>r
theorem zW (K:Nat)(s:ByteArray)(hs:s.size<=100000)(I:1048577<K):Tot (Q169.f K (s,())) λ_=>True:=by
 simp only[Q169.f,Q169.pre];have H:∀ (Y:List ByteArray) (n1 n2:Int) (b:Bool),Y.length=3->Tot (Q169.l0 K (s,()) (Y,1,n1,n2,0,b)) λ_=>True:=λY n1 n2 b hx=>by
  refine Tot.iter (step:=λrec a=>Q169.s0 K (s,()) rec a) (λa=>a.1.length=3/\1<=a.2.1/\a.2.1<=5) (λa=>5-a.2.1.toNat) ?_ K _ (by show 5-BD 1<K;omega) ⟨hx,by show (1:Int)<=1;omega,by show (1:Int)<=5;omega⟩;rintro rec ⟨ys,i,m1,m2,m3,m4⟩ ⟨h0,h1,h2⟩ Z;simp only at h0 h1 h2 Z ⊢;simp only[Q169.s0];refine Tot.cnd (λh=>?_) λ_=>Tot.bind (oK K _).tot λ_ _=>Tot.ret trivial
  have h:=of_decide_eq_true h;rw[aC (n:=i+1) (by omega) (by omega)];have go:∀ m:Int,Tot (rec (ys,i+1,m1,m2,m,m4)) λ_=>True:=λm=>Z _ ⟨h0,by show 1<=i+1;omega,by show i+1<=5;omega⟩ (by show 5-BD (i+1)<5-BD i;omega)
  exact Tot.bind (tf K i (by omega) h) λv _=>Tot.ix2 (by omega) (by omega) λy _ _=>Tot.cnd (λ_=>go _) λ_=>go _
 have u:∀ (z:ByteArray) (b:Bool),z.size<=s.size->Tot ((Q164.f K (z,58,())).bind λr=>bif (BB r.1.1:Int) != 3 then (some (((0,(0,(0,b))),false,()),())) else ((idx r.1.1 0).bind λ_=>(idx r.1.1 (BD 0:Nat)).bind λJ=>(Q166.f K (J,())).bind λR=>(idx r.1.1 1).bind λ_=>(idx r.1.1 (BD 1:Nat)).bind λM=>(Q166.f K (M,())).bind λO=>Q169.l0 K (s,()) (r.1.1,1,R.1.1,O.1.1,0,b))) λ_=>True:=λz b hz =>
  Tot.bind (vL K z 58 (by omega) I) λv ⟨_,hp⟩=>Tot.cnd (λ_=>Tot.ret trivial) λh=>by
   have h3:(v.1.1.length:Int)=3:=by simpa using h
   exact Tot.ix2 (by omega) (by omega) λy X _=>Tot.bind (jS K y (by have:=hp y X;omega) I) λ_ _=>Tot.ix2 (by omega) (by omega) λy X _=>Tot.bind (jS K y (by have:=hp y X;omega) I) λ_ _=>H _ _ _ _ (by omega)
 refine Tot.cnd (λh=>?_) λ_=>u s false (BR _)
 have h:=of_decide_eq_true h;rw[aC (n:=(s.size:Int)-1) (by omega) (by omega)];exact Tot.ix (by omega) (by rw[fI];omega) λy _ _=>Tot.cnd (λ_=>Tot.must (by simp only[CG,decide_eq_true_eq];omega) (u _ true (by rw[Cf];omega))) λ_=>u s false (BR _)
theorem zX (K:Nat)(s:ByteArray)(O:s.size<=100000)(I:1048577<K):Tot (Q170.f K (s,())) λr=>r.1.1.length<=100001:=by
 simp only[Q170.f,Q170.pre];refine Tot.cnd (λ_=>Tot.ret (by show (0:Nat)<=_;omega)) λ_=>Tot.bind (vL K s 44 O I) ?_
 rintro⟨⟨xs,⟨⟩⟩,⟨⟩⟩ ⟨hl,hp⟩;dsimp only at hl hp ⊢;refine Tot.iter (step:=λrec a=>Q170.s0 K (s,()) rec a) (λa=>a.2.1=xs/\0<=a.2.2/\a.2.2<=xs.length/\(a.1.length:Int)<=a.2.2) (λa=>xs.length-a.2.2.toNat) ?_ K _ (by show xs.length-BD 0<K;omega) ⟨rfl,by show (0:Int)<=0;omega,by show (0:Int)<=_;omega,by show (0:Int)<=0;omega⟩;rintro rec ⟨u,J,i⟩ ⟨rfl,z,X,M⟩ H;simp only at z X M hl hp H ⊢;simp only[Q170.s0];obtain⟨i,rfl⟩:=BF z;refine Tot.cnd (λh=>?_) λ_=>Tot.ret (by show u.length<=_;omega)
 have h:=of_decide_eq_true h;rw[ar i (by omega)];exact Tot.ix2 z h λy R _=>Tot.bind (zW K y (by have:=hp y R;omega) I) λv _=>Tot.cnd (λ_=>Tot.ret (by show (0:Nat)<=_;omega)) λ_=>Tot.fit (H _ ⟨rfl,by show (0:Int)<=((i+1:Nat):Int);omega,by show ((i+1:Nat):Int)<=_;omega,by show ((u++[_]).length:Int)<=((i+1:Nat):Int);rw[BP,CR];omega⟩ (by show J.length-BD ((i+1:Nat):Int)<J.length-BD (i:Int);omega)) (by omega) (by simp only[BG,BM];omega)
theorem zY (K:Nat)(s:ByteArray)(z:s.size<=100000)(u:1048577<K):Tot (Q173.f K (s,())) λr=>r.1.1.length<=100001:=by
 simp only[Q173.f];exact Tot.bind (zX K s z u) λv y=>Tot.cnd (λ_=>Tot.ret (by show (0:Nat)<=_;omega)) λ_=>Tot.bind (od K _ (by omega) u) λx _=>Tot.cnd (λ_=>Tot.ret (by show (0:Nat)<=_;omega)) λ_=>Tot.ret y
theorem pM (K:Nat)(s:ByteArray)(R:s.size<=100000)(H:1048577<K):Tot (Q180.f K (s,())) λr=>r.1.2.1=true->fb r.1.1:=by
 simp only[Q180.f,Q180.pre];refine Tot.bind (vL K s 32 R H) ?_;rintro⟨⟨xs,⟨⟩⟩,⟨⟩⟩ ⟨hl,hp⟩;dsimp only at hl hp ⊢;refine Tot.cnd (λ_=>Tot.ret λh=>by cases h) λ_=>Tot.cnd (λ_=>Tot.ret λh=>by cases h) λh=>?_
 have M:(xs.length:Int)=12:=by simpa using h
 have u:∀ y∈xs,y.size<=100000:=λy z=>By (hp y z) R
 have I:∀ p:Int,Tot (Q180.l0 K (s,()) (xs,1,p,0)) λr=>r.1.2.1=true->fb r.1.1:=λp=>by
  refine Tot.iter (step:=λrec a=>Q180.s0 K (s,()) rec a) (λa=>a.1=xs/\1<=a.2.1/\a.2.1<=7) (λa=>7-a.2.1.toNat) ?_ K _ (by show 7-BD 1<K;omega) ⟨rfl,by show (1:Int)<=1;omega,by show (1:Int)<=7;omega⟩;rintro rec ⟨ys,i,p,k⟩ ⟨rfl,Y,h2⟩ O;simp only at Y h2 hl M u O ⊢;simp only[Q180.s0];refine Tot.cnd (λh=>?_) λ_=>?_
  ·have h:=of_decide_eq_true h;rw[aC (n:=i+1) (by omega) (by omega)];have X:∀ m:Int,Tot (rec (ys,i+1,p,m)) λr=>r.1.2.1=true->fb r.1.1:=λm=>O _ ⟨rfl,by show 1<=i+1;omega,by show i+1<=7;omega⟩ (by show 7-BD (i+1)<7-BD i;omega)
   exact Tot.bind (tg K i (by omega) h) λv _=>Tot.ix2 (by omega) (by omega) λy _ _=>Tot.cnd (λ_=>X _) λ_=>X _
  ·refine Tot.ix2 (by omega) (by omega) λy z _=>Tot.bind (jS K y (u y z) H) λ_ _=>Tot.ix2 (by omega) (by omega) λy z _=>Tot.bind (jS K y (u y z) H) λ_ _=>Tot.ix2 (by omega) (by omega) λy z _=>Tot.bind (jS K y (u y z) H) λ_ _=>Tot.ix2 (by omega) (by omega) λy z _=>Tot.bind (jS K y (u y z) H) λ_ _ =>
    Tot.ix2 (by omega) (by omega) λy z _=>Tot.bind (uM K y (u y z) H) λ_ _=>Tot.ix2 (by omega) (by omega) λy z _=>Tot.bind (uM K y (u y z) H) λ_ _=>Tot.ix2 (by omega) (by omega) λy z _=>Tot.bind (zY K y (u y z) H) λt ht=>Tot.ix2 (by omega) (by omega) λy z _=>Tot.bind (jS K y (u y z) H) λ_ _=>Tot.ix2 (by omega) (by omega) λy z _=>Tot.bind (jS K y (u y z) H) λ_ _ =>
    Tot.cnd (λ_=>Tot.ret λh=>by cases h) λ_=>Tot.cnd (λ_=>Tot.ret λh=>by cases h) λ_=>Tot.cnd (λ_=>Tot.ret λh=>by cases h) λ_=>Tot.bind (oe K _ (by show t.1.1.length<=1048576;omega) H) λx ⟨_,hx⟩=>Tot.cnd (λ_=>Tot.ret λh=>by cases h) λJ=>Tot.ret λ_=>?_
   refine Classical.byContradiction λhn=>?_
   rw[hx hn]at J;have Z:(ByteArray.mk #[]).toList=s.toList:=by
    have:((ByteArray.mk #[]).toList != s.toList)=false:=J;simpa using this
   rw[C3,C3]at Z;have h0:=congrArg BB Z;rw[fI,fI]at h0;have Y:(ByteArray.mk #[]).size=0:=rfl;omega
 exact Tot.ix2 (by omega) (by omega) λy _ _=>Tot.cnd (λ_=>I 2) λ_=>I 1
def Rt (v r:Nat):Prop:=r*r<=v/\v<(r+1)*(r+1)
theorem AS (K:Nat)(v:Nat)(hv:v<1500000001*1500000001)(hK:1048577<K):∃ r,Rt v r/\Q152.f K ((v:Int),())=some (((r:Int),()),()):=by
 have H:∀ (e k l h:Nat),h-l<2 ^ e->e<k->l<=h->h<=1500000000->l*l<=v->v<(h+1)*(h+1)->∃ r,Rt v r/\ae (λrec a=>Q152.s0 K ((v:Int),()) rec a) k ((l:Int),(h:Int))=some (((r:Int),()),()):=by
  intro e;induction e with
  |zero =>
   intro k l h R hk z Y u y;obtain⟨k,rfl⟩:∃ I,k=I+1:=⟨k-1,by omega⟩;have:l=h:=by omega
   subst this;refine⟨l,⟨u,y⟩,?_⟩;show Q152.s0 K _ _ _=_;simp only[Q152.s0];rw[decide_eq_false (by omega)];rfl
  |succ e J =>
   intro k l h R hk z Y u y;obtain⟨k,rfl⟩:∃ I,k=I+1:=⟨k-1,by omega⟩;show ∃ r,Rt v r/\Q152.s0 K _ _ _=_;simp only[Q152.s0];by_cases hl:l<h
   ·rw[decide_eq_true (show (l:Int)<(h:Int) by omega)];have e1:wr .i64 ((l:Int)+(h:Int))=(l:Int)+h:=aC (by omega) (by omega);have e2:wr .i64 ((l:Int)+(h:Int)+1)=((l+h+1:Nat):Int):=(aC (by omega) (by omega)).trans (by omega);have Z:Cd ((l+h+1:Nat):Int) 2=(((l+h+1) / 2:Nat):Int):=by
     rw[B6 (by omega)];omega
    rw[e1,e2,Z];have hm:l<(l+h+1) / 2/\(l+h+1) / 2<=h:=by omega
    have X:h-(l+h+1) / 2<2 ^ e/\(l+h+1) / 2-1-l<2 ^ e:=by
     rw[Nat.pow_succ]at R;omega
    generalize (l+h+1) / 2=m at *;have e4:wr .i64 (m:Int)=m:=aC (by omega) (by omega);have e5:Cd (v:Int) (m:Int)=((v / m:Nat):Int):=by
     rw[B6 (by omega)];rfl
    have a1:v / m<=v:=Nat.div_le_self _ _;have O:m<=v / m<->m*m<=v:=Nat.le_div_iff_mul_le (by omega);generalize v / m=q at *;have e6:wr .i64 (q:Int)=(q:Int):=aC (by omega) (by omega);rw[e4,e5,e6,decide_eq_false (show ¬ (m:Int)=0 by omega)];simp only[cond_true,cond_false];by_cases M:m<=q
    ·rw[decide_eq_true (by omega)];exact J k m h X.1 (by omega) (by omega) Y (O.1 M) y
    ·rw[decide_eq_false (by omega)];have a0:¬ m*m<=v:=λh4=>M (O.2 h4)
     have e7:wr .i64 ((m:Int)-1)=((m-1:Nat):Int):=eP m (by omega) (by omega);rw[e7];exact J k l (m-1) X.2 (by omega) (by omega) (by omega) u (by rw[show m-1+1=m by omega];omega)
   ·have:l=h:=by omega
    subst this;refine⟨l,⟨u,y⟩,?_⟩;rw[decide_eq_false (by omega)];rfl
 exact H 31 K 0 1500000000 (by decide) (by omega) (by omega) (by omega) (by omega) hv
def iT (x:Int):Int:=if x< -1000000000 then -1000000000 else if x>1000000000 then 1000000000 else x
theorem qu (K:Nat)(x:Int):Q151.f K (x,())=some ((iT x,()),()):=by
 simp only[Q151.f,Q148.f,iT];by_cases h:x< -1000000000
 ·rw[decide_eq_true h,if_pos h];rfl
 ·rw[decide_eq_false h,if_neg h];by_cases r:x>1000000000
  ·rw[decide_eq_true r,if_pos r];rfl
  ·rw[decide_eq_false r,if_neg r];rfl
theorem th (x:Int):-1000000000<=iT x/\iT x<=1000000000:=by
 unfold iT;split
 ·omega
 ·split <;> omega
theorem zm {a:Int}(h:-1000000000<=a/\a<=1000000000):0<=a*a/\a*a<=1000000000000000000:=by
 have e:∃ b:Nat,b<=1000000000/\a*a=((b*b:Nat):Int):=by
  refine⟨a.natAbs,by omega,?_⟩;exact (Int.natAbs_mul_self).symm
 obtain⟨b,r,u⟩:=e;have:=Cc r r;omega
theorem xm (K:Nat)(x y:Int)(z:1048577<K):Tot (Q153.f K (x,y,())) λ_=>True:=by
 simp only[Q153.f];rw[qu K x,qu K y];simp only[BA];have M:=zm (th x);have O:=zm (th y);generalize iT x*iT x=a at *;generalize iT y*iT y=b at *;have I:wr .i64 a=a:=aC (by omega) (by omega);have u:wr .i64 b=b:=aC (by omega) (by omega);have J:wr .i64 (a+b)=(((a+b).toNat:Nat):Int):=(aC (by omega) (by omega)).trans (by omega);rw[I,u,J];obtain⟨r,_,H⟩:=AS K (a+b).toNat (by omega) z;rw[H];simp only[BA];rw[qu K r];exact⟨_,rfl,trivial⟩
theorem AT (K:Nat)(c d:dC)(r:1048577<K):Tot (Q154.f K (c,d,())) λ_=>True:=by
 simp only[Q154.f];exact Tot.bind (iA K c).tot λ_ _=>Tot.cnd (λ_=>Tot.ret trivial) λ_=>Tot.bind (iA K d).tot λ_ _=>Tot.cnd (λ_=>Tot.ret trivial) λ_=>Tot.bind (xm K _ _ r) λ_ _=>Tot.ret trivial
theorem kF (K:Nat)(n y u:Int)(h:y<=u):Tot (Q148.f K (n,y,u,())) λr=>InP r.1.1 y u:=by
 simp only[Q148.f];exact Tot.cnd (λ_=>Tot.ret ⟨CF _,h⟩) λz=>Tot.cnd (λ_=>Tot.ret ⟨h,CF _⟩) λH=>Tot.ret ⟨Int.not_lt.1 (of_decide_eq_false z),Int.not_lt.1 (of_decide_eq_false H)⟩
theorem AU (K:Nat)(c b:dC)(t s:Int)(H:cJ c)(R:1048577<K):Tot (Q159.f K (c,b,t,s,())) λr=>cJ r.1.1:=by
 simp only[Q159.f];refine Tot.bind (iA K c).tot λv M=>Tot.cnd (λh=>?_) λ_=>Tot.bind (iA K b).tot λv M=>Tot.cnd (λ_=>Tot.ret H) λu=>Tot.bind (cI K _ _ _).tot λv' I=>Tot.cnd (λ_=>Tot.ret H) λy=>?_
 ·rw[M.2 H]at h;cases h
 have Z:=M.1 (by simpa using u);have ht:=I.1 (by simpa using y);obtain⟨_,_,_,⟨c1,c2⟩⟩:=H;obtain⟨_,_,_,⟨b1,b2⟩⟩:=Z;obtain⟨t1,t2⟩:=ht;have X:¬ wr .i64 (c.2.2.2+b.2.2.2)=0:=by rw[aC (by omega) (by omega)];omega
 have z:∀ w:Int,Tot (Q158.f K (c,b,w,t,())) λr=>InP r.1.1 1 1500:=λw=>by
  simp only[Q158.f,Q157.f];refine Tot.bind (P:=λ_=>True) (Tot.cnd (λ_=>Tot.ret trivial) λ_=>Tot.ret trivial) λ_ _=>Tot.not (decide_eq_false (show ¬ t=0 by omega)) (Tot.bind (kF K _ _ _ (by omega)) λ_ _=>Tot.not (decide_eq_false X) (Tot.bind (kF K _ _ _ (by omega)) λ_ h=>Tot.ret h))
 refine Tot.bind (AT K c b R) λ_ _=>?_
 simp only[Q155.f];refine Tot.bind (P:=λ_=>True) (Tot.not (decide_eq_false X) (Tot.ret trivial)) λ_ _=>Tot.bind (xm K _ _ R) λn _=>Tot.cnd (λ_=>?_) λh=>?_
 ·simp only[Q156.f];refine Tot.bind (P:=λ_=>True) (Tot.cnd (λ_=>Tot.ret trivial) λ_=>Tot.cnd (λ_=>Tot.ret trivial) λ_=>Tot.cnd (λ_=>Tot.ret trivial) λ_=>Tot.ret trivial) λ_ _=>Tot.cnd (λ_=>?_) λ_=>?_ <;>
  exact Tot.bind (kF K _ _ _ (by omega)) λ_ J=>Tot.bind (kF K _ _ _ (by omega)) λ_ u=>Tot.bind (kF K _ _ _ (by omega)) λ_ y=>Tot.bind (z _) λ_ O=>Tot.ret ⟨J,u,y,O⟩
 ·have Y:¬ n.1.1=0:=by simpa using h
  refine Tot.cnd (λ_=>?_) λ_=>?_ <;>
  exact Tot.not (decide_eq_false Y) (Tot.bind (kF K _ _ _ (by omega)) λ_ J=>Tot.not (decide_eq_false Y) (Tot.bind (kF K _ _ _ (by omega)) λ_ u=>Tot.bind (kF K _ _ _ (by omega)) λ_ y=>Tot.bind (z _) λ_ O=>Tot.ret ⟨J,u,y,O⟩))
noncomputable def pN (K:Nat)(c b:dC)(t s:Int):dC:=((Q159.f K (c,b,t,s,())).getD (((0,0,0,0),()),())).1.1
noncomputable def sd (K:Nat)(l:List Int):Int:=((Q160.f K (l,())).getD ((0,()),())).1.1
theorem xn (K:Nat)(c b:dC)(t s:Int)(u:cJ c)(r:1048577<K):Q159.f K (c,b,t,s,())=some ((pN K c b t s,()),())/\cJ (pN K c b t s):=by
 obtain⟨⟨⟨v,⟨⟩⟩,⟨⟩⟩,e,h⟩:=AU K c b t s u r;unfold pN;rw[e];exact⟨rfl,h⟩
theorem med_t (K:Nat)(l:List Int)(hl:l.length<=100)(hK:1048577<K):Tot (Q160.f K (l,())) λ_=>True:=by
 simp only[Q160.f,Q160.pre];have H:∀ I:List Int,I.length<=100->Tot (Q160.l0 K (l,()) (I,[],0)) λ_=>True:=λI hx=>by
  refine Tot.iter (step:=λrec a=>Q160.s0 K (l,()) (Q160.l1 K (l,()) rec) rec a) (λa=>a.1=I/\0<=a.2.2/\a.2.2<=I.length/\(a.2.1.length:Int)=a.2.2) (λa=>I.length-a.2.2.toNat) ?_ K _ (by show I.length-BD 0<K;omega) ⟨rfl,by show (0:Int)<=0;omega,by show (0:Int)<=_;omega,rfl⟩;rintro rec ⟨ys,u,i⟩ ⟨rfl,X,h1,h2⟩ Y;simp only at X h1 h2 hx Y ⊢;simp only[Q160.s0];obtain⟨i,rfl⟩:=BF X;refine Tot.cnd (λh=>?_) λ_=>Tot.cnd (λ_=>Tot.ret trivial) λh=>?_
  ·have J:=of_decide_eq_true h;clear h;refine Tot.iter (step:=λz a=>Q160.s1 K (l,()) rec z a) (λa=>a.1=ys/\a.2.1=u/\a.2.2.1=i/\0<=a.2.2.2/\a.2.2.2<=u.length) (λa=>u.length-a.2.2.2.toNat) ?_ K _ (by show u.length-BD 0<K;omega) ⟨rfl,rfl,rfl,by show (0:Int)<=0;omega,by show (0:Int)<=_;omega⟩;rintro z ⟨M,r,j,k⟩ ⟨rfl,rfl,e,k0,k1⟩ R;simp only at e k0 k1 J h1 h2 hx R Y ⊢;subst e;simp only[Q160.s1];obtain⟨k,rfl⟩:=BF k0;have Z:∀ y:Int,Tot (rec (M,(([]++((r.take (BD (k:Int))).drop (BD 0)))++([y]))++((r.take (BD (BB r:Int))).drop (BD (k:Int))),wr .i64 ((i:Int)+1))) λ_=>True:=λy=>by
    rw[ar i (by omega)];refine Y _ ⟨rfl,by show (0:Int)<=((i+1:Nat):Int);omega,by show ((i+1:Nat):Int)<=_;omega,?_⟩ (by show M.length-BD ((i+1:Nat):Int)<M.length-BD (i:Int);omega);simp only[BE,CT,BZ,BO,BP,BW,B4,BG,BM];omega
   have O:Tot (bif decide (0<=0)&&decide ((0:Int)<=(k:Int))&&decide ((k:Int)<=(BB r:Int))&&true then (bif decide ((BB ([]:List (Ty.den (.int .i64)))+BB ((r.take (BD (k:Int))).drop (BD 0)))*8<=am) then ((idx M (i:Int)).bind λy3=>bif decide ((BB ([]++((r.take (BD (k:Int))).drop (BD 0)))+BB ([y3]))*8<=am) then (bif decide ((0:Int)<=(k:Int))&&decide ((k:Int)<=(BB r:Int))&&decide ((BB r:Int)<=(BB r:Int))&&true then (bif decide ((BB (([]++((r.take (BD (k:Int))).drop (BD 0)))++([y3]))+BB ((r.take (BD (BB r:Int))).drop (BD (k:Int))))*8<=am) then (rec (M,(([]++((r.take (BD (k:Int))).drop (BD 0)))++([y3]))++((r.take (BD (BB r:Int))).drop (BD (k:Int))),wr .i64 ((i:Int)+1))) else none) else none) else none) else none) else none) λ_=>True:=by
    refine Tot.must (by simp only[CG,decide_eq_true_eq,Cj];omega) (Tot.fit (Tot.ix X J λy _ _=>Tot.fit (Tot.must (by simp only[CG,decide_eq_true_eq,Cj];omega) (Tot.fit (Z y) (by omega) ?_)) (by omega) ?_) (by omega) ?_) <;>
    simp only[BE,CT,BZ,BO,BP,BW,B4,BG,BM] <;> omega
   refine Tot.cnd (λh4=>?_) λ_=>O
   have h4:=of_decide_eq_true h4;refine Tot.ix k0 h4 λy1 _ _=>Tot.ix X J λy2 _ _=>Tot.cnd (λ_=>?_) λ_=>O
   rw[ar k (by omega)];exact R _ ⟨rfl,rfl,rfl,by show (0:Int)<=((k+1:Nat):Int);omega,by show ((k+1:Nat):Int)<=_;omega⟩ (by show r.length-BD ((k+1:Nat):Int)<r.length-BD (k:Int);omega)
  ·have h:¬ (u.length:Int)=0:=by simpa using h
   rw[aC (n:=(u.length:Int)-1) (by omega) (by omega)];have e:Cd ((u.length:Int)-1) 2=((u.length:Int)-1) / 2:=by rw[B6 (by omega)]
   rw[e,aC (by omega) (by omega)];exact Tot.ix (by omega) (by omega) λy _ _=>Tot.ret trivial
 refine Tot.cnd (λh=>?_) λ_=>H l hl
 have h:=of_decide_eq_true h;rw[aC (n:=(l.length:Int)-3) (by omega) (by omega)];exact Tot.must (by simp only[CG,decide_eq_true_eq,Cj];omega) (H _ (by simp only[B4,BW];omega))
theorem med_s (K:Nat)(l:List Int)(u:l.length<=100)(r:1048577<K):Q160.f K (l,())=some ((sd K l,()),()):=by
 obtain⟨⟨⟨v,⟨⟩⟩,⟨⟩⟩,e,_⟩:=med_t K l u r;unfold sd;rw[e];rfl
theorem rh {α A R:Type}(k:α->Int)(x:α)(t:List α)(hA:Asc k t)(Z S1:List α->Nat->A)(I:List α->Option R){step:(A->Option R)->A->Option R}
  (h0:∀ (rec:A->Option R) (r:List α) (i:Nat) (M:i<t.length),r.length=i->(∀ y∈t.take i,k y<k x)->step rec (Z r i)=if k t[i]<k x then rec (Z (r++[t[i]]) (i+1)) else if k t[i]=k x then rec (S1 (r++[x]) (i+1)) else rec (S1 (r++[x]++[t[i]]) (i+1)))
  (h1:∀ (rec:A->Option R) (r:List α) (i:Nat) (M:i<t.length),r.length<=i+1->k x<k t[i]->step rec (S1 r i)=rec (S1 (r++[t[i]]) (i+1)))
  (e0:∀ (rec:A->Option R) (r:List α),r.length=t.length->(∀ y∈t,k y<k x)->step rec (Z r t.length)=I (r++[x]))
  (e1:∀ (rec:A->Option R) (r:List α),r.length<=t.length+1->step rec (S1 r t.length)=I r) {K:Nat} (Y:t.length<K):ae step K (Z [] 0)=I (bi k x t):=by
 have r1:∀ (n i K:Nat) (r:List α),i+n=t.length->n<K->r.length<=i+1->(∀ y∈t.drop i,k x<k y)->ae step K (S1 r i)=I (r++t.drop i):=by
  intro n;induction n with
  |zero =>
   intro i K r M Y O _;obtain⟨K,rfl⟩:∃ X,K=X+1:=⟨K-1,by omega⟩;have:i=t.length:=by omega
   subst this;show step (ae step K) _=_;rw[e1 _ _ O,Ci,BN]
  |succ n ih =>
   intro i K r M Y O hg;obtain⟨K,rfl⟩:∃ X,K=X+1:=⟨K-1,by omega⟩;have u:i<t.length:=by omega
   rw[BL u]at hg;show step (ae step K) _=_;rw[h1 _ _ _ u O (hg _ (.head _)),ih (i+1) K _ (by omega) (by omega) (by simp;omega) (λy z=>hg y (.tail _ z)),BL u];simp
 have H:∀ i (M:i<t.length),∀ y∈t.drop (i+1),k t[i]<k y:=λi M y z=>by
  have:=List.Pairwise.drop (i:=i) hA;rw[BL M]at this;exact (BQ.1 this).1 y z
 have r0:∀ (n i K:Nat) (r:List α),i+n=t.length->n<K->r=t.take i->(∀ y∈t.take i,k y<k x)->ae step K (Z r i)=I (bi k x t):=by
  intro n;induction n with
  |zero =>
   intro i K r M Y O J;obtain⟨K,rfl⟩:∃ X,K=X+1:=⟨K-1,by omega⟩;have:i=t.length:=by omega
   subst this;rw[CN]at O J;subst O;show step (ae step K) _=_;rw[e0 _ _ rfl J];unfold bi;rw[BT.2 (by simpa using J),BX.2 (λy z=>by have:=J y z;simp;omega)]
  |succ n ih =>
   intro i K r M Y O J;obtain⟨K,rfl⟩:∃ X,K=X+1:=⟨K-1,by omega⟩;have u:i<t.length:=by omega
   subst O;have a1:(t.take i).length=i:=by rw[BW];omega
   show step (ae step K) _=_;rw[h0 _ _ _ u a1 J];have a0:k x<=k t[i]->bi k x t=t.take i++x::(t.drop i).filter (λy=>decide (k x<k y)):=λhc=>by
    unfold bi;conv=>lhs;rw[<- Cg i t]
    rw[B9,B9,BT.2 (by simpa using J),(BX (l:=t.take i)).2 (λy z=>by have:=J y z;simp;omega),BO];rw[BL u,BV,if_neg (by simp;omega),BX.2 (λy z=>by have:=H i u y z;simp;omega),BN]
   by_cases hc:k t[i]<k x
   ·rw[if_pos hc];refine ih (i+1) K _ (by omega) (by omega) (by rw[C8,BK u];rfl) λy z=>?_
    rw[C8,BK u]at z;rcases B7.1 z with z|z
    ·exact J y z
    ·simp at z;rw[z];exact hc
   ·rw[if_neg hc,a0 (by omega),BL u];by_cases he:k t[i]=k x
    ·rw[if_pos he,r1 n (i+1) K _ (by omega) (by omega) (by simp;omega) (λy z=>by have:=H i u y z;omega),BV,if_neg (by simp;omega),BT.2 (λy z=>by have:=H i u y z;simp;omega)];simp
    ·rw[if_neg he,r1 n (i+1) K _ (by omega) (by omega) (by simp;omega) (λy z=>by have:=H i u y z;omega),BV,if_pos (by simp;omega),BT.2 (λy z=>by have:=H i u y z;simp;omega)];simp
 exact r0 t.length 0 K [] (by omega) Y rfl (by simp)
theorem xo {t:List af}{f:af}(h:∀ g∈t,g.1<f.1):(bS t f).1=t++[f]:=by
 rw[ii (λg u e=>by have:=h g u;omega)];unfold bi;rw[BT.2 (by simpa using h),BX.2 (λy r=>by have:=h y r;simp;omega)]
theorem pO:∀ {fs t:List af},Asc (λf:af=>f.1) fs->(∀ g∈t,∀ f∈fs,g.1<f.1)->eX t fs=t++fs
 |[],t,_,_=>by simp[eX]
 |f::fs,t,u,h=>by
  show eX (bS t f).1 fs=_;rw[xo (λg r=>h g r f (by simp)),pO (BQ.1 u).2 ?_]
  ·simp
  ·intro g r e y;rcases B7.1 r with r|r
   ·exact h g r e (by simp[y])
   ·rw[B3.1 r];exact (BQ.1 u).1 e y
theorem vM {fs:List af}(h:ax fs):eX [] fs=fs:=by
 rw[pO h.2 (by simp)];rfl
theorem zZ (K:Nat)(a b:List af)(r:ax a)(u:ax b)(y:1048577<K):Q139.f K (a,b,())=some ((eX a b,()),()):=by
 simp only[Q139.f,Q139.pre];obtain⟨R,M,O⟩:=gl K a (bZ r) y;obtain⟨X,J,H⟩:=gl K b (bZ u) y;have:=bZ r;have:=bZ u;rw[M,J,O.2 r,H.2 u];simp only[BA,BI,cond_false];rw[szb _ _ _ (by omega) (by show (BB ([]:List af))+a.length<=_;simp;omega)];simp only[cond_true,BO];refine oa a b r u.1 (step:=λrec x=>Q139.s0 K (a,b,()) rec x) (λt=>some ((t,()),())) ?_ ?_ (by omega)
 ·intro rec t i I z;simp only[Q139.s0];rw[bD (by omega:(i:Int)<(BB b:Int)),ag I,ar i (by omega)];simp only[cond_true,BA];rw[vE K t _ (bZ z) z.2 y];rfl
 ·intro rec t;simp only[Q139.s0,aU];rfl
theorem oU {u:Int}{l:List b8}(h:da u l)(s:Int):ax (eG l s):=by
 rcases qT (l:=l) (s:=s) with e|⟨x,r,_,e⟩ <;> rw[e]
 ·exact⟨by simp,List.Pairwise.nil⟩
 ·exact (h.1 x r).2.2.2.1
theorem olen {u:Int}{l:List b8}(h:da u l):l.length<=1048576:=By (iO h.2 λx r=>⟨(h.1 x r).1.1,Ce (h.1 x r).1.2 (by decide)⟩) (by decide)
theorem xp (K:Nat)(n:aa)(s:Int)(t:List af)(h:da n.1 (aa.others n))(r:ax t)(y:1048577<K):Q140.f K (n,s,t,())=some ((eX (eG (aa.others n) s) t,()),()):=by
 have z:=olen h;refine pz (step:=λrec a=>Q140.s0 K (n,s,t,()) rec a) (aa.others n) s (λl=>some ((eX l t,()),())) ?_ ?_ (aa.others n).length 0 K (by omega) (by omega)
 ·intro rec i u;simp only[Q140.s0];rw[bD (by omega:(i:Int)<(BB (aa.others n):Int)),ag u,ar i (by omega)];simp only[cond_true,BA];cases (aa.others n)[i].1==s with
  |false=>rfl
  |true=>exact (congrArg (λo=>BS o _) (zZ K _ t (h.1 _ (BC u)).2.2.2.1 r y)).trans rfl
 ·intro rec;simp only[Q140.s0,aU,cond_false];rw[vM r];refine (congrArg (λb=>bif b then _ else _) (szb (BB ([]:List af)) t.length 32 (by omega) ?_)).trans rfl;have:=bZ r;simp;omega
theorem sum_s (K:Nat)(n:aa)(s:Int)(t:List af)(h:da n.1 (aa.others n))(R:1048577<K):Q141.f K (n,s,t,())=some ((mT n (bi (λx:b8=>x.1) (s,t) (aa.others n)),()),()):=by
 have X:=olen h;refine rh (step:=λrec a=>Q141.s0 K (n,s,t,()) rec a) (λx:b8=>x.1) (s,t) (aa.others n) h.2 (λr i=>(r,false,(i:Int))) (λr i=>(r,true,(i:Int))) (λo=>some ((mT n o,()),())) ?_ ?_ ?_ ?_ (by omega)
 ·intro rec r i H I _;simp only[Q141.s0,zcp4,zcp8];rw[bD (by omega:(i:Int)<(BB (aa.others n):Int)),ag H,ar i (by omega)];simp only[cond_true,BA,Bw];have u:=szb r.length 1 32 (by omega) (by omega);have O:=szb (r++[(s,t)]).length 1 32 (by omega) (by simp;omega);generalize (aa.others n)[i]=y at *;by_cases J:y.1<s
  ·rw[if_pos J,show decide (y.1>=s)=false from decide_eq_false (by omega),show (y.1 != s)=true by simp;omega];exact (congrArg (λb=>bif b then _ else _) u).trans rfl
  ·rw[if_neg J,show decide (y.1>=s)=true from decide_eq_true (by omega)];refine (congrArg (λb=>bif b then _ else _) u).trans ?_;by_cases z:y.1=s
   ·rw[if_pos z,show (y.1 != s)=false by simpa using z];rfl
   ·rw[if_neg z,show (y.1 != s)=true by simpa using z];exact (congrArg (λb=>bif b then _ else _) O).trans rfl
 ·intro rec r i H I M;simp only[Q141.s0,zcp4,zcp8];rw[bD (by omega:(i:Int)<(BB (aa.others n):Int)),ag H,ar i (by omega)];simp only[cond_true,BA,BI,cond_false];have u:=szb r.length 1 32 (by omega) (by omega);rw[show ((aa.others n)[i].1 != s)=true by simp;have:s<_:=M;omega];exact (congrArg (λb=>bif b then _ else _) u).trans rfl
 ·intro rec r I _;simp only[Q141.s0,zcp4,zcp8,aU,cond_false,Bw,cond_true];exact (congrArg (λb=>bif b then _ else _) (szb r.length 1 32 (by omega) (by omega))).trans rfl
 ·intro rec r I;simp only[Q141.s0,zcp4,zcp8,aU,cond_false,BI];rfl
theorem yJ (K:Nat)(a b:List af)(Y:a.length<=1048576)(X:1048577<K):Q142.f K (a,b,())=rb (decide (a≠b)):=by
 simp only[Q142.f,Q142.pre];by_cases I:a.length=b.length
 ·rw[show ((BB a:Int) != (BB b:Int))=false by simp;omega];have:=bX (step:=λrec x=>Q142.s0 K (a,b,()) rec x) a.length (λi=>(i:Int)) (λj=>∃ (h:j<a.length) (Z:j<b.length),a[j]≠b[j]) (rb false) (λ_=>rb true) ?_ ?_ a.length K 0 (by omega) (by omega)
  ·rcases this with ⟨J,u⟩|⟨j,_,J,⟨y,M,O⟩,_,u⟩
   ·refine (u:Q142.l0 K (a,b,()) 0=_).trans ?_;rw[decide_eq_false];rintro z;exact z (CX I λi y M=>CS.1 λR=>J i (B8 _) y ⟨y,M,R⟩)
   ·refine (u:Q142.l0 K (a,b,()) 0=_).trans ?_;rw[decide_eq_true];rintro rfl;exact O rfl
  ·intro rec i H;simp only[Q142.s0];rw[bD (by omega:(i:Int)<(BB a:Int)),ag H,ar i (by omega),ag (show i<b.length by omega)];simp only[cond_true,BA];rw[show Ty.eqv t2 a[i] (b[i]'(by omega))=decide (a[i]=b[i]'(by omega)) from kg _ _];by_cases r:a[i]=b[i]'(by omega)
   ·exact .inl ⟨λ⟨_,_,h⟩=>h r,by rw[decide_eq_true r];rfl⟩
   ·exact .inr ⟨⟨H,by omega,r⟩,by rw[decide_eq_false r];rfl⟩
  ·intro rec;simp only[Q142.s0,aU];rfl
 ·rw[show ((BB a:Int) != (BB b:Int))=true by simp;omega,decide_eq_true (show a≠b from λe=>I (by rw[e]))];rfl
end Go.Proofs.YtadlacffdemoiaaGreatEv
