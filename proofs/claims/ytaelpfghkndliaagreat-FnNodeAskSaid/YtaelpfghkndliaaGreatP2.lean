/- The marks that a law writes into what was answered, and the look whether they still stand. -/
import Derived.Test.YtaelpfghkndliaaGreatP1
import Derived.Test.YtaelpfghkndliaaGreatE0
import Derived.Laws.Strings
set_option linter.unusedVariables false
set_option linter.unusedSimpArgs false
open Bool renaming not_true->BI,not_false->Bs,true_and->B6,and_eq_true->CB,false_and->CH,eq_iff_iff->CJ,and_self->CK,and_true->Cf,false_or->Cm,true_or->Cq,and_false->Cv,or_true->DG
open ByteArray renaming size_extract->Ca
open Classical renaming not_not->CN
open Eq renaming trans->Cn
open Go.ByteArray renaming toList_eq->Cx
open Go.IntKind renaming wrap_i64->C9
open Int renaming toNat->BD,toNat_natCast->BE,eq_ofNat_of_zero_le->BF,tdiv_eq_ediv_of_nonneg->Bz,fdiv->B7,le_refl->CA,toNat_zero->CO,tmod->CR,tdiv->CY,le_trans->CZ,tmod_eq_emod_of_nonneg->Ci,le_of_lt->Cp,tmod_lt_of_pos->C0,tdiv_le_self->DA,tmod_nonneg->DD,tdiv_nonneg->DE
open List renaming length->BB,getElem_mem->BC,length_cons->BG,mem_filter->BH,getElem_of_mem->BJ,getElem?_eq_getElem->BK,drop_eq_getElem_cons->BL,length_nil->BM,append_nil->BN,nil_append->BO,length_append->BP,pairwise_cons->BQ,filter_eq_self->BT,length_map->BU,filter_cons->BV,length_take->BW,filter_eq_nil_iff->BY,mem_map->BZ,drop_zero->Br,reverse_reverse->Bt,pairwise_map->Bv,mem_singleton->Bw,length_drop->Bx,take_of_length_le->By,mem_append->B3,filter_append->B4,append_assoc->B8,mem_cons->B9,length_filter_le->CC,pairwise_iff_getElem->CD,pairwise_append->CE,take_succ_eq_append_getElem->CF,reverse_cons->CG,take_length->CI,getElem?_eq_none->CL,length_singleton->CM,replicate->CQ,ext_getElem->CS,mem_of_find?_eq_some->CT,length_take_le->CU,length_reverse->CV,getElem_take->CW,take_append_drop->Cb,length_replicate->Cc,drop_length->Cd,not_mem_nil->Ce,map_append->Cg,length_pos_iff->Ch,filter_congr->Ck,map_cons->Cl,pairwise_singleton->Co,find?_cons->Cr,find?_some->Cs,length_set->Ct,set_append_right->Cu,mem_of_mem_take->Cw,find?_eq_none->Cy,mem_cons_self->Cz,getElem_drop->C3,take_add_one->C4,perm_middle->C5,cons_append->C6,getElem_set->C7,mem_range->DF,map_nil->DH
open List.Pairwise renaming filter->CP
open Nat renaming le_refl->BR,zero_le->BX,le_trans->Bu,lt_or_eq_of_le->B5,mul_le_mul->CX,lt_trichotomy->Cj
open Option renaming bind_some->BA,bind->BS,getD_some->C8,map_some->DB
open Option.some renaming inj->DC
namespace Go.Proofs.YtaelpfghkndliaaGreatEv
open Go
theorem kS {α β R:Type}(t:List α)(p:α->Bool)(g:α->β)(n:Nat)(u:List β->Option R){step:(List β×Int->Option R)->List β×Int->Option R}
  (h:∀ (rec:List β×Int->Option R) (r:List β) (i:Nat) (M:i<t.length),r.length<=i->r.length<n->step rec (r,(i:Int))=rec (bif p t[i] then r++[g t[i]] else r,((i+1:Nat):Int)))
  (Z:∀ (rec:List β×Int->Option R) (r:List β) (i:Nat),i<t.length->r.length<=i->n<=r.length->step rec (r,(i:Int))=u r)
  (z:∀ (rec:List β×Int->Option R) (r:List β),r.length<=t.length->step rec (r,(t.length:Int))=u r) :
  ∀ (d i k:Nat) (r:List β),i+d=t.length->d<k->r.length<=i->r.length<=n->af step k (r,(i:Int))=u (r++(((t.drop i).filter p).map g).take (n-r.length)):=by
 intro d;induction d with
 |zero =>
  intro i k r M X H _;obtain⟨k,rfl⟩:∃ I,k=I+1:=⟨k-1,by omega⟩;have:i=t.length:=by omega
  subst this;show step (af step k) _=_;rw[z _ _ H];simp
 |succ d J =>
  intro i k r M X H Y;obtain⟨k,rfl⟩:∃ I,k=I+1:=⟨k-1,by omega⟩;have y:i<t.length:=by omega
  show step (af step k) _=_;by_cases O:r.length<n
  ·rw[h _ _ _ y H O,BL y,BV];cases hp:p t[i] with
   |true =>
    simp only[cond_true,if_true,Cl];rw[J (i+1) k _ (by omega) (by omega) (by simp;omega) (by simp;omega)];congr 1;obtain⟨m,hm⟩:∃ m,n-r.length=m+1:=⟨n-r.length-1,by omega⟩;rw[hm,List.take_succ_cons,B8];simp only[BP,BG,BM];rw[show n-(r.length+(0+1))=m by omega];rfl
   |false =>
    simp only[cond_false];rw[J (i+1) k _ (by omega) (by omega) (by omega) (by omega)];rfl
  ·rw[Z _ _ _ y H (by omega)];rw[show n-r.length=0 by omega];simp
theorem vu {α β R:Type}(t:List α)(p:α->Bool)(g:α->β)(u:List β->Option R){step:(List β×Int->Option R)->List β×Int->Option R}
  (h:∀ (rec:List β×Int->Option R) (r:List β) (i:Nat) (z:i<t.length),r.length<=i->step rec (r,(i:Int))=rec (bif p t[i] then r++[g t[i]] else r,((i+1:Nat):Int)))
  (y:∀ (rec:List β×Int->Option R) (r:List β),r.length<=t.length->step rec (r,(t.length:Int))=u r) {k:Nat} (I:t.length<k) :
  af step k ([],0)=u ((t.filter p).map g):=by
 have:=kS t p g (t.length+1) u (λrec r i z H _=>h rec r i z H) (λrec r i z H J=>by omega) y t.length 0 k [] (by omega) I (BR _) (by simp);refine this.trans ?_;congr 1;simp only[BO,BM,Br];exact By (by have:=CC p t;simp;omega)
theorem dY {e:Ty}{b:Nat}{xs:List e.den}(h:xs.length*b<=140737488355328):fJ e b xs=some ((xs,()),()):=by
 unfold fJ;rw[decide_eq_true (by simpa[ao]using h)];rfl
theorem AC {α β:Type}{xs r:List α}{b:Nat}{x y:β}(h:(xs.length+r.length)*b<=140737488355328):(bif decide ((BB xs+BB r)*b<=ao) then x else y)=x:=by
 rw[decide_eq_true (by simpa[ao]using h)];rfl
theorem zE (K:Nat)(xs:List Int)(n:Int)(I:xs.length<=1048576):Q128.f K (xs,n,())=some ((xs.take n.toNat,()),()):=by
 simp only[Q128.f,Q127.f,BA,Q8.f];obtain⟨c,u,y,z,r⟩:∃ c:Int,(bif decide (0<(bif decide ((xs.length:Int)<n) then (xs.length:Int) else n)) then bif decide ((xs.length:Int)<n) then (xs.length:Int) else n else 0)=c/\0<=c/\c<=xs.length/\xs.take c.toNat=xs.take n.toNat:=by
  by_cases h:(xs.length:Int)<n
  ·rw[decide_eq_true h];simp only[cond_true];by_cases r:0<(xs.length:Int)
   ·rw[decide_eq_true r];refine⟨_,rfl,by simp,by simp,?_⟩;simp only[cond_true];rw[By (by omega),By (by omega)]
   ·rw[decide_eq_false r];refine⟨_,rfl,by simp,by simp,?_⟩;have:xs=[]:=List.eq_nil_of_length_eq_zero (by omega);subst this;simp
  ·rw[decide_eq_false h];simp only[cond_false];by_cases r:0<n
   ·rw[decide_eq_true r];exact⟨_,rfl,by simp;omega,by simp;omega,rfl⟩
   ·rw[decide_eq_false r];refine⟨_,rfl,by simp,by simp,?_⟩;simp only[cond_false];rw[show n.toNat=0 by omega];rfl
 rw[u,decide_eq_true y,decide_eq_true z];simp only[CO,Br,decide_true,CK,cond_true];rw[dY (by
  have:=CU c.toNat xs;have H:(List.take c.toNat xs).length<=1048576:=by omega
  omega)]
 simp only[BA];rw[r];rfl
def mL (f:ah):Bool:=f.2.2.2&&f.2.2.1==1
def fG (t:List ah):List Int:=((t.filter mL).map (·.1)).take 2
theorem uH (K:Nat)(t:List ah)(I:t.length<=1048576)(J:1048577<K):Q194.f K (t,2,())=some ((fG t,()),()):=by
 have:=kS (step:=λrec a=>Q194.s0 K (t,2,()) rec a) t mL (λf=>f.1) 2 (λy=>some ((y,()),())) ?_ ?_ ?_ t.length 0 K [] (by omega) (by omega) (BR _) (by simp)
 ·exact this
 ·intro rec r i u H z;simp only[Q194.s0];rw[bo (by omega:(i:Int)<(BB t:Int)),ag u,au i (by omega),decide_eq_true (by omega:(BB r:Int)<2)];simp only[cond_true,BA,mL];cases t[i].2.2.2 with
  |true =>
   simp only[cond_true,B6];cases t[i].2.2.1==1 with
   |true=>simp only[cond_true];rw[AC (by simp;omega)]
   |false=>rfl
  |false=>rfl
 ·intro rec r i u H z;simp only[Q194.s0];rw[bo (by omega:(i:Int)<(BB t:Int)),decide_eq_false (by omega:¬ (BB r:Int)<2)];rfl
 ·intro rec r _;simp only[Q194.s0,aS];rfl
theorem wR (t:List ah):(fG t).length<=2:=by
 unfold fG;exact CU _ _
def eG (l:List bZ)(s:Int):List ah:=((l.find? λx=>x.1==s).map (·.2)).getD []
theorem pD {R:Type}(l:List bZ)(s:Int)(r:List ah->Option R){step:(Int->Option R)->Int->Option R}
  (h:∀ (rec:Int->Option R) (i:Nat) (H:i<l.length),step rec (i:Int)=bif l[i].1==s then r l[i].2 else rec ((i+1:Nat):Int))
  (u:∀ rec:Int->Option R,step rec (l.length:Int)=r []) :
  ∀ (d i k:Nat),i+d=l.length->d<k->af step k (i:Int)=r (eG (l.drop i) s):=by
 intro d;induction d with
 |zero =>
  intro i k H J;obtain⟨k,rfl⟩:∃ z,k=z+1:=⟨k-1,by omega⟩;have:i=l.length:=by omega
  subst this;show step (af step k) _=_;rw[u];simp[eG]
 |succ d I =>
  intro i k H J;obtain⟨k,rfl⟩:∃ z,k=z+1:=⟨k-1,by omega⟩;have y:i<l.length:=by omega
  show step (af step k) _=_;rw[h _ _ y,BL y];simp only[eG,Cr];cases l[i].1==s with
  |true=>rfl
  |false=>exact I (i+1) k (by omega) (by omega)
theorem zF (K:Nat)(n:aa)(s:Int)(r:NB n)(z:1048577<K):Q117.f K (n,s,())=some ((eG (aa.others n) s,()),()):=by
 have y:=r.others;refine pD (step:=λrec a=>Q117.s0 K (n,s,()) rec a) (aa.others n) s (λt=>some ((t,()),())) ?_ ?_ (aa.others n).length 0 K (by omega) (by omega)
 ·intro rec i u;simp only[Q117.s0];rw[bo (by omega:(i:Int)<(BB (aa.others n):Int)),ag u,au i (by omega)];rfl
 ·intro rec;simp only[Q117.s0,aS];rfl
theorem qS {l:List bZ}{s:Int}:eG l s=[]\/∃ x∈l,x.1=s/\eG l s=x.2:=by
 unfold eG;cases h:l.find? λx=>x.1==s with
 |none=>exact .inl rfl
 |some x=>exact .inr ⟨x,CT h,by simpa using Cs h,rfl⟩
def bw {α:Type}(k:α->Int)(x:α)(xs:List α):List α:=xs.filter (λy=>decide (k y<k x))++x::xs.filter (λy=>decide (k x<k y))
theorem qT {α:Type}{k:α->Int}{xs:List α}{v:Int}{m:Nat}(J:m<=xs.length)(H:∀ i,(z:i<xs.length)->i<m->k xs[i]<v)(z:∀ i,(h:i<xs.length)->m<=i->v<=k xs[i]):xs.filter (λy=>decide (k y<v))=xs.take m:=by
 conv=>lhs;rw[<- Cb m xs]
 rw[B4];have r:(xs.take m).filter (λy=>decide (k y<v))=xs.take m:=by
  rw[BT];intro y u;obtain⟨i,r,rfl⟩:=BJ u;rw[BW]at r;rw[CW];exact decide_eq_true (H i (by omega) (by omega))
 have I:(xs.drop m).filter (λy=>decide (k y<v))=[]:=by
  rw[BY];intro y u;obtain⟨i,r,rfl⟩:=BJ u;rw[Bx]at r;rw[C3];have:=z (m+i) (by omega) (by omega);simp only[decide_eq_true_eq];omega
 rw[r,I,BN]
theorem qU {α:Type}{k:α->Int}{xs:List α}{v:Int}{m:Nat}(J:m<=xs.length)(H:∀ i,(z:i<xs.length)->i<m->k xs[i]<=v)(z:∀ i,(h:i<xs.length)->m<=i->v<k xs[i]):xs.filter (λy=>decide (v<k y))=xs.drop m:=by
 conv=>lhs;rw[<- Cb m xs]
 rw[B4];have r:(xs.take m).filter (λy=>decide (v<k y))=[]:=by
  rw[BY];intro y u;obtain⟨i,r,rfl⟩:=BJ u;rw[BW]at r;rw[CW];have:=H i (by omega) (by omega);simp only[decide_eq_true_eq];omega
 have I:(xs.drop m).filter (λy=>decide (v<k y))=xs.drop m:=by
  rw[BT];intro y u;obtain⟨i,r,rfl⟩:=BJ u;rw[Bx]at r;rw[C3];exact decide_eq_true (z (m+i) (by omega) (by omega))
 rw[r,I,BO]
theorem il {α:Type}{k:α->Int}{xs:List α}{x:α}{m:Nat}(h:Asc k xs)(H:m<xs.length)(e:k xs[m]=k x):xs.set m x=bw k x xs:=by
 have I:=cD.1 h;have J:∀ i,(r:i<xs.length)->i<m->k xs[i]<k x:=λi r y=>by rw[<- e];exact I i m r H y
 have M:∀ i,(r:i<xs.length)->m<i->k x<k xs[i]:=λi r y=>by rw[<- e];exact I m i H r y
 rw[bw,qT (m:=m) (by omega) J (λi r u=>by
   rcases B5 u with z|z
   ·exact Cp (M i r z)
   ·subst z;omega),
  qU (m:=m+1) (by omega) (λi r u=>by
   rcases B5 (Nat.le_of_lt_succ u) with z|z
   ·exact Cp (J i r z)
   ·subst z;omega) (λi r u=>M i r u),
  List.set_eq_take_append_cons_drop,if_pos H]
theorem gr {α:Type}{k:α->Int}{xs:List α}{x:α}{m:Nat}(H:m<=xs.length)(z:∀ i,(y:i<xs.length)->i<m->k xs[i]<k x)(y:∀ i,(h:i<xs.length)->m<=i->k x<k xs[i]):xs.take m++[x]++xs.drop m=bw k x xs:=by
 rw[bw,qT H z (λi u r=>Cp (y i u r)),qU H (λi u r=>Cp (z i u r)) y,B8];rfl
theorem aZ {α:Type}{k:α->Int}{xs:List α}{x y:α}:y∈bw k x xs<->y=x\/(y∈xs/\k y≠k x):=by
 simp only[bw,B3,B9,BH,decide_eq_true_eq];constructor
 ·rintro (⟨r,u⟩|rfl|⟨r,u⟩)
  ·exact .inr ⟨r,by omega⟩
  ·exact .inl rfl
  ·exact .inr ⟨r,by omega⟩
 ·rintro (rfl|⟨r,u⟩)
  ·exact .inr (.inl rfl)
  ·rcases Int.lt_or_gt_of_ne u with z|z
   ·exact .inl ⟨r,z⟩
   ·exact .inr (.inr ⟨r,z⟩)
theorem e8 {α:Type}{k:α->Int}{xs:List α}{x:α}(h:Asc k xs):Asc k (bw k x xs):=by
 unfold Asc bw;rw[CE,BQ];refine⟨h.filter _,⟨λy u=>?_,h.filter _⟩,λy u z r=>?_⟩
 ·simpa using (BH.1 u).2
 ·have H:k y<k x:=by simpa using (BH.1 u).2
  rcases B9.1 r with rfl|r
  ·exact H
  ·have I:k x<k z:=by simpa using (BH.1 r).2
   omega
theorem yh {α:Type}{k:α->Int}{xs:List α}{x:α}:(bw k x xs).length<=xs.length+1:=by
 have:∀ l:List α,(l.filter (λy=>decide (k y<k x))).length+(l.filter (λy=>decide (k x<k y))).length<=l.length:=by
  intro l;induction l with
  |nil=>simp
  |cons y l u =>
   simp only[BV,BG];by_cases r:k y<k x
   ·rw[if_pos (decide_eq_true r),if_neg (by simp;omega)];simp only[BG];omega
   ·rw[if_neg (by simpa using r)];split <;> (try simp only[BG]) <;> omega
 have:=this xs;simp only[bw,BP,BG];omega
theorem oU {α:Type}{k:α->Int}{xs:List α}(h:Asc k xs){i:Nat}(u:i<xs.length){v:Int}(e:k xs[i]=v):xs.find? (λy=>k y==v)=some xs[i]:=by
 cases r:xs.find? (λy=>k y==v) with
 |none =>
  have:=Cy.1 r xs[i] (BC u);simp[e]at this
 |some y =>
  have z:k y=v:=by simpa using Cs r
  obtain⟨j,H,rfl⟩:=BJ (CT r);have:=oO h H u (by rw[z,e]);subst this;rfl
theorem nL {α:Type}{k:α->Int}{xs:List α}{v:Int}(h:∀ y∈xs,k y≠v):xs.find? (λy=>k y==v)=none:=by
 rw[Cy];intro y r;simpa using h y r
def jR {α:Type}(k:α->Int)(x:α):Bool->List α->List α
 |d,[]=>bif d then [] else [x]
 |d,y::r=>(bif !d&&decide (k x<=k y) then [x] else [])++((bif k y != k x then [y] else [])++jR k x (d||decide (k x<=k y)) r)
theorem pE {α:Type}{k:α->Int}{x:α}:∀ {r:List α},(∀ y∈r,k x<k y)->jR k x true r=r
 |[],_=>rfl
 |y::r,h=>by
  have H:=h y (by simp);simp only[jR,BI,CH,cond_false,Cq,BO];rw[pE (λz u=>h z (by simp[u])),show (k y != k x)=true by simp;omega];rfl
theorem kT {α:Type}{k:α->Int}{x:α}:∀ {xs:List α},Asc k xs->jR k x false xs=bw k x xs
 |[],_=>rfl
 |y::u,h=>by
  have R:Asc k u:=(BQ.1 h).2;have H:∀ z∈u,k y<k z:=(BQ.1 h).1;simp only[jR,Bs,B6,Cm];by_cases I:k x<=k y
  ·rw[decide_eq_true I,pE (λz r=>by have:=H z r;omega)];simp only[cond_true,bw,BV];have O:u.filter (λz=>decide (k z<k x))=[]:=by
    rw[BY];intro z r;have:=H z r;simp;omega
   have M:u.filter (λz=>decide (k x<k z))=u:=by
    rw[BT];intro z r;have:=H z r;simp;omega
   rw[O,M,if_neg (by simp;omega)];by_cases J:k y=k x
   ·rw[if_neg (by simp;omega),show (k y != k x)=false by simpa using J];rfl
   ·rw[if_pos (by simp;omega),show (k y != k x)=true by simpa using J];rfl
  ·rw[decide_eq_false I,kT R,show (k y != k x)=true by simp;omega];simp only[cond_false,cond_true,bw,BV,BO];rw[if_pos (by simp;omega),if_neg (by simp;omega)];rfl
theorem sG {α A R:Type}(k:α->Int)(x:α)(t:List α)(q:α->Bool)(Y:Option R)(H:List α->Option R)(S:List α->Bool->Nat->A){step:(A->Option R)->A->Option R}
  (h:∀ (rec:A->Option R) (r:List α) (d:Bool) (i:Nat) (X:i<t.length),r.length<=i+1->(d=false->r.length<=i)->step rec (S r d i)=bif q t[i] then Y else rec (S ((r++(bif !d&&decide (k x<=k t[i]) then [x] else []))++(bif k t[i] != k x then [t[i]] else [])) (d||decide (k x<=k t[i])) (i+1)))
  (u:∀ (rec:A->Option R) (r:List α) (d:Bool),r.length<=t.length+1->(d=false->r.length<=t.length)->step rec (S r d t.length)=H (r++(bif d then [] else [x]))) :
  ∀ (n i K:Nat) (r:List α) (d:Bool),i+n=t.length->n<K->r.length<=i+1->(d=false->r.length<=i)->af step K (S r d i)=bif (t.drop i).any q then Y else H (r++jR k x d (t.drop i)):=by
 intro n;induction n with
 |zero =>
  intro i K r d X hK M z;obtain⟨K,rfl⟩:∃ J,K=J+1:=⟨K-1,by omega⟩;have:i=t.length:=by omega
  subst this;show step (af step K) _=_;rw[u _ _ _ M z,Cd];rfl
 |succ n Z =>
  intro i K r d X hK M z;obtain⟨K,rfl⟩:∃ J,K=J+1:=⟨K-1,by omega⟩;have I:i<t.length:=by omega
  show step (af step K) _=_;rw[h _ _ _ _ I M z,BL I,List.any_cons];cases hq:q t[i] with
  |true=>rfl
  |false =>
   simp only[cond_false,Cm,jR];rw[Z (i+1) K _ _ (by omega) (by omega) ?_ ?_]
   ·simp only[B8]
   ·cases d with
    |true =>
     simp only[BI,CH,cond_false,BN];cases k t[i] != k x <;> simp <;> omega
    |false =>
     have:=z rfl;cases O:decide (k x<=k t[i]) <;> cases k t[i] != k x <;> simp <;> omega
   ·intro y;rw[Bool.or_eq_false_iff]at y;obtain⟨rfl,O⟩:=y;have:=z rfl;rw[O];cases k t[i] != k x <;> simp <;> omega
theorem tY (K:Nat)(n:aa)(r:NB n)(y:1048577<K):∃ b,Q26.f K (n,())=rb b/\Q101.f K (n,())=rb b/\(b=true<->fF n):=by
 obtain⟨b,H,u⟩:=oT K n r y;obtain⟨z,I,J⟩:=sE K n r y;have:b=z:=by rw[CJ,u,J]
 subst this;exact⟨b,H,I,u⟩
theorem fF.up {n:aa}(h:fF n)(r:n.2.1=true):UpP n:=by
 have:=h.2.2.2.2.2
 rwa [if_pos r]at this
abbrev ak:=Int×Int×Int×Int×Int×Int×dA×List ah
abbrev ak.table (w:ak):List ah:=w.2.2.2.2.2.2.2
abbrev ak.coord (w:ak):dA:=w.2.2.2.2.2.2.1
def lV:List ah->Prop
 |[]=>False
 |f::l=>cd (f::l) (am f.1)
def dK (w:ak):Prop:=InP w.1 1 2/\InP w.2.1 1 6/\InP w.2.2.1 0 7/\InP w.2.2.2.1 0 7/\InP w.2.2.2.2.1 0 999999/\InP w.2.2.2.2.2.1 0 7/\cH (ak.coord w)/\aB (ak.table w) /\
 (if w.2.1=6 then lV (ak.table w) else cd (ak.table w) (am w.2.2.1))
theorem lW (K:Nat)(w:ak)(r:(ak.table w).length<=1048576)(u:1048577<K):Ret (Q27.f K (w,())) (dK w):=by
 refine Ret.nx (cG K _ _ _) λ_=>Ret.nx (cG K _ _ _) λ_=>Ret.nx (cG K _ _ _) λ_=>Ret.nx (cG K _ _ _) λ_=>Ret.nx (cG K _ _ _) λ_=>Ret.nx (cG K _ _ _) λ_=>Ret.nx (iD K _) λ_=>Ret.nx (gp K _ r u) λ_=>?_
 dsimp only;by_cases h:w.2.1=6
 ·rw[show (w.2.1==6)=true by simpa using h,if_pos h];obtain⟨w1,w2,w3,w4,H,y,z,t⟩:=w;cases t with
  |nil=>exact Ret.no (λh=>h)
  |cons f l =>
   rw[show decide ((BB (f::l):Int)>0)=true from decide_eq_true (by simp only[BG];omega)];simp only[cond_true];exact Ret.vl (ag (xs:=f::l) (i:=0) (by simp)) (eZ K _ _ r u).id
 ·rw[show (w.2.1==6)=false by simpa using h,if_neg h];exact (eZ K _ _ r u).id
theorem yi (K:Nat)(w:ak)(r:(ak.table w).length<=1048576)(u:1048577<K):Ret (Q102.f K (w,())) (dK w):=by
 refine Ret.iff (Q:=dK w) (Ret.nx (eJ K _ _ _) λ_=>Ret.nx (eJ K _ _ _) λ_=>Ret.nx (ja K _) λ_=>Ret.nx (ja K _) λ_=>Ret.nx (ja K _) λ_=>Ret.nx (eJ K _ _ _) λ_=>Ret.nx (nK K _) λ_=>Ret.nx (gq K _ r u)
  (Q:=if w.2.1=6 then lV (ak.table w) else cd (ak.table w) (am w.2.2.1)) λ_=>?_) ?_
 ·dsimp only;by_cases h:w.2.1=6
  ·rw[show (w.2.1==6)=true by simpa using h,if_pos h];obtain⟨w1,w2,w3,w4,H,y,z,t⟩:=w;cases t with
   |nil=>exact Ret.no (λh=>h)
   |cons f l =>
    rw[show decide ((BB (f::l):Int)>0)=true from decide_eq_true (by simp only[BG];omega)];simp only[cond_true];exact Ret.vl (ag (xs:=f::l) (i:=0) (by simp)) (Ret.vl (mJ K _) (ij K _ _ r u).id)
  ·rw[show (w.2.1==6)=false by simpa using h,if_neg h];simp only[cond_false];exact Ret.vl (mJ K _) (ij K _ _ r u).id
 ·unfold dK;constructor
  ·rintro⟨h1,h2,h3,h4,h5,h6,h7,h8,h9⟩;exact⟨h1,h2,h3,h4,h6,h5,h7,h8,h9⟩
  ·rintro⟨h1,h2,h3,h4,h6,h5,h7,h8,h9⟩;exact⟨h1,h2,h3,h4,h5,h6,h7,h8,h9⟩
theorem iF {α A R:Type}(xs:List α)(S:List α->Nat->A)(r:Option R){step:(A->Option R)->A->Option R}
  (h:∀ (rec:A->Option R) (u:List α) (i:Nat) (z:i<xs.length),u.length=i->step rec (S u i)=rec (S (u++[xs[i]]) (i+1))) (y:∀ rec:A->Option R,step rec (S xs xs.length)=r) {k:Nat} (H:xs.length<k):af step k (S [] 0)=r:=by
 refine fm (step:=step) xs.length (λi=>S (xs.take i) i) r ?_ ?_ H
 ·intro rec i z;show step rec (S (xs.take i) i)=rec (S (xs.take (i+1)) (i+1));rw[h rec (xs.take i) i z (by simp;omega),CF z]
 ·intro rec;show step rec (S (xs.take xs.length) xs.length)=r;rw[CI];exact y rec
theorem szb (a b c:Nat)(r:c<=64)(h:a+b<=2097152):decide ((a+b)*c<=ao)=true:=by
 have:=CX h r;exact decide_eq_true (by unfold ao;omega)
theorem mM (K:Nat)(n:aa)(u:NB n)(R:1048577<K):Q62.f K (n,())=some ((n,()),()):=by
 have J:=u.table;have I:=u.cast;have O:=u.doubts;have H:=u.places;have M:=u.others;simp only[Q62.f,Q62.pre];rw[szb _ _ _ (by omega) (by show (BB ([]:List ah))+(aa.table n).length<=_;simp;omega),szb _ _ _ (by omega) (by show (BB ([]:List aM))+(aa.cast n).length<=_;simp;omega)];simp only[cond_true];refine iF (aa.doubts n) (step:=λrec a=>Q62.s0 K (n,()) (Q62.l1 K (n,())) rec a) (λr i=>((i:Int),r)) _ ?_ ?_ (by omega)
 ·intro rec r i y z;have:=u.by_ _ (BC y);simp only[Q62.s0];rw[bo (by omega:(i:Int)<(BB (aa.doubts n):Int)),ag y,au i (by omega)];simp only[cond_true,BA];rw[szb _ _ _ (by omega) (by simp;omega),szb _ _ _ (by omega) (by simp;omega)];rfl
 ·intro rec;simp only[Q62.s0,aS,cond_false];refine iF (aa.places n) (step:=λrec a=>Q62.s1 K (n,()) (Q62.l2 K (n,())) rec a) (λr i=>((i:Int),aa.doubts n,r)) _ ?_ ?_ (by omega)
  ·intro rec r i y z;have:=u.trips _ (BC y);simp only[Q62.s1];rw[bo (by omega:(i:Int)<(BB (aa.places n):Int)),ag y,au i (by omega)];simp only[cond_true,BA];rw[szb _ _ _ (by omega) (by simp;omega),szb _ _ _ (by omega) (by simp;omega)];rfl
  ·intro rec;simp only[Q62.s1,aS,cond_false];refine iF (aa.others n) (step:=λrec a=>Q62.s2 K (n,()) rec a) (λr i=>((i:Int),aa.doubts n,aa.places n,r)) _ ?_ ?_ (by omega)
   ·intro rec r i y z;have:=u.facts _ (BC y);simp only[Q62.s2,zcp8];rw[bo (by omega:(i:Int)<(BB (aa.others n):Int)),ag y,au i (by omega)];simp only[cond_true,BA];rw[szb _ _ _ (by omega) (by simp;omega),szb _ _ _ (by omega) (by simp;omega)];rfl
   ·intro rec;simp only[Q62.s2,zcp8,aS,cond_false];rfl
theorem yj (K:Nat)(n:aa)(u:NB n)(R:1048577<K):Q145.f K (n,())=some ((n,()),()):=by
 have J:=u.table;have I:=u.cast;have O:=u.doubts;have H:=u.places;have M:=u.others;simp only[Q145.f,Q145.pre];refine iF (aa.doubts n) (step:=λrec a=>Q145.s0 K (n,()) (Q145.l1 K (n,())) rec a) (λr i=>(r,(i:Int))) _ ?_ ?_ (by omega)
 ·intro rec r i y z;have:=u.by_ _ (BC y);simp only[Q145.s0,Q8.f];rw[bo (by omega:(i:Int)<(BB (aa.doubts n):Int)),ag y,au i (by omega)];simp only[cond_true,BA];rw[dY (by omega)];simp only[BA];rw[szb _ _ _ (by omega) (by simp;omega)];rfl
 ·intro rec;simp only[Q145.s0,aS,cond_false];refine iF (aa.places n) (step:=λrec a=>Q145.s1 K (n,()) (Q145.l2 K (n,())) rec a) (λr i=>(aa.doubts n,r,(i:Int))) _ ?_ ?_ (by omega)
  ·intro rec r i y z;have:=u.trips _ (BC y);simp only[Q145.s1,Q8.f];rw[bo (by omega:(i:Int)<(BB (aa.places n):Int)),ag y,au i (by omega)];simp only[cond_true,BA];rw[dY (by omega)];simp only[BA];rw[szb _ _ _ (by omega) (by simp;omega)];rfl
  ·intro rec;simp only[Q145.s1,aS,cond_false];refine iF (aa.others n) (step:=λrec a=>Q145.s2 K (n,()) rec a) (λr i=>(aa.doubts n,aa.places n,r,(i:Int))) _ ?_ ?_ (by omega)
   ·intro rec r i y z;have:=u.facts _ (BC y);simp only[Q145.s2,zcp8,Q0.f];rw[bo (by omega:(i:Int)<(BB (aa.others n):Int)),ag y,au i (by omega)];simp only[cond_true,BA];rw[dY (by omega)];simp only[BA];rw[szb _ _ _ (by omega) (by simp;omega)];rfl
   ·intro rec;simp only[Q145.s2,zcp8,aS,cond_false,Q0.f,Q2.f];rw[dY (by show (aa.table n).length*_<=_;omega),dY (by show (aa.cast n).length*_<=_;omega)];rfl
instance (f g:ah):Decidable (bI f g):=by unfold bI;infer_instance
theorem pF (K:Nat)(f g:ah):Q19.f K (f,g,())=rb (decide (bI f g)):=by
 obtain⟨b,u,r⟩:=sD K f g;rw[u,show b=decide (bI f g) by rw[CJ,r];simp]
def bS (t:List ah)(f:ah):List ah×Bool :=
 match t.find? (λg=>g.1==f.1) with
 |some g=>if bI f g then (bw (λg=>g.1) f t,true) else (t,false)
 |none=>(bw (λg=>g.1) f t,true)
theorem kh {t:List ah}{f:ah}(u:Asc (λg:ah=>g.1) t){i:Nat}(r:i<t.length)(e:t[i].1=f.1):bS t f=if bI f t[i] then (bw (λg=>g.1) f t,true) else (t,false):=by
 unfold bS;rw[show t.find? (λg=>g.1==f.1)=some t[i] from oU u r e]
theorem im {t:List ah}{f:ah}(h:∀ g∈t,g.1≠f.1):bS t f=(bw (λg=>g.1) f t,true):=by
 unfold bS;rw[show t.find? (λg=>g.1==f.1)=none from nL h]
theorem ju {e:Ty}{b:Nat}{xs:List e.den}{m:Nat}{v:e.den}(u:m<=xs.length)(r:b<=64)(y:xs.length<=1048576):fP e b xs (m:Int) [v]=some ((xs.take m++[v]++xs.drop m,()),()):=by
 unfold fP;have:(xs.length+[v].length)*b<=140737488355328:=Bu (CX (show xs.length+[v].length<=1048577 by simp;omega) r) (by decide);rw[if_pos ⟨by omega,by omega,by simp,by simpa only[ao]using this⟩,BE]
theorem qW {e:Ty}{xs:List e.den}{u:e.den×Unit->Option Bool}(p:e.den->Bool)(z:xs.length<=1048576)(h:∀ x∈xs,u (x,())=some (p x)):gK e xs u=some ((xs.filter (λx=>!p x),()),()):=by
 have:∀ r:List e.den,(∀ x∈r,u (x,())=some (p x))->lO u r=some (r.filter (λx=>!p x)):=by
  intro r;induction r with
  |nil=>intro _;rfl
  |cons y r H =>
   intro h;simp only[lO,h y (by simp),BA,H (λx z=>h x (by simp[z])),DB,BV];cases p y <;> rfl
 unfold gK;rw[if_pos z,this xs h];rfl
theorem put_s (K:Nat)(t:List ah)(f:ah)(ht:t.length<=1048576)(R:Asc (λg:ah=>g.1) t)(Y:1048577<K):Q29.f K (t,f,())=some (((bS t f).1,(bS t f).2,()),()):=by
 simp only[Q29.f,Q29.pre];obtain⟨o,z,J⟩:=fj K t f.1 ht Y;rw[J];simp only[BA];cases z with
 |at_ i r e =>
  simp only;rw[kh R r e,decide_eq_true (by omega:((i:Nat):Int)>=0),ag r];simp only[cond_true,BA];rw[show Q19.f K (f,t[i],())=_ from pF K f t[i]];simp only[BA];by_cases z:bI f t[i]
  ·rw[decide_eq_true z,if_pos z];simp only[BI,cond_false];rw[szb _ _ _ (by omega) (by show (BB ([]:List ah))+t.length<=_;simp;omega)];simp only[cond_true,BO,ag r,BA,BE];rw[il (k:=λg:ah=>g.1) R r e]
  ·rw[decide_eq_false z,if_neg z];rfl
 |no h =>
  simp only;rw[im h,decide_eq_false (by omega:¬ (-1:Int)>=0)];simp only[cond_false];have I:∀ m:Nat,m<=t.length->(bif decide ((0:Int)<=0)&&decide ((0:Int)<=(m:Int))&&decide ((m:Int)<=(BB t:Int))&&true then (bif decide ((BB ([]:List ah)+BB ((t.take (BD (m:Int))).drop (BD 0)))*32<=ao) then (bif decide ((BB ([]++((t.take (BD (m:Int))).drop (BD 0)))+BB ([f]))*32<=ao) then (bif decide ((0:Int)<=(m:Int))&&decide ((m:Int)<=(BB t:Int))&&decide ((BB t:Int)<=(BB t:Int))&&true then (bif decide ((BB (([]++((t.take (BD (m:Int))).drop (BD 0)))++([f]))+BB ((t.take (BD (BB t:Int))).drop (BD (m:Int))))*32<=ao) then (some (((([]++((t.take (BD (m:Int))).drop (BD 0)))++([f]))++((t.take (BD (BB t:Int))).drop (BD (m:Int))),true,()),())) else none) else none) else none) else none) else (none:Option ((List ah×Bool×Unit)×Unit)))=some ((t.take m++[f]++t.drop m,true,()),()):=by
   intro m X;rw[decide_eq_true (by omega:(0:Int)<=0),decide_eq_true (by omega:(0:Int)<=(m:Int)),decide_eq_true (by omega:(m:Int)<=(BB t:Int)),decide_eq_true (by omega:(BB t:Int)<=(BB t:Int))];simp only[BE,CO,Br,BO,CI,CK,cond_true];have J:(t.take m).length=m:=by rw[BW];omega
   have H:(t.drop m).length=t.length-m:=Bx;rw[szb _ _ _ (by omega) (by simp only[BM];omega),szb _ _ _ (by omega) (by simp only[BG,BM];omega),szb _ _ _ (by omega) (by simp only[BP,BG,BM];omega)];rfl
  have:=cr (step:=λrec a=>Q29.s0 K (t,f,()) rec a) t.length (λi=>(i:Int)) (λj=>∃ h:j<t.length,¬ t[j].1<f.1) (some ((t.take t.length++[f]++t.drop t.length,true,()),())) (λj=>some ((t.take j++[f]++t.drop j,true,()),())) ?_ ?_ t.length K 0 (by omega) (by omega)
  ·have M:∀ m,m<=t.length->(∀ i,(r:i<t.length)->i<m->t[i].1<f.1)->(∀ i,(r:i<t.length)->m<=i->f.1<t[i].1)->t.take m++[f]++t.drop m=bw (λg=>g.1) f t:=λm X Z r=>gr (k:=λg:ah=>g.1) X Z r
   rcases this with ⟨J,H⟩|⟨j,_,J,⟨h3,h4⟩,h5,H⟩
   ·rw[M t.length (BR _) (λi r _=>by
     have:=J i (BX _) r;exact CN.1 λh=>this ⟨r,h⟩) (λi r h=>by omega)]at H
    exact H
   ·rw[M j (by omega) (λi r y=>by
     have:=h5 i (BX _) y;exact CN.1 λh=>this ⟨r,h⟩) (λi r y=>by
     have a0:=h t[i] (BC r);rcases B5 y with O|O
     ·have:=cD.1 R j i h3 r O;omega
     ·subst O;omega)]at H
    exact H
  ·intro rec i r;simp only[Q29.s0];rw[bo (by omega:(i:Int)<(BB t:Int)),ag r,au i (by omega)];simp only[cond_true,BA];by_cases u:t[i].1<f.1
   ·exact .inl ⟨λ⟨_,h⟩=>h u,by rw[decide_eq_true u];rfl⟩
   ·exact .inr ⟨⟨r,u⟩,by rw[decide_eq_false u];exact I i (by omega)⟩
  ·intro rec;simp only[Q29.s0,aS,cond_false];exact I t.length (BR _)
theorem vv (K:Nat)(t:List ah)(f:ah)(X:t.length<=1048576)(H:Asc (λg:ah=>g.1) t)(R:1048577<K):Q105.f K (t,f,())=some (((bS t f).1,(bS t f).2,()),()):=by
 simp only[Q105.f,Q0.f,Q1.f];rw[dY (by omega)];simp only[BA];obtain⟨m,u,Y⟩:=sC K t f.1 X H R;rw[Y];simp only[BA];by_cases J:∃ h:m<t.length,t[m].1=f.1
 ·obtain⟨M,y⟩:=J;rw[decide_eq_true ⟨M,y⟩,kh H M y];simp only[BI,cond_false,ag M,BA,BE];rw[mK K f t[m] R];simp only[BA];by_cases I:bI f t[m]
  ·rw[decide_eq_true ((jt y.symm).2 I),if_pos I,il (k:=λg:ah=>g.1) H M y];rfl
  ·rw[decide_eq_false (λh=>I ((jt y.symm).1 h)),if_neg I];rfl
 ·rw[decide_eq_false J,im (λg Z e=>by
   obtain⟨i,r,rfl⟩:=BJ Z;rcases Cj i m with h|h|h
   ·have:=u.lo i r h;omega
   ·subst h;exact J ⟨r,e⟩
   ·have h5:=u.hi m (by omega) (BR _);have O:=cD.1 H m i (by omega) r h;omega)]
  simp only[Bs,cond_true];rw[ju u.le (by omega) X];simp only[BA];rw[gr (k:=λg:ah=>g.1) u.le u.lo (λi r z=>by
   have:=u.hi i r z;rcases B5 z with O|O
   ·have h5:=u.hi m (by omega) (BR _);have h7:=cD.1 H m i (by omega) r O;omega
   ·subst O;have:t[m].1≠f.1:=λe=>J ⟨r,e⟩
    omega)]
def dr (l:List aM)(f:ah):List aM:=if ∃ x∈l,x.1.1=f.1/\¬ bI f x.1 then l else bw (λx=>x.1.1) (f,4) l
theorem tZ {l:List aM}{f:ah}:dr l f=bif l.any (λx=>x.1.1==f.1&&!decide (bI f x.1)) then l else bw (λx=>x.1.1) (f,4) l:=by
 unfold dr;have:(∃ x∈l,x.1.1=f.1/\¬ bI f x.1)<->l.any (λx=>x.1.1==f.1&&!decide (bI f x.1))=true:=by
  rw[List.any_eq_true];simp
 by_cases h:∃ x∈l,x.1.1=f.1/\¬ bI f x.1
 ·rw[if_pos h,this.1 h];rfl
 ·rw[if_neg h,show l.any (λx=>x.1.1==f.1&&!decide (bI f x.1))=false by rw[Bool.eq_false_iff];exact λr=>h (this.2 r)];rfl
theorem zG (K:Nat)(l:List aM)(f:ah)(Y:l.length<=1048576)(R:Asc (λx:aM=>x.1.1) l)(X:1048577<K):Q30.f K (l,f,())=some ((dr l f,()),()):=by
 have:=sG (step:=λrec a=>Q30.s0 K (l,f,()) rec a) (λx:aM=>x.1.1) (f,4) l (λx=>x.1.1==f.1&&!decide (bI f x.1)) (some ((l,()),())) (λO=>some ((O,()),())) (λr d i=>(r,d,(i:Int))) ?_ ?_ l.length 0 K [] false (by omega) (by omega) (by simp) (by simp)
 ·refine Cn (this:Q30.f K (l,f,())=_) ?_;rw[Br,tZ,kT R];cases l.any (λx=>x.1.1==f.1&&!decide (bI f x.1)) <;> rfl
 ·intro rec r d i I M z;simp only[Q30.s0];rw[bo (by omega:(i:Int)<(BB l:Int)),ag I,au i (by omega)];simp only[cond_true,BA];have u:decide ((r.length+[((f,4):ah×Nat)].length)*40<=ao)=true:=szb _ _ _ (by omega) (by simp;omega);have J:decide (((r++[((f,4):aM)]).length+[l[i]].length)*40<=ao)=true:=szb _ _ _ (by omega) (by simp;omega);have H:decide ((r.length+[l[i]].length)*40<=ao)=true:=szb _ _ _ (by omega) (by simp;omega);by_cases y:l[i].1.1=f.1
  ·rw[show (l[i].1.1==f.1)=true by simpa using y,show (l[i].1.1 != f.1)=false by simpa using y,show decide (f.1<=l[i].1.1)=true from decide_eq_true (by omega)];simp only[cond_true,cond_false,B6,Cf,DG,BN];rw[show Q19.f K (f,l[i].1,())=_ from pF K f l[i].1];simp only[BA];cases decide (bI f l[i].1) with
   |false=>rfl
   |true =>
    simp only[BI,cond_false];cases d with
    |true=>simp only[BI,cond_false,BN]
    |false =>
     simp only[Bs,cond_true];rw[u];rfl
  ·rw[show (l[i].1.1==f.1)=false by simpa using y,show (l[i].1.1 != f.1)=true by simpa using y];simp only[cond_true,cond_false,CH];cases d with
   |true =>
    simp only[BI,cond_false,CH,BN,Cq];rw[H];rfl
   |false =>
    simp only[Bs,cond_true,B6,Cm];cases decide (f.1<=l[i].1.1) with
    |true =>
     simp only[cond_true];rw[u];simp only[cond_true];rw[J];rfl
    |false =>
     simp only[cond_false,BN];rw[H];rfl
 ·intro rec r d M z;simp only[Q30.s0,aS];cases d with
  |true=>simp only[BI,cond_false,cond_true,BN]
  |false =>
   have:=z rfl;have u:decide ((r.length+[((f,4):ah×Nat)].length)*40<=ao)=true:=szb _ _ _ (by omega) (by simp;omega);simp only[Bs,cond_true,cond_false];rw[u];rfl
theorem wS (K:Nat)(l:List aM)(f:ah)(hl:l.length<=1048576)(X:cR l)(hf:bm f)(Y:1048577<K):Q107.f K (l,f,())=some ((dr l f,()),()):=by
 simp only[Q107.f,Q2.f,Q3.f];obtain⟨b1,e1,e2⟩:=oR K l hl Y;have a1:=e2.2 X;subst a1;obtain⟨b2,e3,e4⟩:=lU K f;have a0:=e4.2 hf;subst a0;rw[e1];simp only[BA,BI,cond_false];rw[e3];simp only[BA,BI,cond_false];rw[dY (by omega)];simp only[BA];rw[uG K l hl Y];simp only[BA];have hA:Asc (λg:ah=>g.1) (l.map (·.1)):=by
  have:=X.2;unfold Asc at this ⊢;rw[Bv];exact this
 have r:(l.map (·.1)).length=l.length:=BU _;obtain⟨m,hm,h1⟩:=sC K (l.map (·.1)) f.1 (by rw[r];exact hl) hA Y;rw[h1];simp only[BA];have y:∀ i (h:i<l.length),(l.map (·.1))[i]'(by rw[r];exact h)=l[i].1:=λi h=>List.getElem_map _
 have I:=hm.le;rw[r]at I;have lo:∀ i,(u:i<l.length)->i<m->l[i].1.1<f.1:=λi u M=>by have:=hm.lo i (by rw[r];exact u) M;rwa [y i u]at this
 have R:∀ i,(u:i<l.length)->m<=i->f.1<=l[i].1.1:=λi u M=>by have:=hm.hi i (by rw[r];exact u) M;rwa [y i u]at this
 by_cases he:∃ h:m<l.length,l[m].1.1=f.1
 ·obtain⟨z,H⟩:=he;rw[decide_eq_true ⟨by rw[r];exact z,by rw[y m z];exact H⟩];simp only[BI,cond_false,ag z,BA,BE];rw[show Q87.f K (f,l[m].1,())=_ from mK K f l[m].1 Y];simp only[BA];have a2:∀ x∈l,x.1.1=f.1->x=l[m]:=λx J e=>by
   obtain⟨i,u,rfl⟩:=BJ J;have:=oO X.2 u z (by show l[i].1.1=l[m].1.1;rw[e,H]);subst this;rfl
  by_cases Z:bI f l[m].1
  ·rw[decide_eq_true ((jt H.symm).2 Z),dr,if_neg (λ⟨x,J,e,hn⟩=>hn (by rw[a2 x J e];exact Z)),il (k:=λx:aM=>x.1.1) (x:=(f,4)) X.2 z H];rfl
  ·rw[decide_eq_false (λh=>Z ((jt H.symm).1 h)),dr,if_pos ⟨l[m],BC z,H,Z⟩];rfl
 ·have O:∀ x∈l,x.1.1≠f.1:=λx J e=>by
   obtain⟨i,u,rfl⟩:=BJ J;rcases Cj i m with h|h|h
   ·have:=lo i u h;omega
   ·subst h;exact he ⟨u,e⟩
   ·have h5:=R m (by omega) (BR _);have h6:l[m].1.1<l[i].1.1:=cD.1 X.2 m i (by omega) u h;omega
  rw[decide_eq_false (λ⟨z,H⟩=>he ⟨by rw[r]at z;exact z,by rw[y m (by rw[r]at z;exact z)]at H;exact H⟩),dr,if_neg (λ⟨x,J,e,_⟩=>O x J e)];simp only[Bs,cond_true];rw[ju I (by omega) hl];simp only[BA];rw[gr (k:=λx:aM=>x.1.1) (x:=(f,4)) I lo (λi u a3=>by
   have h1:=R i u a3;have z:=O l[i] (BC u);show f.1<l[i].1.1;omega)]
theorem oa {α:Type}{k:α->Int}{x:α}:∀ {r:List α},jR k x true r=r.filter (λy=>k y != k x)
 |[]=>rfl
 |y::r=>by
  simp only[jR,BI,CH,cond_false,Cq,BO,BV];rw[oa];cases k y != k x <;> rfl
theorem ua {α:Type}{k:α->Int}{x:α}{xs:List α}:bw k x (xs.filter λy=>!(k y==k x))=bw k x xs:=by
 simp only[bw,List.filter_filter];congr 1
 ·refine Ck λy _=>?_
  by_cases h:k y<k x
  ·rw[decide_eq_true h];simp;omega
  ·rw[decide_eq_false h];rfl
 ·congr 1;refine Ck λy _=>?_
  by_cases h:k x<k y
  ·rw[decide_eq_true h];simp;omega
  ·rw[decide_eq_false h];rfl
def mkD (r:Int)(f:ah)(b:Int):bO:=(f.1,f.2.1,r,[b])
def cO (r:Int)(ds:List bO)(f:ah)(b:Int):List bO:=if f.2.2.1=2 then bw (λd=>d.1) (mkD r f b) ds else ds.filter (λd=>!(d.1==f.1))
theorem zH (K:Nat)(n:aa)(f:ah)(b:Int)(Y:(aa.doubts n).length<=1048576)(O:Asc (λd:bO=>d.1) (aa.doubts n))(X:1048577<K) :
  Q31.f K (n,f,b,())=some ((cO n.2.2.2.2.2.1 (aa.doubts n) f b,()),()):=by
 have:=sG (step:=λrec a=>Q31.s0 K (n,f,b,()) rec a) (λd:bO=>d.1) (mkD n.2.2.2.2.2.1 f b) (aa.doubts n) (λ_=>false) none (λM=>some ((M,()),())) (λr d i=>(r,d,(i:Int))) ?_ ?_ (aa.doubts n).length 0 K [] (f.2.2.1 != 2) (by omega) (by omega) (by simp) (by simp)
 ·refine Cn (this:Q31.f K (n,f,b,())=_) ?_;rw[Br,show (aa.doubts n).any (λ_=>false)=false by simp,cO];by_cases u:f.2.2.1=2
  ·rw[if_pos u,show (f.2.2.1 != 2)=false by simpa using u,kT O];rfl
  ·rw[if_neg u,show (f.2.2.1 != 2)=true by simpa using u,oa];rfl
 ·intro rec r d i H J z;simp only[Q31.s0];rw[bo (by omega:(i:Int)<(BB (aa.doubts n):Int)),ag H,au i (by omega)];simp only[cond_true,cond_false,BA];have y:decide ((r.length+[mkD n.2.2.2.2.2.1 f b].length)*48<=ao)=true:=szb _ _ _ (by omega) (by simp;omega);have I:decide (((r++[mkD n.2.2.2.2.2.1 f b]).length+[(aa.doubts n)[i]].length)*48<=ao)=true:=szb _ _ _ (by omega) (by simp;omega);have R:decide ((r.length+[(aa.doubts n)[i]].length)*48<=ao)=true:=szb _ _ _ (by omega) (by simp;omega);show (bif !d then (bif decide (f.1<=(aa.doubts n)[i].1) then (bif decide ((r.length+[mkD n.2.2.2.2.2.1 f b].length)*48<=ao) then (bif (aa.doubts n)[i].1 != f.1 then (bif decide (((r++[mkD n.2.2.2.2.2.1 f b]).length+[(aa.doubts n)[i]].length)*48<=ao) then (rec ((r++[mkD n.2.2.2.2.2.1 f b])++[(aa.doubts n)[i]],true,((i+1:Nat):Int))) else none) else (rec (r++[mkD n.2.2.2.2.2.1 f b],true,((i+1:Nat):Int)))) else none) else (bif (aa.doubts n)[i].1 != f.1 then (bif decide ((r.length+[(aa.doubts n)[i]].length)*48<=ao) then (rec (r++[(aa.doubts n)[i]],d,((i+1:Nat):Int))) else none) else (rec (r,d,((i+1:Nat):Int))))) else (bif (aa.doubts n)[i].1 != f.1 then (bif decide ((r.length+[(aa.doubts n)[i]].length)*48<=ao) then (rec (r++[(aa.doubts n)[i]],d,((i+1:Nat):Int))) else none) else (rec (r,d,((i+1:Nat):Int)))))=rec ((r++(bif !d&&decide (f.1<=(aa.doubts n)[i].1) then [mkD n.2.2.2.2.2.1 f b] else []))++(bif (aa.doubts n)[i].1 != f.1 then [(aa.doubts n)[i]] else []),d||decide (f.1<=(aa.doubts n)[i].1),((i+1:Nat):Int));rw[y,I,R];cases d <;> cases decide (f.1<=(aa.doubts n)[i].1) <;> cases (aa.doubts n)[i].1 != f.1 <;> simp only[BI,Bs,B6,CH,Cq,Cm,cond_true,cond_false,BN]
 ·intro rec r d J z;simp only[Q31.s0,aS];cases d with
  |true=>simp only[BI,cond_false,cond_true,BN]
  |false =>
   have:=z rfl;have y:decide ((r.length+[mkD n.2.2.2.2.2.1 f b].length)*48<=ao)=true:=szb _ _ _ (by omega) (by simp;omega);show (bif decide ((r.length+[mkD n.2.2.2.2.2.1 f b].length)*48<=ao) then some ((r++[mkD n.2.2.2.2.2.1 f b],()),()) else none)=some ((r++[mkD n.2.2.2.2.2.1 f b],()),());rw[y];rfl
theorem zI (K:Nat)(t:List bO)(r:Int)(ht:t.length<=1048576)(H:Asc (λd:bO=>d.1) t)(h7:∀ d∈t,InP d.1 0 7)(Y:InP r 0 7)(hK:1048577<K) :
  ∃ m,m<=t.length/\(∀ i,(h:i<t.length)->i<m->t[i].1<r)/\(∀ i,(h:i<t.length)->m<=i->r<=t[i].1)/\∃ b,Q110.f K (t,r,(λI=>(Q111.f K (I.1,I.2.1,())).map λy=>y.1.1),())=some ((((m:Nat):Int),b,()),()):=by
 let ks:Nat->Int:=λi=>if h:i<t.length then t[i].1 else 0
 have u:∀ i (h:i<t.length),ks i=t[i].1:=λi h=>by simp[ks,h]
 let J:Nat->Option ((Int×Bool×Unit)×Unit):=λm=>some ((((m:Nat):Int),decide (∃ h:m<t.length,t[m].1=r),()),())
 have X:∀ d∈t,((Q111.f K (d,r,())).map λy=>y.1.1)=some (d.1-r):=λd hd=>by
  obtain⟨a1,a2⟩:=h7 d hd;obtain⟨a3,a4⟩:=Y;simp only[Q111.f];rw[aH (by omega) (by omega)];rfl
 have:=pz (step:=λrec a=>Q110.s0 K (t,r,(λI=>(Q111.f K (I.1,I.2.1,())).map λy=>y.1.1),()) rec a) (ks:=ks) (n:=t.length) (t:=r) J ht
  (λi j O R=>by
   rw[u i (by omega),u j R];exact cD.1 H i j (by omega) R O) ?_ ?_ t.length K 0 t.length (by omega) (BX _) (BR _) (by omega) (λi z=>by omega) (λi z Y=>by omega)
 ·obtain⟨m,h1,h2,h3,h4⟩:=this;exact⟨m,h1,λi h z=>by rw[<- u i h];exact h2 i z,λi h z=>by rw[<- u i h];exact h3 i z h,_,h4⟩
 ·intro rec a b Z hb;have M:(a+b) / 2<t.length:=by omega
  simp only[Q110.s0];rw[decide_eq_true (by omega:(a:Int)<(b:Int)),nH (by omega)];simp only[cond_true];rw[ag M];simp only[BA,X _ (BC M)];rw[u _ M,au _ (by omega)];by_cases h:t[(a+b) / 2].1<r
  ·rw[if_pos h,decide_eq_true (by omega:t[(a+b) / 2].1-r<0)];rfl
  ·rw[if_neg h,decide_eq_false (by omega:¬ t[(a+b) / 2].1-r<0)];rfl
 ·intro rec a ha;simp only[Q110.s0];rw[decide_eq_false (by omega)];simp only[cond_false];by_cases h:a<t.length
  ·rw[decide_eq_true (by omega:(a:Int)<(BB t:Int)),ag h];simp only[cond_true,BA,X _ (BC h)];have:(t[a].1-r==0)=decide (∃ h:a<t.length,t[a].1=r):=by
    rw[CJ];simp only[beq_iff_eq,decide_eq_true_eq];exact⟨λe=>⟨h,by omega⟩,λ⟨_,e⟩=>by omega⟩
   rw[this]
  ·rw[decide_eq_false (by omega:¬ (a:Int)<(BB t:Int))];simp only[cond_false,J];rw[decide_eq_false (λ⟨h',_⟩=>h h')]
def fW (n:aa)(t:List ah)(c:List aM)(ds:List bO):aa :=
 (n.1,n.2.1,n.2.2.1,n.2.2.2.1,n.2.2.2.2.1,n.2.2.2.2.2.1,n.2.2.2.2.2.2.1,n.2.2.2.2.2.2.2.1,t,c,n.2.2.2.2.2.2.2.2.2.2.1,ds,n.2.2.2.2.2.2.2.2.2.2.2.2)
def jS (n:aa)(f:ah):Bool:=decide (∃ g∈aa.table n,g.1=f.1/\g.2.1=f.2.1/\g.2.2.1=f.2.2.1)
def sayOf (n:aa)(f:ah)(b:Int):aa :=
 bif (bS (aa.table n) f).2 then fW n (bS (aa.table n) f).1 (dr (aa.cast n) f) (bif jS n f then aa.doubts n else cO n.2.2.2.2.2.1 (aa.doubts n) f b) else n
structure ct (n:aa):Prop where
 table:aB (aa.table n)
 cast:cR (aa.cast n)
 asc:Asc (λd:bO=>d.1) (aa.doubts n)
 inp:∀ d∈aa.doubts n,InP d.1 0 7
 lt:(aa.table n).length<=1048576
 lc:(aa.cast n).length<=1048576
 ld:(aa.doubts n).length<=1048576
theorem sH {n:aa}{f g:ah}(u:Asc (λg:ah=>g.1) (aa.table n))(r:g∈aa.table n)(e:g.1=f.1):jS n f=(g.2.1==f.2.1&&g.2.2.1==f.2.2.1):=by
 rw[CJ,jS,decide_eq_true_eq,CB,beq_iff_eq,beq_iff_eq];constructor
 ·rintro⟨x,hx,h1,h2,h3⟩;have:=ik u hx r (by rw[h1,e]);subst this;exact⟨h2,h3⟩
 ·rintro⟨h1,h2⟩;exact⟨g,r,e,h1,h2⟩
theorem sI {n:aa}{f:ah}(h:∀ g∈aa.table n,g.1≠f.1):jS n f=false :=
 decide_eq_false λ⟨g,r,e,_⟩=>h g r e
theorem pG (K:Nat)(n:aa)(f:ah)(b:Int)(h:ct n)(r:1048577<K):Q184.f K (n,f,b,())=some ((sayOf n f b,()),()):=by
 simp only[Q184.f,zcp8];rw[show Q29.f K (n.2.2.2.2.2.2.2.2.1,f,())=_ from put_s K (aa.table n) f h.lt h.table.2 r];simp only[BA];cases H:(bS (aa.table n) f).2 with
 |false =>
  simp only[sayOf,H];rfl
 |true =>
  simp only[sayOf,H,BI,cond_false,cond_true];obtain⟨o,M,J⟩:=fj K (aa.table n) f.1 h.lt r;rw[show Q16.f K (n.2.2.2.2.2.2.2.2.1,f.1,())=_ from J];simp only[BA];have z:=zH K (n.1,n.2.1,n.2.2.1,n.2.2.2.1,n.2.2.2.2.1,n.2.2.2.2.2.1,n.2.2.2.2.2.2.1,n.2.2.2.2.2.2.2.1,(bS (aa.table n) f).1,dr (aa.cast n) f,n.2.2.2.2.2.2.2.2.2.2) f b h.ld h.asc r;have y:=zG K (aa.cast n) f h.lc h.cast.2 r;cases M with
  |at_ i I e =>
   simp only;rw[sH h.table.2 (BC I) e,decide_eq_true (by omega:((i:Nat):Int)>=0)];simp only[cond_true];rw[show idx n.2.2.2.2.2.2.2.2.1 (i:Int)=some (aa.table n)[i] from ag I];simp only[BA];rw[show Q30.f K (n.2.2.2.2.2.2.2.2.2.1,f,())=_ from y];simp only[BA];rw[z];cases (aa.table n)[i].2.1==f.2.1 with
   |true =>
    cases (aa.table n)[i].2.2.1==f.2.2.1 <;> rfl
   |false=>rfl
  |no u =>
   simp only;rw[sI u,decide_eq_false (by omega:¬ (-1:Int)>=0)];simp only[cond_false];rw[show Q30.f K (n.2.2.2.2.2.2.2.2.2.1,f,())=_ from y];simp only[BA];rw[z];rfl
theorem lX {α:Type}{k:α->Int}{xs:List α}(h:Asc k xs)(p:α->Bool):Asc k (xs.filter p):=CP p h
theorem zJ {R:Type}(K:Nat)(r:Int)(ds:List bO)(f:ah)(b:Int)(G:List bO->Option R)(M:ds.length<=1048576)(hA:Asc (λd:bO=>d.1) ds)(h7:∀ d∈ds,InP d.1 0 7)(hf:bm f)(hK:1048577<K) :
  ((Q4.f K (ds,(λI=>(Q109.f K (I.1,f,())).map λy=>y.1.1),())).bind λH=>bif f.2.2.1==2 then ((Q110.f K (H.1.1,f.1,(λO=>(Q111.f K (O.1,O.2.1,())).map λy=>y.1.1),())).bind λy7=>(Q5.f K (H.1.1,y7.1.1,[mkD r f b],())).bind λY=>G Y.1.1) else G H.1.1)=G (cO r ds f b):=by
 rw[show Q4.f K (ds,(λI=>(Q109.f K (I.1,f,())).map λy=>y.1.1),())=some ((ds.filter (λd=>!(d.1==f.1)),()),()) by
  simp only[Q4.f];exact qW _ M (λd _=>rfl)]
 simp only[BA,cO];by_cases z:f.2.2.1=2
 ·rw[if_pos z,show (f.2.2.1==2)=true by simpa using z];simp only[cond_true];have u:(ds.filter (λd=>!(d.1==f.1))).length<=1048576:=Bu (CC _ _) M;obtain⟨m,X,lo,Z,b',e⟩:=zI K (ds.filter (λd=>!(d.1==f.1))) f.1 u (lX hA _) (λd hd=>h7 d (BH.1 hd).1) hf.1 hK;rw[e];simp only[BA];rw[show Q5.f K (ds.filter (λd=>!(d.1==f.1)),(m:Int),[mkD r f b],())=some (((ds.filter (λd=>!(d.1==f.1))).take m++[mkD r f b]++(ds.filter (λd=>!(d.1==f.1))).drop m,()),()) by
   simp only[Q5.f];exact ju X (by omega) u]
  simp only[BA];have:=gr (k:=λd:bO=>d.1) (x:=mkD r f b) X lo (λi h J=>by
   have h1:=Z i h J;have h3:(!((ds.filter (λd=>!(d.1==f.1)))[i].1==f.1))=true:=(BH.1 (BC h)).2;have h4:(ds.filter (λd=>!(d.1==f.1)))[i].1≠f.1:=by simpa using h3
   show f.1<_;omega)
  rw[this];exact congrArg G (ua (k:=λd:bO=>d.1) (x:=mkD r f b))
 ·rw[if_neg z,show (f.2.2.1==2)=false by simpa using z];rfl
theorem zk (K:Nat)(n:aa)(f:ah)(b:Int)(h:ct n)(y:bm f)(u:1048577<K):Q112.f K (n,f,b,())=some ((),(sayOf n f b,())):=by
 simp only[Q112.f,zcp8];have R:∃ g:ah,∃ z,Q74.f K (aa.table n,f.1,())=some ((g,z,()),())/\jS n f=(g.2.2.1==f.2.2.1&&g.2.1==f.2.1):=by
  rcases js K (aa.table n) f.1 h.lt u with ⟨r,_⟩|⟨_,⟨g,X,e,r⟩|⟨J,r⟩⟩
  ·exact absurd h.table r
  ·exact⟨g,_,r,by rw[sH h.table.2 X e,Bool.and_comm]⟩
  ·refine⟨_,_,r,?_⟩;rw[sI J,show ((0:Int)==f.2.2.1)=false by have:=y.2.2.1;simp;omega];rfl
 obtain⟨g,z,r,O⟩:=R;rw[show Q74.f K (n.2.2.2.2.2.2.2.2.1,f.1,())=_ from r];simp only[BA];rw[show Q105.f K (n.2.2.2.2.2.2.2.2.1,f,())=_ from vv K (aa.table n) f h.lt h.table.2 u];simp only[BA];cases H:(bS (aa.table n) f).2 with
 |false =>
  simp only[sayOf,H];rfl
 |true =>
  simp only[sayOf,H,BI,cond_false,cond_true];rw[show Q107.f K (n.2.2.2.2.2.2.2.2.2.1,f,())=_ from wS K (aa.cast n) f h.lc h.cast y u];simp only[BA];have I:=zJ K n.2.2.2.2.2.1 (aa.doubts n) f b (λM=>some ((),(fW n (bS (aa.table n) f).1 (dr (aa.cast n) f) M,()))) h.ld h.asc h.inp y u;rw[O];cases g.2.2.1==f.2.2.1 with
  |true =>
   cases g.2.1==f.2.1 with
   |true=>rfl
   |false=>exact I
  |false=>exact I
theorem iP {α:Type}{k:α->Int}{xs:List α}(h:Asc k xs)(z:∀ x∈xs,InP (k x) 0 7):xs.length<=8:=by
 have:=(i9 (xs.map k) [0,1,2,3,4,5,6,7] (by unfold Asc at h;rw[Bv];exact h) (by decide) (λy r=>by
  obtain⟨x,u,rfl⟩:=BZ.1 r;obtain⟨I,H⟩:=z x u;simp only[B9,Ce,or_false];omega)).1
 rw[BU]at this;exact this
theorem gX (t:List ah)(f:ah):(bS t f).1=t\/(bS t f).1=bw (λg=>g.1) f t:=by
 unfold bS;split
 ·split
  ·exact .inr rfl
  ·exact .inl rfl
 ·exact .inr rfl
theorem ki {t:List ah}{f:ah}(h:aB t)(u:bm f):aB (bS t f).1:=by
 rcases gX t f with e|e
 ·rw[e];exact h
 ·rw[e];refine⟨λg r=>?_,e8 h.2⟩;rcases aZ.1 r with rfl|⟨y,_⟩
  ·exact u
  ·exact h.1 g y
theorem pH {l:List aM}{f:ah}(h:cR l)(u:bm f):cR (dr l f):=by
 unfold dr;split
 ·exact h
 ·refine⟨λx y=>?_,e8 h.2⟩;rcases aZ.1 y with rfl|⟨r,_⟩
  ·exact⟨u,show (1:Int)<=4 by omega,show (4:Int)<=4 by omega⟩
  ·exact h.1 x r
theorem kj {r:Int}{ds:List bO}{f:ah}{b:Int}{d:bO}(h:d∈cO r ds f b):d=mkD r f b\/d∈ds:=by
 unfold cO at h;split at h
 ·rcases aZ.1 h with h|h
  ·exact .inl h
  ·exact .inr h.1
 ·exact .inr (BH.1 h).1
theorem sJ {r:Int}{ds:List bO}{f:ah}{b:Int}(h:Asc (λd:bO=>d.1) ds):Asc (λd:bO=>d.1) (cO r ds f b):=by
 unfold cO;split
 ·exact e8 h
 ·exact lX h _
theorem iG (n:aa)(f:ah)(b:Int):∃ t c r,sayOf n f b=fW n t c r/\(t=aa.table n\/t=(bS (aa.table n) f).1)/\(c=aa.cast n\/c=dr (aa.cast n) f)/\(r=aa.doubts n\/r=cO n.2.2.2.2.2.1 (aa.doubts n) f b):=by
 unfold sayOf;cases (bS (aa.table n) f).2 with
 |false=>exact⟨aa.table n,aa.cast n,aa.doubts n,rfl,.inl rfl,.inl rfl,.inl rfl⟩
 |true =>
  cases jS n f with
  |true=>exact⟨_,_,_,rfl,.inr rfl,.inr rfl,.inl rfl⟩
  |false=>exact⟨_,_,_,rfl,.inr rfl,.inr rfl,.inr rfl⟩
theorem ct.mk' {n:aa}(u:aB (aa.table n))(r:cR (aa.cast n))(y:Asc (λd:bO=>d.1) (aa.doubts n))(z:∀ d∈aa.doubts n,InP d.1 0 7):ct n where
 table:=u
 cast:=r
 asc:=y
 inp:=z
 lt:=Bu (iP u.2 (λg H=>(u.1 g H).1)) (by decide)
 lc:=Bu (iP r.2 (λx I=>(r.1 x I).1.1)) (by decide)
 ld:=Bu (iP y z) (by decide)
theorem ip {n:aa}{f:ah}{b:Int}(h:ct n)(u:bm f):ct (sayOf n f b):=by
 obtain⟨t,c,y,e,I,H,z⟩:=iG n f b;rw[e];refine ct.mk' ?_ ?_ ?_ ?_
 ·show aB t;rcases I with rfl|rfl
  ·exact h.table
  ·exact ki h.table u
 ·show cR c;rcases H with rfl|rfl
  ·exact h.cast
  ·exact pH h.cast u
 ·show Asc _ y;rcases z with rfl|rfl
  ·exact h.asc
  ·exact sJ h.asc
 ·show ∀ d∈y,InP d.1 0 7;rcases z with rfl|rfl
  ·exact h.inp
  ·intro d r;rcases kj r with rfl|r
   ·exact u.1
   ·exact h.inp d r
theorem yk {n:aa}{f:ah}{b:Int}(h:∀ d∈aa.doubts n,d.2.2.2.length<=1048576):∀ d∈aa.doubts (sayOf n f b),d.2.2.2.length<=1048576:=by
 obtain⟨t,c,u,e,_,_,y⟩:=iG n f b;rw[e];show ∀ d∈u,_;rcases y with rfl|rfl
 ·exact h
 ·intro d r;rcases kj r with rfl|r
  ·exact Nat.succ_le_of_lt (by decide)
  ·exact h d r
theorem UpP.say {n:aa}(h:UpP n):ct n:=by
 obtain⟨r,_,_,⟨z,_⟩,_,u,_⟩:=h;refine ct.mk' r z u.2.1 λd y=>?_
 obtain⟨f,H,e,_⟩:=(u.1 d y).1;rw[<- e];exact (r.1 f H).1
theorem qq {α β A R:Type}(t:List α)(p:α->Bool)(g:α->β)(S:List β->Nat->A)(u:List β->Option R){step:(A->Option R)->A->Option R}
  (h:∀ (rec:A->Option R) (r:List β) (i:Nat) (O:i<t.length),r.length<=i->step rec (S r i)=rec (S (bif p t[i] then r++[g t[i]] else r) (i+1)))
  (y:∀ (rec:A->Option R) (r:List β),r.length<=t.length->step rec (S r t.length)=u r) {k:Nat} (H:t.length<k) :
  af step k (S [] 0)=u ((t.filter p).map g):=by
 have:∀ (d i k:Nat) (r:List β),i+d=t.length->d<k->r.length<=i->af step k (S r i)=u (r++((t.drop i).filter p).map g):=by
  intro d;induction d with
  |zero =>
   intro i k r O H J;obtain⟨k,rfl⟩:∃ I,k=I+1:=⟨k-1,by omega⟩;have:i=t.length:=by omega
   subst this;show step (af step k) _=_;rw[y _ _ J];simp
  |succ d M =>
   intro i k r O H J;obtain⟨k,rfl⟩:∃ I,k=I+1:=⟨k-1,by omega⟩;have z:i<t.length:=by omega
   show step (af step k) _=_;rw[h _ _ _ z J,BL z,BV];cases p t[i] with
   |true =>
    simp only[cond_true,if_true,Cl];rw[M (i+1) k _ (by omega) (by omega) (by simp;omega),B8];rfl
   |false =>
    simp only[cond_false];rw[M (i+1) k _ (by omega) (by omega) (by omega)];rfl
 have:=this t.length 0 k [] (by omega) H (BR _)
 rwa [Br,BO]at this
def sK:aa:=(0,false,false,false,0,0,0,0,[],[],(0,0,0,false),[],(0,0,0,0),[],[])
theorem ub:NB sK where
 table:=BX _
 cast:=BX _
 doubts:=BX _
 by_:=λd r=>absurd r Ce
 places:=BX _
 trips:=λd r=>absurd r Ce
 others:=BX _
 facts:=λd r=>absurd r Ce
theorem szw (a b c:Nat)(r:c<=128)(h:a+b<=2097152):decide ((a+b)*c<=ao)=true:=by
 have:=CX h r;exact decide_eq_true (by unfold ao;omega)
def kA (n:aa):aa:=(n.1,n.2.1,true,n.2.2.2)
def nM (r:Int)(n:aa)(to:Int):ak:=(1,r,n.1,to,0,n.1,aa.coord n,aa.table n)
theorem zK (K:Nat)(n:aa)(r to:Int)(u:(aa.table n).length<=1048576):Q142.f K (n,r,to,())=some ((nM r n to,()),()):=by
 simp only[Q142.f,zcp4,Q121.f,BA,Q0.f];rw[dY (by show (aa.table n).length*_<=_;omega)];rfl
theorem nN (K:Nat)(n:aa)(r to:Int)(u:(aa.table n).length<=1048576):Q41.f K (n,r,to,0,n.1,aa.table n,())=some ((nM r n to,()),()):=by
 simp only[Q41.f];rw[szb _ _ _ (by omega) (by show (BB ([]:List ah))+(aa.table n).length<=_;simp;omega)];rfl
def eA (f:ah):Bool:=f.2.2.1==1||f.2.2.1==2
theorem uI (K:Nat)(t:List ah)(f:ah)(y:aB t)(z:t.length<=1048576)(r:f∈t)(I:1048577<K):Q187.f K (t,f.1,())=rb (eA f):=by
 simp only[Q187.f];obtain⟨o,J,H⟩:=fj K t f.1 z I;rw[H];simp only[BA];cases J with
 |at_ i u e =>
  simp only;rw[decide_eq_true (by omega:((i:Nat):Int)>=0),ag u];simp only[cond_true,BA];rw[ik y.2 (BC u) r e,eA];cases f.2.2.1==1 <;> rfl
 |no h=>exact absurd rfl (h f r)
def sL (n:aa)(f:ah):Bool:=f.1 != n.1&&eA f
def lv (n:aa):List ak:=((aa.table n).filter (sL n)).map λf=>nM 5 n f.1
def mN (n:aa):aa:=kA (sayOf n (n.1,n.2.2.2.2.1,4,n.2.2.2.1) n.1)
theorem sM (K:Nat)(x:ac Q200.ps)(m:aa)(z:aB (aa.table m))(u:(aa.table m).length<=1048576)(J:1048577<K) :
  Q200.l0 K x ([],0,m.1,m.2.1,m.2.2.2.1,m.2.2.2.2.1,m.2.2.2.2.2.1,m.2.2.2.2.2.2.1,m.2.2.2.2.2.2.2.1,m.2.2.2.2.2.2.2.2.1,m.2.2.2.2.2.2.2.2.2.1,m.2.2.2.2.2.2.2.2.2.2.1.1,m.2.2.2.2.2.2.2.2.2.2.1.2.1,m.2.2.2.2.2.2.2.2.2.2.1.2.2.1,m.2.2.2.2.2.2.2.2.2.2.1.2.2.2,m.2.2.2.2.2.2.2.2.2.2.2.1,m.2.2.2.2.2.2.2.2.2.2.2.2.1.1,m.2.2.2.2.2.2.2.2.2.2.2.2.1.2.1,m.2.2.2.2.2.2.2.2.2.2.2.2.1.2.2.1,m.2.2.2.2.2.2.2.2.2.2.2.2.1.2.2.2,m.2.2.2.2.2.2.2.2.2.2.2.2.2.1,m.2.2.2.2.2.2.2.2.2.2.2.2.2.2)=some ((kA m,lv (kA m),()),()):=by
 refine qq (step:=λrec a=>Q200.s0 K x rec a) (aa.table m) (sL (kA m)) (λf=>nM 5 (kA m) f.1) (λr i=>(r,(i:Int),m.1,m.2.1,m.2.2.2.1,m.2.2.2.2.1,m.2.2.2.2.2.1,m.2.2.2.2.2.2.1,m.2.2.2.2.2.2.2.1,m.2.2.2.2.2.2.2.2.1,m.2.2.2.2.2.2.2.2.2.1,m.2.2.2.2.2.2.2.2.2.2.1.1,m.2.2.2.2.2.2.2.2.2.2.1.2.1,m.2.2.2.2.2.2.2.2.2.2.1.2.2.1,m.2.2.2.2.2.2.2.2.2.2.1.2.2.2,m.2.2.2.2.2.2.2.2.2.2.2.1,m.2.2.2.2.2.2.2.2.2.2.2.2.1.1,m.2.2.2.2.2.2.2.2.2.2.2.2.1.2.1,m.2.2.2.2.2.2.2.2.2.2.2.2.1.2.2.1,m.2.2.2.2.2.2.2.2.2.2.2.2.1.2.2.2,m.2.2.2.2.2.2.2.2.2.2.2.2.2.1,m.2.2.2.2.2.2.2.2.2.2.2.2.2.2)) (λH=>some ((kA m,H,()),())) ?_ ?_ (by omega)
 ·intro rec r i y I;simp only[Q200.s0,zceae5f];rw[show decide ((i:Int)<(BB m.2.2.2.2.2.2.2.2.1:Int))=true from bo (by omega:(i:Int)<(BB (aa.table m):Int)),show idx m.2.2.2.2.2.2.2.2.1 (i:Int)=some (aa.table m)[i] from ag y,au i (by omega)];simp only[cond_true,BA,sL];rw[show (kA m).1=m.1 from rfl];cases M:(aa.table m)[i].1 != m.1 with
  |false=>rfl
  |true =>
   simp only[cond_true,B6];rw[show Q187.f K (m.2.2.2.2.2.2.2.2.1,(aa.table m)[i].1,())=_ from uI K (aa.table m) _ z u (BC y) J];simp only[BA];cases eA (aa.table m)[i] with
   |false=>rfl
   |true =>
    simp only[cond_true];refine (congrArg (λo=>BS o _) (nN K (kA m) 5 (aa.table m)[i].1 u)).trans ?_;simp only[BA];rw[szw _ _ _ (by omega) (by simp;omega)];rfl
 ·intro rec r I;simp only[Q200.s0,zceae5f];rw[show decide ((BB (aa.table m):Int)<(BB m.2.2.2.2.2.2.2.2.1:Int))=false from aS _];rfl
theorem vw {n:aa}(r:fF n):bm (n.1,n.2.2.2.2.1,4,n.2.2.2.1):=⟨r.1,r.2.2.2.2.1,show (1:Int)<=4 by omega,show (4:Int)<=4 by omega⟩
theorem zL (K:Nat)(n:aa)(J:NB n)(r:fF n)(H:n.2.1=true)(I:n.2.2.1=false)(y:1048577<K):Q200.f K (n,())=some ((mN n,lv (mN n),()),()):=by
 have z:=(r.up H).say;have u:=ip (b:=n.1) z (vw r);simp only[Q200.f,Q200.pre];rw[H,I];simp only[BI,cond_false];rw[pG K n _ n.1 z y];exact sM K _ _ u.table u.lt y
theorem kD {α r A R:Type}(ds:List α)(st:r->α->r)(Inv:r->Prop)(S:r->Nat->A)(u:r->Option R){step:(A->Option R)->A->Option R}(n:r)(O:Inv n)
  (h:∀ (rec:A->Option R) (m:r) (i:Nat) (M:i<ds.length),Inv m->step rec (S m i)=rec (S (st m ds[i]) (i+1))/\Inv (st m ds[i]))
  (y:∀ (rec:A->Option R) (m:r),Inv m->step rec (S m ds.length)=u m) {k:Nat} (H:ds.length<k):af step k (S n 0)=u (ds.foldl st n):=by
 have:∀ (d i k:Nat) (m:r),i+d=ds.length->d<k->Inv m->af step k (S m i)=u ((ds.drop i).foldl st m):=by
  intro d;induction d with
  |zero =>
   intro i k m M H J;obtain⟨k,rfl⟩:∃ I,k=I+1:=⟨k-1,by omega⟩;have:i=ds.length:=by omega
   subst this;show step (af step k) _=_;rw[y _ _ J,Cd];rfl
  |succ d X =>
   intro i k m M H J;obtain⟨k,rfl⟩:∃ I,k=I+1:=⟨k-1,by omega⟩;have z:i<ds.length:=by omega
   show step (af step k) _=_;obtain⟨Z,Y⟩:=h (af step k) m i z J;rw[Z,BL z];exact X (i+1) k _ (by omega) (by omega) Y
 have:=this ds.length 0 k n (by omega) H O
 rwa [Br]at this
theorem lY {α r:Type}{st:r->α->r}{Inv:r->Prop}:∀ {ds:List α} {n:r},Inv n->(∀ m,∀ d∈ds,Inv m->Inv (st m d))->Inv (ds.foldl st n)
 |[],_,h,_=>h
 |d::ds,n,h,y=>lY (ds:=ds) (y n d (by simp) h) (λm z u=>y m z (by simp[u]))
def aQ (t:List ah)(r:Int):ah:=(t.find? λg=>g.1==r).getD (0,0,0,false)
theorem jv {t:List ah}(y:Asc (λg:ah=>g.1) t){f:ah}(r:f∈t):aQ t f.1=f:=by
 obtain⟨i,u,e⟩:=BJ r;unfold aQ;rw[show t.find? (λg=>g.1==f.1)=some t[i] from oU y u (by rw[e]),e];rfl
theorem jx {t:List ah}{r:Int}(h:∀ g∈t,g.1≠r):aQ t r=(0,0,0,false):=by
 unfold aQ;rw[show t.find? (λg=>g.1==r)=none from nL h];rfl
theorem mO (K:Nat)(t:List ah)(r:Int)(y:aB t)(H:t.length<=1048576)(J:1048577<K):∃ b,Q74.f K (t,r,())=some ((aQ t r,b,()),()):=by
 rcases js K t r H J with ⟨u,_⟩|⟨_,⟨g,I,e,u⟩|⟨z,u⟩⟩
 ·exact absurd y u
 ·refine⟨true,?_⟩;rw[u,<- e,jv y.2 I]
 ·refine⟨false,?_⟩;rw[u,jx z]
theorem sN (K:Nat)(t:List ah)(r:Int)(y:aB t)(H:t.length<=1048576)(z:1048577<K):Q187.f K (t,r,())=rb (eA (aQ t r)):=by
 by_cases h:∃ f∈t,f.1=r
 ·obtain⟨f,I,rfl⟩:=h;rw[uI K t f y H I z,jv y.2 I]
 ·have u:∀ g∈t,g.1≠r:=λg R e=>h ⟨g,R,e⟩
  simp only[Q187.f];obtain⟨o,M,O⟩:=fj K t r H z;rw[O,jx u];cases M with
  |at_ i J e=>exact absurd e (u _ (BC J))
  |no _=>rfl
theorem iQ (n:aa)(f:ah)(b:Int):(sayOf n f b).1=n.1/\(sayOf n f b).2.1=n.2.1/\(sayOf n f b).2.2.1=n.2.2.1/\(sayOf n f b).2.2.2.1=n.2.2.2.1/\(sayOf n f b).2.2.2.2.1=n.2.2.2.2.1/\(sayOf n f b).2.2.2.2.2.1=n.2.2.2.2.2.1/\(sayOf n f b).2.2.2.2.2.2.1=n.2.2.2.2.2.2.1/\(sayOf n f b).2.2.2.2.2.2.2.1=n.2.2.2.2.2.2.2.1/\aa.probe (sayOf n f b)=aa.probe n/\(sayOf n f b).2.2.2.2.2.2.2.2.2.2.2.2=n.2.2.2.2.2.2.2.2.2.2.2.2:=by
 obtain⟨t,c,r,e,_⟩:=iG n f b;rw[e];exact⟨rfl,rfl,rfl,rfl,rfl,rfl,rfl,rfl,rfl,rfl⟩
theorem mP {t:List ah}{f g:ah}(r:g∈t):∃ u∈(bS t f).1,u.1=g.1:=by
 rcases gX t f with e|e
 ·rw[e];exact⟨g,r,rfl⟩
 ·rw[e];by_cases h:g.1=f.1
  ·exact⟨f,aZ.2 (.inl rfl),h.symm⟩
  ·exact⟨g,aZ.2 (.inr ⟨r,h⟩),rfl⟩
theorem jy {n:aa}{f:ah}{b:Int}{g:ah}(r:g∈aa.table n):∃ u∈aa.table (sayOf n f b),u.1=g.1:=by
 obtain⟨t,c,z,e,y,_⟩:=iG n f b;rw[e];rcases y with rfl|rfl
 ·exact⟨g,r,rfl⟩
 ·exact mP r
def qr (u r:Int)(len:Nat):Bool:=decide (u-r>=if 6-(len:Int)+1<3 then 3 else 6-(len:Int)+1)
def kE (f:ah):ah:=(f.1,f.2.1,3,f.2.2.2)
def iq (n:aa)(d:bO):aa:=bif qr n.2.2.2.2.2.1 d.2.2.1 d.2.2.2.length then sayOf n (kE (aQ (aa.table n) d.1)) n.1 else n
def kk (n:aa):aa:=(aa.doubts n).foldl iq n
theorem due_s (K:Nat)(r:Int)(d:bO)(u:0<=d.2.2.1)(H:d.2.2.1<=r)(y:r<=1000000)(z:d.2.2.2.length<=1048576):Q185.f K (r,d,())=rb (qr r d.2.2.1 d.2.2.2.length):=by
 simp only[Q185.f];rw[aH (n:=6-(BB d.2.2.2:Int)) (by omega) (by omega),aH (n:=6-(BB d.2.2.2:Int)+1) (by omega) (by omega),aH (n:=r-d.2.2.1) (by omega) (by omega)];unfold qr;by_cases h:6-(BB d.2.2.2:Int)+1<3
 ·rw[decide_eq_true h,if_pos h];rfl
 ·rw[decide_eq_false h,if_neg h];rfl
structure pI (ds:List bO) (now:Int) (n:aa):Prop where
 ok:ct n
 key:∀ d∈ds,∃ f∈aa.table n,f.1=d.1
 now_:n.2.2.2.2.2.1=now
theorem uJ {f:ah}(h:bm f):bm (kE f):=⟨h.1,h.2.1,show (1:Int)<=3 by omega,show (3:Int)<=4 by omega⟩
theorem el {t:List ah}{r:Int}(y:aB t)(h:∃ f∈t,f.1=r):bm (aQ t r)/\(aQ t r).1=r/\aQ t r∈t:=by
 obtain⟨f,u,rfl⟩:=h;rw[jv y.2 u];exact⟨y.1 f u,rfl,u⟩
theorem uc {ds:List bO}{r:Int}{n:aa}{d:bO}(h:pI ds r n)(H:d∈ds):pI ds r (iq n d):=by
 unfold iq;cases qr n.2.2.2.2.2.1 d.2.2.1 d.2.2.2.length with
 |false=>exact h
 |true =>
  have O:=uJ (el h.ok.table (h.key d H)).1;refine⟨ip h.ok O,λz y=>?_,(iQ n _ _).2.2.2.2.2.1.trans h.now_⟩;obtain⟨g,I,e⟩:=h.key z y;obtain⟨J,u,M⟩:=jy (f:=kE (aQ (aa.table n) d.1)) (b:=n.1) I;exact⟨J,u,M.trans e⟩
theorem AD (K:Nat)(n:aa)(h:pI (aa.doubts n) n.2.2.2.2.2.1 n)(Z:∀ d∈aa.doubts n,0<=d.2.2.1/\d.2.2.1<=n.2.2.2.2.2.1/\d.2.2.2.length<=1048576)(z:n.2.2.2.2.2.1<=1000000)(J:1048577<K):Q186.f K (n,())=some ((kk n,()),()):=by
 have hl:=h.ok.ld;refine kD (step:=λrec a=>Q186.s0 K (n,()) rec a) (aa.doubts n) iq (pI (aa.doubts n) n.2.2.2.2.2.1) (λm i=>((i:Int),m.1,m.2.1,m.2.2.1,m.2.2.2.1,m.2.2.2.2.1,m.2.2.2.2.2.1,m.2.2.2.2.2.2.1,m.2.2.2.2.2.2.2.1,m.2.2.2.2.2.2.2.2.1,m.2.2.2.2.2.2.2.2.2.1,m.2.2.2.2.2.2.2.2.2.2.1.1,m.2.2.2.2.2.2.2.2.2.2.1.2.1,m.2.2.2.2.2.2.2.2.2.2.1.2.2.1,m.2.2.2.2.2.2.2.2.2.2.1.2.2.2,m.2.2.2.2.2.2.2.2.2.2.2.1,m.2.2.2.2.2.2.2.2.2.2.2.2.1.1,m.2.2.2.2.2.2.2.2.2.2.2.2.1.2.1,m.2.2.2.2.2.2.2.2.2.2.2.2.1.2.2.1,m.2.2.2.2.2.2.2.2.2.2.2.2.1.2.2.2,m.2.2.2.2.2.2.2.2.2.2.2.2.2.1,m.2.2.2.2.2.2.2.2.2.2.2.2.2.2)) (λm=>some ((m,()),())) n h ?_ ?_ (by omega)
 ·intro rec m i H u;refine⟨?_,uc u (BC H)⟩;simp only[Q186.s0,zc286a0,zc3ec45];obtain⟨R,I,M⟩:=Z _ (BC H);rw[show decide ((i:Int)<(BB n.2.2.2.2.2.2.2.2.2.2.2.1:Int))=true from bo (by omega:(i:Int)<(BB (aa.doubts n):Int)),show idx n.2.2.2.2.2.2.2.2.2.2.2.1 (i:Int)=some (aa.doubts n)[i] from ag H,au i (by omega)];simp only[cond_true,BA];rw[due_s K m.2.2.2.2.2.1 (aa.doubts n)[i] R (by rw[u.now_];exact I) (by rw[u.now_];exact z) M];simp only[BA];have r:=u.key _ (BC H);generalize (aa.doubts n)[i]=d at r R I M ⊢;unfold iq;cases qr m.2.2.2.2.2.1 d.2.2.1 d.2.2.2.length with
  |false=>rfl
  |true =>
   simp only[cond_true];have y:=el u.ok.table r;obtain⟨o,X,Y⟩:=fj K (aa.table m) d.1 u.ok.lt J;rw[show Q16.f K (m.2.2.2.2.2.2.2.2.1,d.1,())=_ from Y];simp only[BA];cases X with
   |no h=>exact absurd r (λ⟨f,hf,e⟩=>h f hf e)
   |at_ j O e =>
    simp only;rw[show idx m.2.2.2.2.2.2.2.2.1 ((j:Nat):Int)=some (aa.table m)[j] from ag O,ik u.ok.table.2 (BC O) y.2.2 (by rw[e,y.2.1])];simp only[BA];refine (congrArg (λo=>BS o _) (pG K m (kE (aQ (aa.table m) d.1)) m.1 u.ok J)).trans ?_;rfl
 ·intro rec m u;simp only[Q186.s0,zc286a0,zc3ec45];rw[show decide ((BB (aa.doubts n):Int)<(BB n.2.2.2.2.2.2.2.2.2.2.2.1:Int))=false from aS _];rfl
def setP (n:aa)(p:ah):aa:=(n.1,n.2.1,n.2.2.1,n.2.2.2.1,n.2.2.2.2.1,n.2.2.2.2.2.1,n.2.2.2.2.2.2.1,n.2.2.2.2.2.2.2.1,n.2.2.2.2.2.2.2.2.1,n.2.2.2.2.2.2.2.2.2.1,p,n.2.2.2.2.2.2.2.2.2.2.2)
def noP:ah:=(-1,0,0,false)
def pJ (f:ah):ah:=(f.1,f.2.1,2,f.2.2.2)
def vz (n:aa)(f:ah):Bool:=f.2.2.1==1&&f.1 != n.1&&f.1 != (aa.probe n).1
def fA (n:aa):List Int:=(((aa.table n).filter (vz n)).map (·.1)).take 2
def askW (n:aa)(to:Int):ak:=(1,3,n.1,to,(aa.probe n).2.2.1,(aa.probe n).1,aa.coord n,[])
def lw (n:aa):aa:=setP n ((aa.probe n).1,(aa.probe n).2.1,(aa.probe n).2.2.1,true)
def dl (n:aa):aa×List ak :=
 bif (aa.probe n).1==-1 then (n,[]) else
 bif !eA (aQ (aa.table n) (aa.probe n).1) then (setP n noP,[]) else
 bif decide (n.2.2.2.2.2.1-(aa.probe n).2.1>=4) then (bif (aQ (aa.table n) (aa.probe n).1).2.2.1==1 then sayOf (setP n noP) (pJ (aQ (aa.table n) (aa.probe n).1)) n.1 else setP n noP,[]) else
 bif decide (n.2.2.2.2.2.1-(aa.probe n).2.1>=2) then (bif !(aa.probe n).2.2.2 then (lw n,(fA n).map (askW n)) else (n,[])) else (n,[])
theorem ct.setP {n:aa}(h:ct n)(p:ah):ct (setP n p):=⟨h.table,h.cast,h.asc,h.inp,h.lt,h.lc,h.ld⟩
theorem zM {f:ah}(h:bm f):bm (pJ f):=⟨h.1,h.2.1,show (1:Int)<=2 by omega,show (2:Int)<=4 by omega⟩
theorem gY {t:List ah}{r:Int}(h:eA (aQ t r)=true):∃ f∈t,f.1=r:=by
 by_cases u:∃ f∈t,f.1=r
 ·exact u
 ·rw[jx (λg y e=>u ⟨g,y,e⟩)]at h;simp[eA]at h
theorem wT (K:Nat)(n:aa)(I:(aa.table n).length<=1048576)(J:1048577<K):Q188.f K (n,())=some ((fA n,()),()):=by
 have:=kS (step:=λrec a=>Q188.s0 K (n,()) rec a) (aa.table n) (vz n) (λf=>f.1) 2 (λy=>some ((y,()),())) ?_ ?_ ?_ (aa.table n).length 0 K [] (by omega) (by omega) (BR _) (by simp)
 ·exact this
 ·intro rec r i u H z;simp only[Q188.s0];rw[show decide ((i:Int)<(BB n.2.2.2.2.2.2.2.2.1:Int))=true from bo (by omega:(i:Int)<(BB (aa.table n):Int)),show idx n.2.2.2.2.2.2.2.2.1 (i:Int)=some (aa.table n)[i] from ag u,au i (by omega),decide_eq_true (by omega:(BB r:Int)<2)];simp only[cond_true,BA,vz];show (bif (aa.table n)[i].1 != n.1 then (bif (aa.table n)[i].1 != (aa.probe n).1 then (bif (aa.table n)[i].2.2.1==1 then (bif decide ((BB r+BB ([(aa.table n)[i].1]))*8<=ao) then (rec (r++([(aa.table n)[i].1]),((i+1:Nat):Int))) else none) else (rec (r,((i+1:Nat):Int)))) else (rec (r,((i+1:Nat):Int)))) else (rec (r,((i+1:Nat):Int))))=_;rw[szb _ _ _ (by omega) (by simp;omega)];cases (aa.table n)[i].1 != n.1 <;> cases (aa.table n)[i].1 != (aa.probe n).1 <;> cases (aa.table n)[i].2.2.1==1 <;> rfl
 ·intro rec r i u H z;simp only[Q188.s0];rw[show decide ((i:Int)<(BB n.2.2.2.2.2.2.2.2.1:Int))=true from bo (by omega:(i:Int)<(BB (aa.table n):Int)),decide_eq_false (by omega:¬ (BB r:Int)<2)];rfl
 ·intro rec r _;simp only[Q188.s0];rw[show decide ((BB (aa.table n):Int)<(BB n.2.2.2.2.2.2.2.2.1:Int))=false from aS _];rfl
theorem AE (K:Nat)(n:aa)(h:ct n)(R:(aa.probe n).1≠-1)(h0:0<=(aa.probe n).2.1)(h1:(aa.probe n).2.1<=1000000)(Z:0<=n.2.2.2.2.2.1)(a0:n.2.2.2.2.2.1<=1000000)(u:1048577<K) :
  Q189.f K (n,())=some (((dl n).1,(dl n).2,()),()):=by
 simp only[Q189.f,Q189.pre,zcp8,dl];rw[show ((aa.probe n).1==-1)=false by simpa using R];simp only[cond_false];rw[show Q187.f K (n.2.2.2.2.2.2.2.2.1,n.2.2.2.2.2.2.2.2.2.2.1.1,())=_ from sN K (aa.table n) (aa.probe n).1 h.table h.lt u];simp only[BA];cases I:eA (aQ (aa.table n) (aa.probe n).1) with
 |false=>rfl
 |true =>
  have y:=el h.table (gY I);simp only[BI,cond_false];rw[aH (n:=n.2.2.2.2.2.1-n.2.2.2.2.2.2.2.2.2.2.1.2.1) (by show -9223372036854775808<=n.2.2.2.2.2.1-(aa.probe n).2.1;omega) (by show n.2.2.2.2.2.1-(aa.probe n).2.1<=9223372036854775807;omega)];show (bif decide (n.2.2.2.2.2.1-(aa.probe n).2.1>=4) then _ else _)=_;cases decide (n.2.2.2.2.2.1-(aa.probe n).2.1>=4) with
  |true =>
   simp only[cond_true];obtain⟨o,X,e1⟩:=fj K (aa.table n) (aa.probe n).1 h.lt u;rw[show Q16.f K (n.2.2.2.2.2.2.2.2.1,n.2.2.2.2.2.2.2.2.2.2.1.1,())=_ from e1];simp only[BA];cases X with
   |no z=>exact absurd (gY I) (λ⟨f,y,e⟩=>z f y e)
   |at_ j J e =>
    simp only;rw[show idx n.2.2.2.2.2.2.2.2.1 ((j:Nat):Int)=some (aa.table n)[j] from ag J,ik h.table.2 (BC J) y.2.2 (by rw[e,y.2.1])];simp only[BA];cases (aQ (aa.table n) (aa.probe n).1).2.2.1==1 with
    |true =>
     simp only[cond_true];refine (congrArg (λo=>BS o _) (pG K (setP n noP) (pJ (aQ (aa.table n) (aa.probe n).1)) n.1 (h.setP noP) u)).trans ?_;rfl
    |false=>rfl
  |false =>
   simp only[cond_false];show (bif decide (n.2.2.2.2.2.1-(aa.probe n).2.1>=2) then _ else _)=_;cases decide (n.2.2.2.2.2.1-(aa.probe n).2.1>=2) with
   |false=>rfl
   |true =>
    simp only[cond_true];show (bif !(aa.probe n).2.2.2 then _ else _)=_;cases M:(aa.probe n).2.2.2 with
    |true=>rfl
    |false =>
     simp only[Bs,cond_true];refine (congrArg (λo=>BS o _) (wT K (lw n) h.lt u)).trans ?_;simp only[BA];rw[show fA (lw n)=fA n from rfl];have O:(fA n).length<=2:=CU _ _;refine Cn (qq (step:=λrec a=>Q189.s0 K (n,()) rec a) (fA n) (λ_=>true) (askW n) (λr i=>(r,fA n,(i:Int))) (λws=>some ((lw n,ws,()),())) ?_ ?_ (by omega)) (by rw[BT.2 (λ_ _=>rfl)])
     ·intro rec r i H Y;simp only[Q189.s0,zcp8];rw[bo (by omega:(i:Int)<(BB (fA n):Int)),ag H,au i (by omega),BE,ag H];simp only[cond_true,BA,Q41.f];rw[szb _ _ _ (by omega) (by simp)];simp only[cond_true,BA];rw[szw _ _ _ (by omega) (by simp;omega)];rfl
     ·intro rec r Y;simp only[Q189.s0,zcp8,aS];rfl
def gu (n:aa)(i:Int):aa:=(n.1,n.2.1,n.2.2.1,n.2.2.2.1,i,n.2.2.2.2.2)
def eB (n:aa)(f:ah):aa:=bif decide (bI f (aQ (aa.table n) n.1))&&decide (f.2.1<999) then sayOf (gu n (f.2.1+1)) (n.1,f.2.1+1,1,n.2.2.2.1) n.1 else n
def dL (f:ah)(b:Int)(d:bO):bO:=bif d.1==f.1&&d.2.1==f.2.1&&f.2.2.1==2 then (d.1,d.2.1,d.2.2.1,bw (λx:Int=>x) b d.2.2.2) else d
def jz (n:aa)(f:ah)(b:Int):aa:=fW n (aa.table n) (aa.cast n) ((aa.doubts n).map (dL f b))
def dv (b:Int)(n:aa)(f:ah):aa:=bif f.1==n.1 then eB n f else jz (sayOf n f b) f b
def gN (n:aa)(t:List ah)(b:Int):aa:=t.foldl (dv b) n
def kU (l:List Int):Prop:=Asc (λx:Int=>x) l/\∀ x∈l,InP x 0 7
theorem kU.len {l:List Int}(h:kU l):l.length<=8:=iP h.1 h.2
theorem kU.put {l:List Int}{b:Int}(h:kU l)(u:InP b 0 7):kU (bw (λx:Int=>x) b l) :=
 ⟨e8 h.1,λx r=>by
  rcases aZ.1 r with rfl|⟨r,_⟩
  ·exact u
  ·exact h.2 x r⟩
structure dt (n:aa):Prop where
 say:ct n
 me:InP n.1 0 7
 has:∃ g∈aa.table n,g.1=n.1
 by_:∀ d∈aa.doubts n,kU d.2.2.2
theorem ct.inc {n:aa}(h:ct n)(i:Int):ct (gu n i):=⟨h.table,h.cast,h.asc,h.inp,h.lt,h.lc,h.ld⟩
theorem jT {n:aa}{f:ah}{b:Int}(z:InP b 0 7)(h:∀ d∈aa.doubts n,kU d.2.2.2):∀ d∈aa.doubts (sayOf n f b),kU d.2.2.2:=by
 obtain⟨t,c,u,e,_,_,y⟩:=iG n f b;rw[e];intro d r;have r:d∈u:=r;rcases y with rfl|rfl
 ·exact h d r
 ·rcases kj r with rfl|r
  ·exact⟨Co _ _,λx H=>by rw[Bw.1 H];exact z⟩
  ·exact h d r
theorem qs {n:aa}{f:ah}(r:InP n.1 0 7)(u:bm f)(h:f.2.1<999):bm (n.1,f.2.1+1,1,n.2.2.2.1):=by
 obtain⟨_,⟨z,y⟩,_⟩:=u;exact⟨r,⟨show (0:Int)<=f.2.1+1 by omega,show f.2.1+1<=999 by omega⟩,show (1:Int)<=1 by omega,show (1:Int)<=4 by omega⟩
theorem dt.refute {n:aa}{f:ah}(h:dt n)(M:bm f):dt (eB n f):=by
 unfold eB;cases u:decide (bI f (aQ (aa.table n) n.1))&&decide (f.2.1<999) with
 |false=>exact h
 |true =>
  have I:f.2.1<999:=by
   rw[CB]at u;exact of_decide_eq_true u.2
  obtain⟨z,_⟩:=iQ (gu n (f.2.1+1)) (n.1,f.2.1+1,1,n.2.2.2.1) n.1;refine⟨ip (h.say.inc _) (qs h.me M I),?_,?_,jT h.me h.by_⟩
  ·show InP (sayOf (gu n (f.2.1+1)) (n.1,f.2.1+1,1,n.2.2.2.1) n.1).1 0 7;rw[z];exact h.me
  ·obtain⟨g,H,e⟩:=h.has;obtain⟨y,r,J⟩:=jy (n:=gu n (f.2.1+1)) (f:=(n.1,f.2.1+1,1,n.2.2.2.1)) (b:=n.1) (g:=g) H;refine⟨y,r,?_⟩;show y.1=(sayOf (gu n (f.2.1+1)) (n.1,f.2.1+1,1,n.2.2.2.1) n.1).1;rw[z,J,e];rfl
theorem dt.confirm {n:aa}{f:ah}{b:Int}(h:dt n)(Z:bm f)(M:InP b 0 7):dt (jz (sayOf n f b) f b):=by
 have u:=ip (b:=b) h.say Z;obtain⟨R,_⟩:=iQ n f b;have z:=jT (f:=f) M h.by_;obtain⟨g,Y,e⟩:=h.has;obtain⟨O,I,X⟩:=jy (n:=n) (f:=f) (b:=b) Y;have H:∀ d,(dL f b d).1=d.1:=λd=>by unfold dL;cases d.1==f.1&&d.2.1==f.2.1&&f.2.2.1==2 <;> rfl
 refine⟨⟨u.table,u.cast,?_,λd J=>?_,u.lt,u.lc,?_⟩,?_,⟨O,I,?_⟩,λd J=>?_⟩
 ·show Asc (λd:bO=>d.1) ((aa.doubts (sayOf n f b)).map (dL f b));unfold Asc;rw[Bv];exact u.asc.imp λ {a c} h=>by show (dL f b a).1<(dL f b c).1;rw[H,H];exact h
 ·obtain⟨y,r,rfl⟩:=BZ.1 J;rw[H];exact u.inp y r
 ·show ((aa.doubts (sayOf n f b)).map (dL f b)).length<=_;rw[BU];exact u.ld
 ·show InP (sayOf n f b).1 0 7;rw[R];exact h.me
 ·show O.1=(sayOf n f b).1;rw[R,X,e]
 ·obtain⟨y,r,rfl⟩:=BZ.1 J;unfold dL;cases y.1==f.1&&y.2.1==f.2.1&&f.2.2.1==2 with
  |false=>exact z y r
  |true=>exact (z y r).put M
theorem dt.step {n:aa}{f:ah}{b:Int}(h:dt n)(r:bm f)(u:InP b 0 7):dt (dv b n f):=by
 unfold dv;cases f.1==n.1 with
 |true=>exact h.refute r
 |false=>exact h.confirm r u
theorem sO {α A R:Type}(ds:List α)(g:α->α)(S:List α->Nat->A)(u:List α->Option R){step:(A->Option R)->A->Option R}
  (h:∀ (rec:A->Option R) (cur:List α) (i:Nat) (O:i<ds.length),cur.length=ds.length->cur[i]?=some ds[i]->step rec (S cur i)=rec (S (cur.set i (g ds[i])) (i+1)))
  (y:∀ (rec:A->Option R) (cur:List α),cur.length=ds.length->step rec (S cur ds.length)=u cur) {k:Nat} (J:ds.length<k):af step k (S ds 0)=u (ds.map g):=by
 have:∀ (d i k:Nat) (cur:List α),i+d=ds.length->d<k->cur.length=ds.length->(∀ j,(r:j<ds.length)->cur[j]?=some (if j<i then g ds[j] else ds[j]))->af step k (S cur i)=u (ds.map g):=by
  intro d;induction d with
  |zero =>
   intro i k cur O J I H;obtain⟨k,rfl⟩:∃ M,k=M+1:=⟨k-1,by omega⟩;have:i=ds.length:=by omega
   subst this;show step (af step k) _=_;rw[y _ _ I];congr 1;refine List.ext_getElem? λj=>?_
   rw[List.getElem?_map];by_cases r:j<ds.length
   ·rw[H j r,if_pos r,BK r];rfl
   ·rw[CL (by omega),CL (by omega)];rfl
  |succ d Y =>
   intro i k cur O J I H;obtain⟨k,rfl⟩:∃ M,k=M+1:=⟨k-1,by omega⟩;have z:i<ds.length:=by omega
   show step (af step k) _=_;rw[h (af step k) cur i z I (by rw[H i z,if_neg (by omega)])];refine Y (i+1) k _ (by omega) (by omega) (by rw[Ct,I]) λj r=>?_
   rw[List.getElem?_set];by_cases e:i=j
   ·subst e;rw[if_pos rfl,if_pos (by omega),if_pos (by omega)]
   ·rw[if_neg e,H j r];by_cases X:j<i
    ·rw[if_pos X,if_pos (by omega)]
    ·rw[if_neg X,if_neg (by omega)]
 exact this ds.length 0 k ds (by omega) J rfl (λj r=>by rw[if_neg (by omega),BK r])
theorem lZ {α:Type}{cur:List α}{i:Nat}{x:α}(h:cur[i]?=some x):cur.set i x=cur:=by
 obtain⟨r,e⟩:=List.getElem?_eq_some_iff.1 h;rw[<- e,List.set_getElem_self]
theorem sP {by_:List Int}{b:Int}{m:Nat}(u:m<=by_.length)(r:by_.length<=8){R:Type}(G:List Int->Option R) :
  (bif decide ((0:Int)<=0)&&decide ((0:Int)<=(m:Int))&&decide ((m:Int)<=(BB by_:Int))&&true then (bif decide ((BB ([]:List Int)+BB ((by_.take (BD (m:Int))).drop (BD 0)))*8<=ao) then (bif decide ((BB ([]++((by_.take (BD (m:Int))).drop (BD 0)))+BB ([b]))*8<=ao) then (bif decide ((0:Int)<=(m:Int))&&decide ((m:Int)<=(BB by_:Int))&&decide ((BB by_:Int)<=(BB by_:Int))&&true then (bif decide ((BB (([]++((by_.take (BD (m:Int))).drop (BD 0)))++([b]))+BB ((by_.take (BD (BB by_:Int))).drop (BD (m:Int))))*8<=ao) then G ((([]++((by_.take (BD (m:Int))).drop (BD 0)))++([b]))++((by_.take (BD (BB by_:Int))).drop (BD (m:Int)))) else none) else none) else none) else none) else none)=G (by_.take m++[b]++by_.drop m):=by
 rw[decide_eq_true (by omega:(0:Int)<=0),decide_eq_true (by omega:(0:Int)<=(m:Int)),decide_eq_true (by omega:(m:Int)<=(BB by_:Int)),decide_eq_true (by omega:(BB by_:Int)<=(BB by_:Int))];simp only[BE,CO,Br,BO,CI,CK,cond_true];have y:(by_.take m).length=m:=by rw[BW];omega
 have z:(by_.drop m).length=by_.length-m:=Bx;rw[szb _ _ _ (by omega) (by simp only[BM];omega),szb _ _ _ (by omega) (by simp only[BG,BM];omega),szb _ _ _ (by omega) (by simp only[BP,BG,BM];omega)];rfl
theorem wU (K:Nat)(n:aa)(f:ah)(b:Int)(hd:∀ d∈aa.doubts n,kU d.2.2.2)(hl:(aa.doubts n).length<=1048576)(hK:1048577<K):Q34.f K (n,f,b,())=some ((jz n f b,()),()):=by
 simp only[Q34.f,Q34.pre];refine sO (step:=λrec a=>Q34.s0 K (n,f,b,()) (Q34.l1 K (n,f,b,()) rec) rec a) (aa.doubts n) (dL f b) (λu i=>((i:Int),u)) (λu=>some ((fW n (aa.table n) (aa.cast n) u,()),())) ?_ ?_ (by omega)
 ·intro rec u i hi X I;have M:i<u.length:=by omega
  have a0:u[i]=(aa.doubts n)[i]:=by
   rw[BK M]at I;exact DC I
  have R:=hd _ (BC hi);simp only[Q34.s0,zcp8];rw[bo (by omega:(i:Int)<(BB u:Int)),ag M,au i (by omega),BE,ag M,a0];simp only[cond_true,BA];generalize ab:(aa.doubts n)[i]=d at R I ⊢;have y:rec (((i+1:Nat):Int),u)=rec (((i+1:Nat):Int),u.set i d):=by rw[lZ I]
  unfold dL;by_cases h1:d.1=f.1
  case neg =>
   rw[show (d.1 != f.1)=true by simpa using h1,show (d.1==f.1)=false by simpa using h1];exact y
  by_cases h2:d.2.1=f.2.1
  case neg =>
   rw[show (d.1 != f.1)=false by simpa using h1,show (d.2.1 != f.2.1)=true by simpa using h2,show (d.2.1==f.2.1)=false by simpa using h2,Cv];exact y
  by_cases h3:f.2.2.1=2
  case neg =>
   rw[show (d.1 != f.1)=false by simpa using h1,show (d.2.1 != f.2.1)=false by simpa using h2,show (f.2.2.1 != 2)=true by simpa using h3,show (f.2.2.1==2)=false by simpa using h3,Cv];exact y
  rw[show (d.1 != f.1)=false by simpa using h1,show (d.2.1 != f.2.1)=false by simpa using h2,show (f.2.2.1 != 2)=false by simpa using h3,show (d.1==f.1)=true by simpa using h1,show (d.2.1==f.2.1)=true by simpa using h2,show (f.2.2.1==2)=true by simpa using h3];simp only[cond_false,CK,cond_true];have a1:=R.len;have a2:∀ m:Nat,m<=d.2.2.2.length->(∀ j,(J:j<d.2.2.2.length)->j<m->d.2.2.2[j]<b)->(∀ j,(J:j<d.2.2.2.length)->m<=j->b<d.2.2.2[j])->d.2.2.2.take m++[b]++d.2.2.2.drop m=bw (λx:Int=>x) b d.2.2.2:=λm Z lo hi=>gr (k:=λx:Int=>x) Z lo hi
  have:=cr (step:=λr a=>Q34.s1 K (n,f,b,()) rec r a) d.2.2.2.length (λj=>((i:Int),(j:Int),u,d.1,d.2.1,d.2.2.1,d.2.2.2)) (λj=>∃ h:j<d.2.2.2.length,¬ d.2.2.2[j]<b)
   (rec (((i+1:Nat):Int),u.set i (d.1,d.2.1,d.2.2.1,d.2.2.2.take d.2.2.2.length++[b]++d.2.2.2.drop d.2.2.2.length)))
   (λj=>if h:j<d.2.2.2.length then (if d.2.2.2[j]=b then rec (((i+1:Nat):Int),u) else rec (((i+1:Nat):Int),u.set i (d.1,d.2.1,d.2.2.1,d.2.2.2.take j++[b]++d.2.2.2.drop j))) else none) ?_ ?_ d.2.2.2.length K 0 (by omega) (by omega)
  ·rcases this with ⟨a4,he⟩|⟨j,_,J,⟨Y,a9⟩,a6,he⟩
   ·refine Cn he ?_;rw[a2 _ (BR _) (λj J _=>by
     by_cases O:d.2.2.2[j]<b
     ·exact O
     ·exact absurd ⟨J,O⟩ (a4 j (BX _) J)) (λj J Z=>by omega)]
   ·refine Cn he ?_;rw[dif_pos Y];have lo:∀ m,(Z:m<d.2.2.2.length)->m<j->d.2.2.2[m]<b:=λm Z a5=>by
     by_cases O:d.2.2.2[m]<b
     ·exact O
     ·exact absurd ⟨Z,O⟩ (a6 m (BX _) a5)
    by_cases H:d.2.2.2[j]=b
    ·rw[if_pos H,<- il (k:=λx:Int=>x) R.1 Y H];rw[show d.2.2.2.set j b=d.2.2.2 from lZ (by rw[BK Y,H])];exact y
    ·rw[if_neg H,a2 j (by omega) lo (λm Z a3=>by
      rcases B5 a3 with h4|rfl
      ·have:=cD.1 R.1 j m (by omega) Z h4;omega
      ·omega)]
  ·intro r j J;simp only[Q34.s1];rw[bo (by omega:(j:Int)<(BB d.2.2.2:Int)),ag J,au j (by omega)];simp only[cond_true,BA];by_cases O:d.2.2.2[j]<b
   ·left;refine⟨λ⟨_,h⟩=>h O,?_⟩;rw[decide_eq_true O];rfl
   ·right;refine⟨⟨J,O⟩,?_⟩;rw[decide_eq_false O,show ((j:Int)==(BB d.2.2.2:Int))=false by simp;omega,dif_pos J];simp only[cond_false];by_cases H:d.2.2.2[j]=b
    ·rw[if_pos H,show (d.2.2.2[j] != b)=false by simpa using H,au i (by omega)];rfl
    ·rw[if_neg H,show (d.2.2.2[j] != b)=true by simpa using H];simp only[cond_true];refine (sP (m:=j) (b:=b) (Nat.le_of_lt J) a1 (λz=>(idx u (i:Int)).bind λ_=>(idx u (BD (i:Int):Nat)).bind λ_=>rec (wr .i64 ((i:Int)+1),u.set (BD (i:Int)) (d.1,(d.2.1,(d.2.2.1,z)))))).trans ?_;rw[BE,ag M,au i (by omega)];rfl
  ·intro r;simp only[Q34.s1];rw[aS];simp only[cond_false,beq_self_eq_true,cond_true];refine (sP (b:=b) (BR _) a1 (λz=>(idx u (i:Int)).bind λ_=>(idx u (BD (i:Int):Nat)).bind λ_=>rec (wr .i64 ((i:Int)+1),u.set (BD (i:Int)) (d.1,(d.2.1,(d.2.2.1,z)))))).trans ?_;rw[BE,ag M,au i (by omega)];rfl
 ·intro rec u X;simp only[Q34.s0,zcp8];rw[<- X,aS];rfl
theorem yl (K:Nat)(n:aa)(f:ah)(h:dt n)(O:bm f)(z:1048577<K):Q33.f K (n,f,())=some ((eB n f,()),()):=by
 simp only[Q33.f,zcp4];have r:=el h.say.table h.has;obtain⟨o,I,J⟩:=fj K (aa.table n) n.1 h.say.lt z;rw[show Q16.f K (n.2.2.2.2.2.2.2.2.1,n.1,())=_ from J];simp only[BA];cases I with
 |no u=>exact absurd h.has (λ⟨g,M,e⟩=>u g M e)
 |at_ j H e =>
  simp only;rw[show idx n.2.2.2.2.2.2.2.2.1 ((j:Nat):Int)=some (aa.table n)[j] from ag H,ik h.say.table.2 (BC H) r.2.2 (by rw[e,r.2.1])];simp only[BA];rw[pF];obtain⟨_,⟨X,R⟩,_⟩:=O;simp only[rb,BA,eB];cases decide (bI f (aQ (aa.table n) n.1)) with
  |false=>rfl
  |true =>
   simp only[BI,cond_false,B6];by_cases y:f.2.1<999
   ·rw[decide_eq_false (by omega:¬ f.2.1>=999),decide_eq_true y,aH (by omega) (by omega)];simp only[cond_false,cond_true];refine (congrArg (λo=>BS o _) (pG K (gu n (f.2.1+1)) (n.1,f.2.1+1,1,n.2.2.2.1) n.1 (h.say.inc _) z)).trans ?_;rfl
   ·rw[decide_eq_true (by omega:f.2.1>=999),decide_eq_false y];rfl
theorem uK (K:Nat)(n:aa)(t:List ah)(b:Int)(h:dt n)(I:∀ f∈t,bm f)(J:t.length<=1048576)(H:InP b 0 7)(y:1048577<K):Q35.f K (n,t,b,())=some ((gN n t b,()),()):=by
 refine kD (step:=λrec a=>Q35.s0 K (n,t,b,()) rec a) t (dv b) dt (λm i=>((i:Int),m.1,m.2.1,m.2.2.1,m.2.2.2.1,m.2.2.2.2.1,m.2.2.2.2.2.1,m.2.2.2.2.2.2.1,m.2.2.2.2.2.2.2.1,m.2.2.2.2.2.2.2.2.1,m.2.2.2.2.2.2.2.2.2.1,m.2.2.2.2.2.2.2.2.2.2.1.1,m.2.2.2.2.2.2.2.2.2.2.1.2.1,m.2.2.2.2.2.2.2.2.2.2.1.2.2.1,m.2.2.2.2.2.2.2.2.2.2.1.2.2.2,m.2.2.2.2.2.2.2.2.2.2.2.1,m.2.2.2.2.2.2.2.2.2.2.2.2.1.1,m.2.2.2.2.2.2.2.2.2.2.2.2.1.2.1,m.2.2.2.2.2.2.2.2.2.2.2.2.1.2.2.1,m.2.2.2.2.2.2.2.2.2.2.2.2.1.2.2.2,m.2.2.2.2.2.2.2.2.2.2.2.2.2.1,m.2.2.2.2.2.2.2.2.2.2.2.2.2.2)) (λm=>some ((m,()),())) n h ?_ ?_ (by omega)
 ·intro rec m i z r;have u:=I _ (BC z);refine⟨?_,r.step u H⟩;simp only[Q35.s0,zc286a0,zc3ec45];rw[bo (by omega:(i:Int)<(BB t:Int)),ag z,au i (by omega)];simp only[cond_true,BA];generalize t[i]=f at u ⊢;unfold dv;cases f.1==m.1 with
  |true =>
   simp only[cond_true];refine (congrArg (λo=>BS o _) (yl K m f r u y)).trans ?_;rfl
  |false =>
   simp only[cond_false];refine (congrArg (λo=>BS o _) (pG K m f b r.say y)).trans ?_;simp only[BA];rw[wU K (sayOf m f b) f b (jT H r.by_) (ip r.say u).ld y];rfl
 ·intro rec m r;simp only[Q35.s0,zc286a0,zc3ec45];rw[aS];rfl
theorem zN (K:Nat)(l:List Int)(v:Int)(O:l.length<=1048576)(hA:Asc (λx:Int=>x) l)(hK:1048577<K) :
  ∃ m,m<=l.length/\(∀ i,(h:i<l.length)->i<m->l[i]<v)/\(∀ i,(h:i<l.length)->m<=i->v<=l[i])/\Q115.f K (l,v,())=some ((((m:Nat):Int),decide (∃ h:m<l.length,l[m]=v),()),()):=by
 let ks:Nat->Int:=λi=>if h:i<l.length then l[i] else 0
 have r:∀ i (h:i<l.length),ks i=l[i]:=λi h=>by simp[ks,h]
 let u:Nat->Option ((Int×Bool×Unit)×Unit):=λm=>some ((((m:Nat):Int),decide (∃ h:m<l.length,l[m]=v),()),())
 have:=pz (step:=λrec a=>Q115.s0 K (l,v,()) rec a) (ks:=ks) (n:=l.length) (t:=v) u O
  (λi j z H=>by
   rw[r i (by omega),r j H];exact cD.1 hA i j (by omega) H z) ?_ ?_ l.length K 0 l.length (by omega) (BX _) (BR _) (by omega) (λi y=>by omega) (λi y hn=>by omega)
 ·obtain⟨m,X,R,h3,Z⟩:=this;exact⟨m,X,λi h y=>by rw[<- r i h];exact R i y,λi h y=>by rw[<- r i h];exact h3 i y h,Z⟩
 ·intro rec a b J hb;have I:(a+b) / 2<l.length:=by omega
  simp only[Q115.s0];rw[decide_eq_true (by omega:(a:Int)<(b:Int)),nH (by omega)];simp only[cond_true];rw[ag I];simp only[BA,Q113.f,Q70.f,bne_self_eq_false,cond_false];rw[r _ I,au _ (by omega)];by_cases h:l[(a+b) / 2]<v
  ·rw[if_pos h,decide_eq_true h];rfl
  ·rw[if_neg h,decide_eq_false h];rfl
 ·intro rec a ha;simp only[Q115.s0];rw[decide_eq_false (by omega)];simp only[cond_false];by_cases h:a<l.length
  ·rw[decide_eq_true (by omega:(a:Int)<(BB l:Int)),ag h];simp only[cond_true,BA,Q114.f,bne_self_eq_false,cond_false];by_cases e:l[a]=v
   ·rw[show (l[a]==v)=true by simpa using e];simp only[cond_true,u];rw[decide_eq_true ⟨h,e⟩]
   ·rw[show (l[a]==v)=false by simpa using e];simp only[cond_false,u];rw[decide_eq_false (λ⟨_,Y⟩=>e Y)]
  ·rw[decide_eq_false (by omega:¬ (a:Int)<(BB l:Int))];simp only[cond_false,u];rw[decide_eq_false (λ⟨M,_⟩=>h M)]
abbrev flN {R:Type}(n:aa)(r:R):=(n.1,n.2.1,n.2.2.1,n.2.2.2.1,n.2.2.2.2.1,n.2.2.2.2.2.1,n.2.2.2.2.2.2.1,n.2.2.2.2.2.2.2.1,n.2.2.2.2.2.2.2.2.1,n.2.2.2.2.2.2.2.2.2.1,n.2.2.2.2.2.2.2.2.2.2.1.1,n.2.2.2.2.2.2.2.2.2.2.1.2.1,n.2.2.2.2.2.2.2.2.2.2.1.2.2.1,n.2.2.2.2.2.2.2.2.2.2.1.2.2.2,n.2.2.2.2.2.2.2.2.2.2.2.1,n.2.2.2.2.2.2.2.2.2.2.2.2.1.1,n.2.2.2.2.2.2.2.2.2.2.2.2.1.2.1,n.2.2.2.2.2.2.2.2.2.2.2.2.1.2.2.1,n.2.2.2.2.2.2.2.2.2.2.2.2.1.2.2.2,n.2.2.2.2.2.2.2.2.2.2.2.2.2.1,n.2.2.2.2.2.2.2.2.2.2.2.2.2.2,r)
abbrev flE (n:aa):=(n.1,n.2.1,n.2.2.1,n.2.2.2.1,n.2.2.2.2.1,n.2.2.2.2.2.1,n.2.2.2.2.2.2.1,n.2.2.2.2.2.2.2.1,n.2.2.2.2.2.2.2.2.1,n.2.2.2.2.2.2.2.2.2.1,n.2.2.2.2.2.2.2.2.2.2.1.1,n.2.2.2.2.2.2.2.2.2.2.1.2.1,n.2.2.2.2.2.2.2.2.2.2.1.2.2.1,n.2.2.2.2.2.2.2.2.2.2.1.2.2.2,n.2.2.2.2.2.2.2.2.2.2.2.1,n.2.2.2.2.2.2.2.2.2.2.2.2.1.1,n.2.2.2.2.2.2.2.2.2.2.2.2.1.2.1,n.2.2.2.2.2.2.2.2.2.2.2.2.1.2.2.1,n.2.2.2.2.2.2.2.2.2.2.2.2.1.2.2.2,n.2.2.2.2.2.2.2.2.2.2.2.2.2.1,n.2.2.2.2.2.2.2.2.2.2.2.2.2.2)
theorem wV (K:Nat)(n0:aa)(t:List ah)(n:aa)(f:ah)(b:Int)(i:Nat)(hi:i<=1048576)(hd:∀ d∈aa.doubts n,kU d.2.2.2)(hl:(aa.doubts n).length<=1048576)(hK:1048577<K)(I:Q116.A0->Option Q116.Res) :
  Q116.l1 K (n0,t,b,()) I ((i:Int),(BB (aa.doubts n):Int),0,flN n f)=I (((i+1:Nat):Int),flE (jz n f b)):=by
 refine sO (step:=λr a=>Q116.s1 K (n0,t,b,()) I r a) (aa.doubts n) (dL f b) (λu k=>((i:Int),(BB (aa.doubts n):Int),(k:Int),flN (fW n (aa.table n) (aa.cast n) u) f)) (λu=>I (((i+1:Nat):Int),flE (fW n (aa.table n) (aa.cast n) u))) ?_ ?_ (by omega)
 ·intro rec u k hk a0 H;have X:k<u.length:=by omega
  have M:u[k]=(aa.doubts n)[k]:=by
   rw[BK X]at H;exact DC H
  have J:=hd _ (BC hk);have z:idx u (k:Int)=some (aa.doubts n)[k]:=by rw[ag X,M]
  simp only[Q116.s1,zcp4,zcp8];rw[bo (by omega:(k:Int)<(BB (aa.doubts n):Int)),au k (by omega),BE];simp only[cond_true];refine (congrArg (λo=>BS o _) z).trans ?_;simp only[BA];generalize a2:(aa.doubts n)[k]=d at J H z ⊢;have y:rec ((i:Int),(BB (aa.doubts n):Int),((k+1:Nat):Int),flN (fW n (aa.table n) (aa.cast n) u) f)=rec ((i:Int),(BB (aa.doubts n):Int),((k+1:Nat):Int),flN (fW n (aa.table n) (aa.cast n) (u.set k d)) f):=by rw[lZ H]
  unfold dL;by_cases h3:f.2.2.1=2
  case neg =>
   rw[show (f.2.2.1 != 2)=true by simpa using h3,show (f.2.2.1==2)=false by simpa using h3,Cv];exact y
  rw[show (f.2.2.1 != 2)=false by simpa using h3,show (f.2.2.1==2)=true by simpa using h3];simp only[cond_false,Cf];refine (congrArg (λo=>BS o _) z).trans ?_;simp only[BA];by_cases h1:d.1=f.1
  case neg =>
   rw[show (d.1 != f.1)=true by simpa using h1,show (d.1==f.1)=false by simpa using h1,CH];exact y
  rw[show (d.1 != f.1)=false by simpa using h1,show (d.1==f.1)=true by simpa using h1];simp only[cond_false,B6];refine (congrArg (λo=>BS o _) z).trans ?_;simp only[BA];by_cases h2:d.2.1=f.2.1
  case neg =>
   rw[show (d.2.1 != f.2.1)=true by simpa using h2,show (d.2.1==f.2.1)=false by simpa using h2];exact y
  rw[show (d.2.1 != f.2.1)=false by simpa using h2,show (d.2.1==f.2.1)=true by simpa using h2];simp only[cond_false,cond_true];refine (congrArg (λo=>BS o _) z).trans ?_;simp only[BA];have a1:=J.len;obtain⟨m,hm,lo,Y,hs⟩:=zN K d.2.2.2 b (by omega) J.1 hK;refine (congrArg (λo=>BS o _) hs).trans ?_;simp only[BA];by_cases hb:∃ h:m<d.2.2.2.length,d.2.2.2[m]=b
  ·rw[decide_eq_true hb];obtain⟨Z,e⟩:=hb;rw[show bw (λx:Int=>x) b d.2.2.2=d.2.2.2 by rw[<- il (k:=λx:Int=>x) J.1 Z e];exact lZ (by rw[BK Z,e])];exact y
  ·rw[decide_eq_false hb];simp only[Bs,cond_true];refine (congrArg (λo=>BS o _) z).trans ?_;simp only[BA];refine (congrArg (λo=>BS o _) z).trans ?_;simp only[BA];have O:Q6.f K (d.2.2.2,(m:Int),[b],())=some ((d.2.2.2.take m++[b]++d.2.2.2.drop m,()),()):=ju hm (by decide) (by show d.2.2.2.length<=1048576;omega);refine (congrArg (λo=>BS o _) O).trans ?_;simp only[BA];refine (congrArg (λo=>BS o _) z).trans ?_;rw[<- gr (k:=λx:Int=>x) hm lo (λj hj R=>by
    rcases Int.lt_or_eq_of_le (Y j hj R) with h|h
    ·exact h
    ·exfalso;rcases B5 R with h4|rfl
     ·have:=cD.1 J.1 m j (by omega) hj h4;have h5:=Y m (by omega) (BR _);omega
     ·exact hb ⟨hj,h.symm⟩)]
   simp only[BA,Nat.beq_refl,cond_true];rfl
 ·intro rec u a0;simp only[Q116.s1,zcp4,zcp8];rw[aS,au i (by omega)];rfl
theorem ym {R:Type}(K:Nat)(n:aa)(f:ah)(h:dt n)(y:bm f)(e:f.1=n.1)(u:1048577<K)(G:aa->Option R) :
  ((Q74.f K (aa.table n,n.1,())).bind λZ=>(Q88.f K (f,Z.1.1,())).bind λI=>bif I.1.1 then (bif decide (f.2.1<999) then ((Q112.f K (gu n (wr .i64 (f.2.1+1)),(n.1,wr .i64 (f.2.1+1),1,n.2.2.2.1),n.1,())).bind λJ=>G J.2.1) else G n) else G n)=G (eB n f):=by
 obtain⟨b',O⟩:=mO K (aa.table n) n.1 h.say.table h.say.lt u;rw[O];simp only[BA];obtain⟨H,X,p3⟩:=el h.say.table h.has;obtain⟨c,M,Y⟩:=pA K f (aQ (aa.table n) n.1) u;rw[M];have z:c=decide (bI f (aQ (aa.table n) n.1)):=by
  rw[CJ,Y,decide_eq_true_eq];exact⟨λh=>h.2.2.2,λh=>⟨y,H,e.trans X.symm,h⟩⟩
 subst z;obtain⟨_,⟨i0,i1⟩,_⟩:=id y;simp only[rb,BA,eB];cases decide (bI f (aQ (aa.table n) n.1)) with
 |false=>rfl
 |true =>
  simp only[cond_true,B6];by_cases r:f.2.1<999
  ·rw[decide_eq_true r,aH (by omega) (by omega)];simp only[cond_true];rw[zk K (gu n (f.2.1+1)) (n.1,f.2.1+1,1,n.2.2.2.1) n.1 (h.say.inc _) (qs h.me y r) u];rfl
  ·rw[decide_eq_false r];rfl
theorem uL (K:Nat)(n:aa)(t:List ah)(b:Int)(h:dt n)(J:∀ f∈t,bm f)(M:t.length<=1048576)(I:InP b 0 7)(y:1048577<K):Q116.f K (n,t,b,())=some ((),(gN n t b,())):=by
 refine kD (step:=λrec a=>Q116.s0 K (n,t,b,()) (Q116.l1 K (n,t,b,()) rec) rec a) t (dv b) dt (λm i=>((i:Int),flE m)) (λm=>some ((),(m,()))) n h ?_ ?_ (by omega)
 ·intro rec m i H r;have u:=J _ (BC H);refine⟨?_,r.step u I⟩;simp only[Q116.s0,zc286a0,zc3ec45,zcp4];rw[bo (by omega:(i:Int)<(BB t:Int)),ag H,au i (by omega)];simp only[cond_true,BA];generalize t[i]=f at u ⊢;unfold dv;by_cases e:f.1=m.1
  ·rw[show (f.1==m.1)=true by simpa using e];simp only[cond_true];exact ym K m f r u e y (λz=>rec (((i+1:Nat):Int),flE z))
  ·rw[show (f.1==m.1)=false by simpa using e];simp only[cond_false];refine (congrArg (λo=>BS o _) (zk K m f b r.say u y)).trans ?_;simp only[BA];exact wV K n t (sayOf m f b) f b i (by omega) (jT I r.by_) (ip r.say u).ld y rec
 ·intro rec m r;simp only[Q116.s0,zc286a0,zc3ec45,zcp4];rw[aS];rfl
def dz {α:Type}(r:α->α->Bool)(x:α):List α->List α->List α
 |[],B=>x::B
 |y::A,B=>bif r x y then dz r x A (y::B) else (y::A).reverse++x::B
def cS {α:Type}(r:α->α->Bool):List α->List α->List α
 |done,[]=>done
 |done,x::u=>cS r (dz r x done.reverse []) u
theorem oV {α:Type}(r:α->α->Bool)(x:α):∀ (A B C:List α),dz r x A (B++C)=dz r x A B++C
 |[],B,C=>rfl
 |y::A,B,C=>by
  simp only[dz];cases r x y with
  |true=>exact oV r x A (y::B) C
  |false=>simp
theorem oW {α:Type}(r:α->α->Bool)(x:α):∀ (A B:List α),(dz r x A B).length=A.length+B.length+1
 |[],B=>by simp[dz]
 |y::A,B=>by
  simp only[dz];cases r x y with
  |true=>simp only[cond_true];rw[oW r x A (y::B)];simp;omega
  |false=>simp;omega
theorem mQ {α:Type}(r:α->α->Bool)(x:α):∀ (A B:List α),(dz r x A B).Perm (x::(A.reverse++B))
 |[],B=>by simp[dz]
 |y::A,B=>by
  simp only[dz];cases r x y with
  |true=>exact (mQ r x A (y::B)).trans (by simp)
  |false=>simp only[cond_false];exact C5
theorem l6 {α:Type}(r:α->α->Bool):∀ (xs done:List α),(cS r done xs).Perm (done++xs)
 |[],done=>by simp[cS]
 |x::xs,done=>by
  simp only[cS];refine (l6 r xs _).trans ?_;have:=mQ r x done.reverse [];simp only[Bt,BN]at this;exact (this.append_right xs).trans (by simpa using (C5 (a:=x) (l₁:=done) (l₂:=xs)).symm)
def jF {α:Type}(r:α->α->Bool)(xs:List α):Prop:=xs.Pairwise λa b=>r b a=false
theorem kV {α:Type}(r:α->α->Bool)(H:∀ a b c,r a b=false->r b c=false->r a c=false)(x:α) :
  ∀ (A B:List α),jF r A.reverse->dz r x A B=(A.reverse.filter λy=>!r x y)++x::((A.reverse.filter λy=>r x y)++B)
 |[],B,_=>rfl
 |y::A,B,h=>by
  simp only[dz];have M:jF r A.reverse:=by
   unfold jF at h ⊢;rw[CG,CE]at h;exact h.1
  cases z:r x y with
  |true =>
   simp only[cond_true];rw[kV r H x A (y::B) M];simp[z,B4]
  |false =>
   have I:∀ a∈A.reverse,r x a=false:=λa u=>by
    unfold jF at h;rw[CG,CE]at h;exact H x y a z (h.2.2 a u y (by simp))
   simp only[cond_false];have O:(y::A).reverse.filter (λy=>!r x y)=(y::A).reverse:=BT.2 λa u=>by
    rw[CG,B3,Bw]at u;rcases u with u|rfl
    ·rw[I a u];rfl
    ·rw[z];rfl
   have J:(y::A).reverse.filter (λy=>r x y)=[]:=BY.2 λa u=>by
    rw[CG,B3,Bw]at u;rcases u with u|rfl
    ·rw[I a u];simp
    ·rw[z];simp
   rw[O,J];rfl
theorem vA {α:Type}(r:α->α->Bool)(H:∀ a b c,r a b=false->r b c=false->r a c=false)(u:∀ a b,r a b=true->r b a=false)(x:α)(A:List α)(h:jF r A):jF r (dz r x A.reverse []):=by
 rw[kV r H x A.reverse [] (by rwa [Bt])];unfold jF at h ⊢;simp only[Bt,BN];rw[CE];refine⟨h.filter _,?_,?_⟩
 ·rw[BQ];refine⟨λa z=>?_,h.filter _⟩;exact u _ _ (by simpa using (BH.1 z).2)
 ·intro a z b y;have I:r x a=false:=by simpa using (BH.1 z).2
  rcases B9.1 y with rfl|y
  ·exact I
  ·have J:r x b=true:=by simpa using (BH.1 y).2
   exact H b x a (u _ _ J) I
theorem mR {α:Type}(r:α->α->Bool)(y:∀ a b c,r a b=false->r b c=false->r a c=false)(u:∀ a b,r a b=true->r b a=false):∀ (xs done:List α),jF r done->jF r (cS r done xs)
 |[],done,h=>h
 |x::xs,done,h=>mR r y u xs _ (vA r y u x done h)
theorem oc {α:Type}(J:α->α->Bool):∀ {u H:List α},u.Perm H->jF J u->H.Pairwise (λa b=>J a b=true)->u=H
 |u,[],r,_,_=>r.eq_nil
 |[],z::H,r,_,_=>absurd r.symm.eq_nil (by simp)
 |y::u,z::H,r,I,M=>by
  unfold jF at I;rw[BQ]at I M;have e:y=z:=by
   rcases B9.1 (r.mem_iff.1 (Cz ..)) with h|h
   ·exact h
   ·have R:=M.1 y h;rcases B9.1 (r.symm.mem_iff.1 (Cz ..)) with O|O
    ·exact O.symm
    ·rw[I.1 z O]at R;cases R
  subst e;rw[oc J r.cons_inv I.2 M.2]
abbrev SoR (α:Type):=Unit×(List α×Unit)
theorem vB {α R:Type}(z:α->α->Bool)(i:Int)(r:List α×Int->Option R){step:(List α×Int×Int->Option R)->List α×Int×Int->Option R}
  (h:∀ (rec:List α×Int×Int->Option R) (A:List α) (y x:α) (B:List α),A.length+B.length<=1048576->step rec (A++y::x::B,i,((A.length+1:Nat):Int))=bif z x y then rec (A++x::y::B,i,(A.length:Int)) else r (A++y::x::B,wr .i64 (i+1)))
  (O:∀ (rec:List α×Int×Int->Option R) (M:List α),step rec (M,i,0)=r (M,wr .i64 (i+1))) :
  ∀ (A B:List α) (x:α) (k:Nat),A.length+B.length<=1048576->A.length<k->af step k (A.reverse++x::B,i,(A.length:Int))=r (dz z x A B,wr .i64 (i+1)):=by
 intro A;induction A with
 |nil =>
  intro B x k I u;obtain⟨k,rfl⟩:∃ H,k=H+1:=⟨k-1,by simp at u;omega⟩;exact O (af step k) (x::B)
 |cons y A X =>
  intro B x k I u;simp only[BG]at u I;obtain⟨k,rfl⟩:∃ H,k=H+1:=⟨k-1,by omega⟩;have J:=h (af step k) A.reverse y x B (by simp;omega);simp only[CV]at J;show step (af step k) _=_;rw[CG,B8];simp only[BG,C6,BO,dz];rw[J];cases z x y with
  |true=>exact X (y::B) x k (by simp;omega) (by omega)
  |false=>simp
theorem ud {α:Type}(r:α->α->Bool){step:(List α×Int->Option (SoR α))->List α×Int->Option (SoR α)}(n:Nat)(O:n<=1048576)
  (h:∀ (rec:List α×Int->Option (SoR α)) (done:List α) (x:α) (xs:List α),done.length+1+xs.length=n->step rec (done++x::xs,(done.length:Int))=rec (dz r x done.reverse xs,wr .i64 ((done.length:Int)+1)))
  (J:∀ (rec:List α×Int->Option (SoR α)) (I:List α) (i:Int),(n:Int)<=i->step rec (I,i)=some ((),(I,()))) :
  ∀ (xs done:List α) (k:Nat),done.length+xs.length=n->xs.length<k->af step k (done++xs,(done.length:Int))=some ((),(cS r done xs,())):=by
 intro xs;induction xs with
 |nil =>
  intro done k u z;obtain⟨k,rfl⟩:∃ y,k=y+1:=⟨k-1,by omega⟩;show step (af step k) _=_;rw[J _ _ _ (by simp at u;omega)];simp[cS]
 |cons x xs M =>
  intro done k u z;simp only[BG]at z u;obtain⟨k,rfl⟩:∃ y,k=y+1:=⟨k-1,by omega⟩;show step (af step k) _=_;rw[h _ _ _ _ (by omega),au _ (by omega)];have e:dz r x done.reverse xs=dz r x done.reverse []++xs:=oV r x done.reverse [] xs;have H:(dz r x done.reverse []).length=done.length+1:=by rw[oW];simp
  rw[e,<- H];exact M _ k (by rw[H];omega) (by omega)
theorem yn {α:Type}(u:α->α->Bool){step:(List α×Int->Option (SoR α))->List α×Int->Option (SoR α)}(xs:List α)(I:xs.length<=1048576)
  (h:∀ (rec:List α×Int->Option (SoR α)) (done:List α) (x:α) (r:List α),done.length+1+r.length=xs.length->step rec (done++x::r,(done.length:Int))=rec (dz u x done.reverse r,wr .i64 ((done.length:Int)+1)))
  (y:∀ (rec:List α×Int->Option (SoR α)) (H:List α) (i:Int),(xs.length:Int)<=i->step rec (H,i)=some ((),(H,()))) {k:Nat} (z:xs.length<k) :
  af step k (xs,1)=some ((),(cS u [] xs,())):=by
 cases xs with
 |nil =>
  obtain⟨k,rfl⟩:∃ J,k=J+1:=⟨k-1,by simp at z;omega⟩;exact y (af step k) [] 1 (by simp)
 |cons x xs =>
  simp only[BG]at z;have:=ud u (xs.length+1) (by simpa using I) h y xs [x] k (by simp;omega) (by omega);exact this
theorem uM {α:Type}(A B:List α)(x:α):idx (A++x::B) (A.length:Int)=some x:=by
 rw[qn];simp
theorem sQ {α:Type}(A B:List α)(y x:α):idx (A++y::x::B) ((A.length+1:Nat):Int)=some x:=by
 rw[qn];simp[List.getElem?_append_right]
theorem uN {α:Type}(A B:List α)(x v:α):(A++x::B).set A.length v=A++v::B:=by simp
theorem sR {α:Type}(A B:List α)(y x v:α):(A++y::x::B).set (A.length+1) v=A++y::v::B:=by
 simp[Cu]
theorem ue {α R:Type}(P:α->Prop)(H:α->α->Bool)(i:Int)(r:List α×Int->Option R){step:(List α×Int×Int->Option R)->List α×Int×Int->Option R}
  (h:∀ (rec:List α×Int×Int->Option R) (A:List α) (y x:α) (B:List α),P y->P x->A.length+B.length<=1048576->step rec (A++y::x::B,i,((A.length+1:Nat):Int))=bif H x y then rec (A++x::y::B,i,(A.length:Int)) else r (A++y::x::B,wr .i64 (i+1)))
  (Z:∀ (rec:List α×Int×Int->Option R) (Y:List α),step rec (Y,i,0)=r (Y,wr .i64 (i+1))) :
  ∀ (A B:List α) (x:α) (k:Nat),(∀ y∈A,P y)->P x->A.length+B.length<=1048576->A.length<k->af step k (A.reverse++x::B,i,(A.length:Int))=r (dz H x A B,wr .i64 (i+1)):=by
 intro A;induction A with
 |nil =>
  intro B x k M J O u;obtain⟨k,rfl⟩:∃ I,k=I+1:=⟨k-1,by simp at u;omega⟩;exact Z (af step k) (x::B)
 |cons y A ih =>
  intro B x k M J O u;simp only[BG]at u O;obtain⟨k,rfl⟩:∃ I,k=I+1:=⟨k-1,by omega⟩;have X:=h (af step k) A.reverse y x B (M y (by simp)) J (by simp;omega);simp only[CV]at X;show step (af step k) _=_;rw[CG,B8];simp only[BG,C6,BO,dz];rw[X];cases H x y with
  |true=>exact ih (y::B) x k (λz hz=>M z (by simp[hz])) J (by simp;omega) (by omega)
  |false=>simp
theorem sS {α:Type}(P:α->Prop)(r:α->α->Bool){step:(List α×Int->Option (SoR α))->List α×Int->Option (SoR α)}(n:Nat)(hn:n<=1048576)
  (h:∀ (rec:List α×Int->Option (SoR α)) (done:List α) (x:α) (xs:List α),(∀ y∈done,P y)->P x->done.length+1+xs.length=n->step rec (done++x::xs,(done.length:Int))=rec (dz r x done.reverse xs,wr .i64 ((done.length:Int)+1)))
  (Z:∀ (rec:List α×Int->Option (SoR α)) (Y:List α) (i:Int),(n:Int)<=i->step rec (Y,i)=some ((),(Y,()))) :
  ∀ (xs done:List α) (k:Nat),(∀ y∈done,P y)->(∀ y∈xs,P y)->done.length+xs.length=n->xs.length<k->af step k (done++xs,(done.length:Int))=some ((),(cS r done xs,())):=by
 intro xs;induction xs with
 |nil =>
  intro done k O H J R;obtain⟨k,rfl⟩:∃ M,k=M+1:=⟨k-1,by omega⟩;show step (af step k) _=_;rw[Z _ _ _ (by simp at J;omega)];simp[cS]
 |cons x xs ih =>
  intro done k O H J R;simp only[BG]at R J;obtain⟨k,rfl⟩:∃ M,k=M+1:=⟨k-1,by omega⟩;show step (af step k) _=_;rw[h _ _ _ _ O (H x (by simp)) (by omega),au _ (by omega)];have e:dz r x done.reverse xs=dz r x done.reverse []++xs:=oV r x done.reverse [] xs;have X:(dz r x done.reverse []).length=done.length+1:=by rw[oW];simp
  rw[e,<- X];refine ih _ k (λz I=>?_) (λz I=>H z (by simp[I])) (by rw[X];omega) (by omega);have u:=(mQ r x done.reverse []).mem_iff.1 I;simp only[Bt,BN,B9]at u;rcases u with rfl|u
  ·exact H z (by simp)
  ·exact O z u
theorem wW {α:Type}(P:α->Prop)(u:α->α->Bool){step:(List α×Int->Option (SoR α))->List α×Int->Option (SoR α)}(xs:List α)(M:∀ y∈xs,P y)(R:xs.length<=1048576)
  (h:∀ (rec:List α×Int->Option (SoR α)) (done:List α) (x:α) (r:List α),(∀ y∈done,P y)->P x->done.length+1+r.length=xs.length->step rec (done++x::r,(done.length:Int))=rec (dz u x done.reverse r,wr .i64 ((done.length:Int)+1)))
  (H:∀ (rec:List α×Int->Option (SoR α)) (J:List α) (i:Int),(xs.length:Int)<=i->step rec (J,i)=some ((),(J,()))) {k:Nat} (I:xs.length<k) :
  af step k (xs,1)=some ((),(cS u [] xs,())):=by
 cases xs with
 |nil =>
  obtain⟨k,rfl⟩:∃ O,k=O+1:=⟨k-1,by simp at I;omega⟩;exact H (af step k) [] 1 (by simp)
 |cons x xs =>
  simp only[BG]at I;have:=sS P u (xs.length+1) (by simpa using R) h H xs [x] k (λy z=>M y (by simpa using .inl (by simpa using z))) (λy z=>M y (by simp[z])) (by simp;omega) (by omega);exact this
def ltZ (a b:Int):Bool:=decide (a<b)
theorem AF (K:Nat)(a b:Int):Q113.f K (a,b,())=some ((ltZ a b,()),()):=by
 simp only[Q113.f,Q70.f,ltZ];simp
theorem yp (K:Nat)(xs:List Int)(H:Int×Int×Unit->Option Int)(I:Int->Int->Bool)(P:Int->Prop)(hP:∀ y∈xs,P y)(hφ:∀ y z,P y->P z->∃ c,H (y,z,())=some c/\decide (c<0)=I y z)(hx:xs.length<=1048576)(hK:1048577<K) :
  Q123.f K (xs,0,(xs.length:Int),H,())=some ((),(cS I [] xs,())):=by
 refine wW P (step:=λrec a=>Q123.s0 K (xs,0,(xs.length:Int),H,()) (Q123.l1 K (xs,0,(xs.length:Int),H,()) rec) rec a) I xs hP hx ?_ ?_ (by omega)
 ·intro rec done x r J O hl;simp only[Q123.s0];rw[decide_eq_true (by omega:((done.length:Int))<(xs.length:Int))];simp only[cond_true];have:=ue P I (done.length:Int) rec (step:=λu a=>Q123.s1 K (xs,0,(xs.length:Int),H,()) rec u a) ?_ ?_ done.reverse r x K (λy M=>J y (by simpa using M)) O (by simp;omega) (by simp;omega)
  ·rw[Bt,CV]at this;exact this
  ·intro u A y z B M Y a0;simp only[Q123.s1];have X:wr .i64 (((A.length+1:Nat):Int)-1)=(A.length:Int):=(aH (by omega) (by omega)).trans (by omega);rw[decide_eq_true (by omega:((A.length+1:Nat):Int)>0)];obtain⟨c,R,J⟩:=hφ z y Y M;simp only[cond_true,X,BE,sQ,uM,BA,R,J,sR,uN]
  ·intro u Z;simp only[Q123.s1];rw[decide_eq_false (by omega:¬ (0:Int)>0)];rfl
 ·intro rec Z i hi;simp only[Q123.s0];rw[decide_eq_false (by omega:¬ i<(xs.length:Int))];rfl
theorem yq (K:Nat)(xs:List Int)(H:Int×Int×Unit->Option Int)(u:Int->Int->Bool)(P:Int->Prop)(M:∀ y∈xs,P y)(hφ:∀ y z,P y->P z->∃ c,H (y,z,())=some c/\decide (c<0)=u y z)(R:xs.length<=19)(I:1048577<K) :
  Q125.f K (xs,H,())=some ((),(cS u [] xs,())):=by
 simp only[Q125.f];have:Q124.f K (xs,(xs.length:Int),H,())=some ((),(cS u [] xs,())):=by
  obtain⟨k,rfl⟩:∃ J,K=J+1:=⟨K-1,by omega⟩;show Q124.s0 _ _ _ _ _=_;simp only[Q124.s0];rw[decide_eq_false (by omega:¬ (20:Int)<=(xs.length:Int))];simp only[cond_false];rw[yp (k+1) xs H u P M hφ (by omega) I];simp only[BA];have O:∀ (r:Q124.A1->Option Q124.Res),Q124.s1 (k+1) (xs,(xs.length:Int),H,()) (Q124.l2 (k+1) (xs,(xs.length:Int),H,()) r) r (cS u [] xs,20)=some ((),(cS u [] xs,())):=by
   intro r;simp only[Q124.s1];rw[decide_eq_false (by omega:¬ (20:Int)<(xs.length:Int))];rfl
  exact O _
 rw[this];rfl
theorem yt (K:Nat)(xs:List Int)(I:xs.length<=1048576)(R:1048577<K) :
  Q129.f K (xs,0,(xs.length:Int),())=some ((),(cS ltZ [] xs,())):=by
 refine yn (step:=λrec a=>Q129.s0 K (xs,0,(xs.length:Int),()) (Q129.l1 K (xs,0,(xs.length:Int),()) rec) rec a) ltZ xs I ?_ ?_ (by omega)
 ·intro rec done x r X;simp only[Q129.s0];rw[decide_eq_true (by omega:((done.length:Int))<(xs.length:Int))];simp only[cond_true];have:=vB ltZ (done.length:Int) rec (step:=λu a=>Q129.s1 K (xs,0,(xs.length:Int),()) rec u a) ?_ ?_ done.reverse r x K (by simp;omega) (by simp;omega)
  ·rw[Bt,CV]at this;exact this
  ·intro u A y z B M;simp only[Q129.s1];have J:wr .i64 (((A.length+1:Nat):Int)-1)=(A.length:Int):=(aH (by omega) (by omega)).trans (by omega);rw[decide_eq_true (by omega:((A.length+1:Nat):Int)>0)];simp only[cond_true,J,BE,sQ,uM,BA,sR,uN];rw[show Q113.f K (z,y,())=_ from AF K z y];rfl
  ·intro u H;simp only[Q129.s1];rw[decide_eq_false (by omega:¬ (0:Int)>0)];rfl
 ·intro rec H i O;simp only[Q129.s0];rw[decide_eq_false (by omega:¬ i<(xs.length:Int))];rfl
theorem yu (K:Nat)(xs:List Int)(H:xs.length<=12)(r:1048577<K) :
  Q137.f K (xs,())=some ((),(cS ltZ [] xs,())):=by
 simp only[Q137.f,Q136.f];obtain⟨l,u⟩:∃ l:Int,Q135.f K (wr .u64 (xs.length:Int),())=some ((l,()),()):=by
  have e:wr .u64 (xs.length:Int)=(xs.length:Int):=by
   show IntKind.u64.wrap _=_;have z:IntKind.u64.wrap (xs.length:Int)=(xs.length:Int) % 18446744073709551616:=by simp[IntKind.wrap,IntKind.bits,IntKind.signed]
   rw[z];omega
  rw[e];generalize J:xs.length=n at H;have:n=0\/n=1\/n=2\/n=3\/n=4\/n=5\/n=6\/n=7\/n=8\/n=9\/n=10\/n=11\/n=12:=by omega
  rcases this with rfl|rfl|rfl|rfl|rfl|rfl|rfl|rfl|rfl|rfl|rfl|rfl|rfl
  ·exact⟨0,by kernel_rfl⟩
  ·exact⟨1,by kernel_rfl⟩
  ·exact⟨2,by kernel_rfl⟩
  ·exact⟨2,by kernel_rfl⟩
  ·exact⟨3,by kernel_rfl⟩
  ·exact⟨3,by kernel_rfl⟩
  ·exact⟨3,by kernel_rfl⟩
  ·exact⟨3,by kernel_rfl⟩
  ·exact⟨4,by kernel_rfl⟩
  ·exact⟨4,by kernel_rfl⟩
  ·exact⟨4,by kernel_rfl⟩
  ·exact⟨4,by kernel_rfl⟩
  ·exact⟨4,by kernel_rfl⟩
 rw[u];simp only[BA];have:Q134.f K (xs,0,(xs.length:Int),l,())=some ((),(cS ltZ [] xs,())):=by
  obtain⟨k,rfl⟩:∃ y,K=y+1:=⟨K-1,by omega⟩;have I:∀ (rec:Q134.A0->Option Q134.Res) (a:Q134.A0),Q134.s0 (k+1) (xs,0,(xs.length:Int),l,()) rec a=some ((),(cS ltZ [] xs,())):=by
   intro rec a;simp only[Q134.s0];have e:wr .i64 ((xs.length:Int)-0)=(xs.length:Int):=(aH (by omega) (by omega)).trans (by omega);rw[e,decide_eq_true (by omega:(xs.length:Int)<=12)];simp only[cond_true];rw[yt (k+1) xs (by omega) r];rfl
  exact I (λ_=>none) ()
 rw[this];rfl
def d6 (l:List aM)(i:Int):Int:=((l[i.toNat]?).map (·.2)).getD 0
def ltL (l:List aM)(a b:Int):Bool:=decide (d6 l b<d6 l a)
def lt2 (l:List aM)(a b:Int):Prop:=d6 l b<d6 l a\/(d6 l a=d6 l b/\a<b)
def cA (n:Nat):List Int:=(List.range n).map λ (i:Nat)=>(i:Int)
def bz (l:List aM):List Int:=cS (ltL l) [] (cA l.length)
theorem ir {n:Nat}{i:Int}:i∈cA n<->0<=i/\i<n:=by
 unfold cA;rw[BZ];constructor
 ·rintro⟨j,hj,rfl⟩;have:=DF.1 hj;omega
 ·rintro⟨h0,h1⟩;exact⟨i.toNat,DF.2 (by omega),by omega⟩
theorem jb (n:Nat):(cA n).Pairwise (·<·):=by
 unfold cA;rw[Bv];exact List.pairwise_lt_range.imp λh=>by omega
theorem dM {l:List aM}{i:Nat}(h:i<l.length):d6 l (i:Int)=l[i].2:=by
 unfold d6;rw[BE,BK h];rfl
theorem sU (l:List aM):∀ (xs done:List Int),done.Pairwise (lt2 l)->(∀ a∈done,∀ b∈xs,a<b)->xs.Pairwise (·<·)->(cS (ltL l) done xs).Pairwise (lt2 l)
 |[],done,h,_,_=>h
 |x::xs,done,h,H,R=>by
  have y:=BQ.1 R;have O:jF (ltL l) done:=h.imp λ {a b} J=>by
   unfold ltL;rw[decide_eq_false_iff_not];rcases J with z|⟨z,_⟩ <;> omega
  have e:=kV (ltL l) (λa b c z I=>by
   unfold ltL at z I ⊢;rw[decide_eq_false_iff_not]at z I ⊢;omega) x done.reverse [] (by rw[Bt];exact O)
  rw[Bt,BN]at e;simp only[cS];rw[e];refine sU l xs _ ?_ ?_ y.2
  ·rw[CE,BQ];refine⟨h.filter _,⟨λb u=>?_,h.filter _⟩,λa r b u=>?_⟩
   ·have z:ltL l x b=true:=by simpa using (BH.1 u).2
    exact .inl (by simpa[ltL]using z)
   ·have z:ltL l x a=false:=by simpa using (BH.1 r).2
    have Y:¬ d6 l a<d6 l x:=by simpa[ltL]using z
    have M:=H a (BH.1 r).1 x (by simp);rcases B9.1 u with rfl|u
    ·by_cases I:d6 l b<d6 l a
     ·exact .inl I
     ·exact .inr ⟨by omega,M⟩
    ·have I:ltL l x b=true:=by simpa using (BH.1 u).2
     have X:d6 l b<d6 l x:=by simpa[ltL]using I
     exact .inl (by omega)
  ·intro a r b u;rcases B3.1 r with r|r
   ·exact H a (BH.1 r).1 b (by simp[u])
   ·rcases B9.1 r with rfl|r
    ·exact y.1 b u
    ·exact H a (BH.1 r).1 b (by simp[u])
theorem pK (l:List aM):(bz l).Pairwise (lt2 l):=sU l _ [] List.Pairwise.nil (by simp) (jb _)
theorem l7 (l:List aM):(bz l).Perm (cA l.length):=by
 unfold bz;simpa using l6 (ltL l) (cA l.length) []
theorem iH {l:List aM}{i:Int}:i∈bz l<->0<=i/\i<l.length:=by rw[(l7 l).mem_iff,ir]
theorem wX (l:List aM):(bz l).length=l.length:=by rw[(l7 l).length_eq];simp[cA]
theorem uf (l:List aM):(bz l).Nodup:=(l7 l).nodup_iff.2 ((jb _).imp λh=>by omega)
def dm (T:List Int)(n:Nat):List Bool:=(cA n).map λi=>decide (i∈T)
theorem eW (T:List Int)(n:Nat):(dm T n).length=n:=by simp[dm,cA]
theorem iI (T:List Int){n i:Nat}(h:i<n):(dm T n)[i]'(by rw[eW];exact h)=decide ((i:Int)∈T):=by
 simp[dm,cA]
theorem wY {T:List Int}{n b:Nat}(y:b<n):(dm T n).set b true=dm (T++[(b:Int)]) n:=by
 refine CS (by rw[Ct,eW,eW]) λi u r=>?_
 rw[eW]at r;rw[C7,iI _ r];by_cases h:b=i
 ·subst h;rw[if_pos rfl,iI _ r];simp
 ·rw[if_neg h,iI _ r];have:¬ (i:Int)=(b:Int):=by omega
  simp[this]
def pL (l:List aM)(T:List Int)(i:Nat)(r:Int):Prop :=
 (r=-1/\∀ j:Nat,j<i->(j:Int)∈T)\/(0<=r/\r<i/\r∉T/\∀ j:Nat,j<i->(j:Int)∉T->(j:Int)≠r->lt2 l r (j:Int))
theorem zO (K:Nat)(l:List aM)(T:List Int)(hl:l.length<=1048576):∀ (d i k:Nat) (r:Int),i+d=l.length->d<k->pL l T i r ->
  ∃ b:Int,af (λrec a=>Q43.s0 K (l,dm T l.length,()) rec a) k (r,(i:Int))=some ((b,()),())/\pL l T l.length b:=by
 intro d;induction d with
 |zero =>
  intro i k r hi hk X;obtain⟨k,rfl⟩:∃ k',k=k'+1:=⟨k-1,by omega⟩;have:i=l.length:=by omega
  subst this;refine⟨r,?_,X⟩;show Q43.s0 K (l,dm T l.length,()) _ _=_;simp only[Q43.s0,aS];rfl
 |succ d ih =>
  intro i k r hi hk X;obtain⟨k,rfl⟩:∃ k',k=k'+1:=⟨k-1,by omega⟩;have z:i<l.length:=by omega
  have I:∀ r,pL l T (i+1) r->∃ b:Int,af (λrec a=>Q43.s0 K (l,dm T l.length,()) rec a) k (r,((i+1:Nat):Int))=some ((b,()),())/\pL l T l.length b:=λr h=>ih (i+1) k r (by omega) (by omega) h
  show ∃ b:Int,Q43.s0 K (l,dm T l.length,()) (af (λrec a=>Q43.s0 K (l,dm T l.length,()) rec a) k) (r,(i:Int))=_/\_;generalize af (λrec a=>Q43.s0 K (l,dm T l.length,()) rec a) k=REC at I ⊢;simp only[Q43.s0];rw[bo (by omega:(i:Int)<(BB l:Int)),ag (show i<(dm T l.length).length by rw[eW];exact z),iI T z,au i (by omega)];simp only[cond_true,BA];by_cases O:(i:Int)∈T
  ·rw[decide_eq_true O];simp only[BI,cond_false];refine I r ?_;rcases X with ⟨rfl,h⟩|⟨h0,h1,h2,Z⟩
   ·refine .inl ⟨rfl,λj Y=>?_⟩;by_cases y:j=i
    ·subst y;exact O
    ·exact h j (by omega)
   ·refine .inr ⟨h0,by omega,h2,λj Y u J=>?_⟩;by_cases y:j=i
    ·subst y;exact absurd O u
    ·exact Z j (by omega) u J
  ·rw[decide_eq_false O];simp only[Bs,cond_true];rcases X with ⟨rfl,h⟩|⟨h0,h1,h2,Z⟩
   ·rw[show decide ((-1:Int)<0)=true from rfl];refine I (i:Int) (.inr ⟨by omega,by omega,O,λj Y u J=>?_⟩);exact absurd (h j (by omega)) u
   ·rw[decide_eq_false (by omega:¬ r<0)];obtain⟨b,rfl⟩:=BF h0;have H:b<l.length:=by omega
    simp only[cond_false];rw[ag z,ag H];simp only[BA];by_cases M:l[i].2>l[b].2
    ·rw[decide_eq_true M];refine I (i:Int) (.inr ⟨by omega,by omega,O,λj Y u J=>?_⟩);have y:j<i:=by omega
     have a1:j<l.length:=by omega
     by_cases R:(j:Int)=(b:Int)
     ·rw[R];exact .inl (by rw[dM z,dM H];exact M)
     ·have:=Z j y u R;rcases this with h4|⟨h4,_⟩
      ·exact .inl (by rw[dM H]at h4;rw[dM z];omega)
      ·exact .inl (by rw[dM H]at h4;rw[dM z];omega)
    ·rw[decide_eq_false M];refine I (b:Int) (.inr ⟨by omega,by omega,h2,λj Y u J=>?_⟩);by_cases y:j=i
     ·subst y;by_cases a0:d6 l (b:Int)=d6 l (j:Int)
      ·exact .inr ⟨a0,h1⟩
      ·refine .inl ?_;rw[dM z,dM H]at *;omega
     ·exact Z j (by omega) u J
theorem AG (K:Nat)(l:List aM)(n:Nat)(hl:l.length<=1048576)(hK:1048577<K):Q43.f K (l,dm ((bz l).take n) l.length,())=some ((((bz l)[n]?).getD (-1),()),()):=by
  obtain⟨b,e,Z⟩:=zO K l ((bz l).take n) hl l.length 0 K (-1) (by omega) (by omega) (.inl ⟨rfl,λj z=>by omega⟩);have:b=((bz l)[n]?).getD (-1):=by
    by_cases I:n<(bz l).length
    · rw[BK I]
      show b=(bz l)[n];have hm:(bz l)[n]∉(bz l).take n:=λh=>by
        obtain⟨j,z,e⟩:=BJ h;rw[BW]at z;rw[CW]at e;have:=CD.1 (pK l) j n (by omega) I (by omega);rw[e]at this;rcases this with u|⟨_,u⟩ <;> omega
      have hr:=iH.1 (BC I);obtain⟨m,r⟩:=BF hr.1;rcases Z with ⟨rfl,h⟩|⟨J,X,y,h3⟩
      · have:=h m (by omega)
        rw[<- r]at this;exact absurd this hm
      · by_cases R:b=(bz l)[n]
        · exact R
        · exfalso
          have H:=h3 m (by omega) (by rw[<- r];exact hm) (by rw[<- r];exact λh=>R h.symm);rw[<- r]at H;have O:b∈bz l:=iH.2 ⟨J,X⟩;obtain⟨j,z,M⟩:=BJ O;have Y:n<j:=by
            rcases Cj j n with h|h|h
            · exact absurd (List.mem_take_iff_getElem.2 ⟨j,by omega,M⟩) y
            · subst h;exact absurd M.symm R
            · exact h
          have u:=CD.1 (pK l) n j I z Y;rw[M]at u;rcases H with H|⟨H,h6⟩ <;> rcases u with u|⟨u,h7⟩ <;> omega
    · rw[CL (by omega)]
      show b=-1;rcases Z with ⟨rfl,_⟩|⟨J,X,y,_⟩
      · rfl
      · exfalso
        rw[By (by omega)]at y;exact y (iH.2 ⟨J,X⟩)
  rw[<- this];exact e
def bX (l:List aM):List Int:=(bz l).take 3
def gv (l:List aM)(i:Int):aM:=(l[i.toNat]?).getD ((0,0,0,false),0)
def dN (l:List aM)(T:List Int)(i:Int):aM:=bif decide (i∈T) then ((gv l i).1,(gv l i).2-1) else gv l i
def eh (l:List aM)(T:List Int)(n:Nat):List ah:=((cA n).filter λi=>decide (i∈T)).map λi=>(gv l i).1
def fX (l:List aM)(T:List Int)(n:Nat):List aM:=(cA n).map (dN l T)
def dB (l:List aM)(T:List Int)(n:Nat):List aM:=(fX l T n).filter λx=>decide (x.2>0)
theorem cz {l:List aM}{i:Nat}(h:i<l.length):gv l (i:Int)=l[i]:=by
 unfold gv;rw[BE,BK h];rfl
theorem mS (n:Nat):cA (n+1)=cA n++[(n:Int)]:=by
 unfold cA;rw[List.range_succ,Cg];rfl
theorem vC (l:List aM)(T:List Int)(n:Nat):eh l T (n+1)=eh l T n++(bif decide ((n:Int)∈T) then [(gv l (n:Int)).1] else []):=by
 unfold eh;rw[mS,B4,Cg,BV];cases decide ((n:Int)∈T) <;> rfl
theorem vD (l:List aM)(T:List Int)(n:Nat):dB l T (n+1)=dB l T n++(bif decide ((dN l T (n:Int)).2>0) then [dN l T (n:Int)] else []):=by
 unfold dB fX;rw[mS,Cg,B4,Cl,BV];cases decide ((dN l T (n:Int)).2>0) <;> rfl
theorem wZ (l:List aM)(T:List Int)(n:Nat):(eh l T n).length<=n:=by
 unfold eh;rw[BU];refine Bu (CC _ _) ?_;simp[cA]
theorem w8 (l:List aM)(T:List Int)(n:Nat):(dB l T n).length<=n:=by
 unfold dB;refine Bu (CC _ _) ?_;simp[fX,cA]
theorem zP (K:Nat)(l:List aM)(m:Int)(T:List Int)(M:l.length<=1048576)(H:cR l)(J:1048577<K) :
  Q44.l1 K (l,m,()) (dm T l.length,[],[],0)=some ((eh l T l.length,dB l T l.length,()),()):=by
 refine fm (step:=λrec a=>Q44.s1 K (l,m,()) rec a) l.length (λi=>(dm T l.length,eh l T i,dB l T i,(i:Int))) (some ((eh l T l.length,dB l T l.length,()),())) ?_ ?_ (by omega)
 ·intro rec i r;simp only[Q44.s1];have u:i<(dm T l.length).length:=by rw[eW];exact r
  have R:=wZ l T i;have O:=w8 l T i;obtain⟨I,X⟩:=(H.1 l[i] (BC r)).2;rw[bo (by omega:(i:Int)<(BB l:Int)),ag r,ag u,au i (by omega),BE,ag u,iI T r,vC,vD,cz r];simp only[cond_true,BA];cases z:decide ((i:Int)∈T) with
  |true =>
   have y:dN l T (i:Int)=(l[i].1,l[i].2-1):=by unfold dN;rw[z,cz r];rfl
   rw[y];simp only[cond_true];rw[szb _ _ _ (by omega) (by simp;omega),aH (n:=l[i].2-1) (by omega) (by omega)];simp only[cond_true];cases decide (l[i].2-1>0) with
   |true =>
    simp only[cond_true];rw[szb _ _ _ (by omega) (by simp;omega)];rfl
   |false =>
    simp only[cond_false,BN]
  |false =>
   have y:dN l T (i:Int)=l[i]:=by unfold dN;rw[z,cz r];rfl
   rw[y];simp only[cond_false,BN];cases decide (l[i].2>0) with
   |true =>
    simp only[cond_true];rw[szb _ _ _ (by omega) (by simp;omega)];rfl
   |false =>
    simp only[cond_false,BN]
 ·intro rec;simp only[Q44.s1,aS];rfl
theorem AH (K:Nat)(l:List aM)(R:l.length<=1048576)(hC:cR l)(M:1048577<K):Q44.f K (l,3,())=some ((eh l (bX l) l.length,dB l (bX l) l.length,()),()):=by
 have r:∀ T,Q44.l1 K (l,3,()) (dm T l.length,[],[],0)=some ((eh l T l.length,dB l T l.length,()),()):=λT=>zP K l 3 T R hC M
 have go:∀ (d n k:Nat),n+d=3->d<k->af (λrec a=>Q44.s0 K (l,3,()) (Q44.l1 K (l,3,())) rec a) k (dm ((bz l).take n) l.length,(n:Int))=some ((eh l (bX l) l.length,dB l (bX l) l.length,()),()):=by
  intro d;induction d with
  |zero =>
   intro n k hn hk;obtain⟨k,rfl⟩:∃ I,k=I+1:=⟨k-1,by omega⟩;have:n=3:=by omega
   subst this;exact r _
  |succ d Z =>
   intro n k hn hk;obtain⟨k,rfl⟩:∃ I,k=I+1:=⟨k-1,by omega⟩;have y:=Z (n+1) k (by omega) (by omega);show Q44.s0 K (l,3,()) (Q44.l1 K (l,3,())) (af (λrec a=>Q44.s0 K (l,3,()) (Q44.l1 K (l,3,())) rec a) k) (dm ((bz l).take n) l.length,(n:Int))=_;generalize af (λrec a=>Q44.s0 K (l,3,()) (Q44.l1 K (l,3,())) rec a) k=REC at y ⊢;simp only[Q44.s0];rw[decide_eq_true (by omega:(n:Int)<3),AG K l n R M,au n (by omega)];simp only[cond_true,BA];by_cases u:n<(bz l).length
   ·rw[BK u];have O:=iH.1 (BC u);have H:(bz l).take (n+1)=(bz l).take n++[(bz l)[n]]:=CF u;rw[H]at y;simp only[C8];generalize (bz l)[n]=v at O y ⊢;obtain⟨b,rfl⟩:=BF O.1;have J:b<l.length:=by omega
    have z:b<(dm ((bz l).take n) l.length).length:=by rw[eW];exact J
    rw[decide_eq_false (by omega:¬ (b:Int)<0),ag z,BE,ag z,wY J];exact y
   ·rw[CL (by omega)];show Q44.l1 K (l,3,()) (dm ((bz l).take n) l.length,[],[],0)=_;rw[r,show (bz l).take n=bX l by unfold bX;rw[By (by omega),By (by omega)]]
 simp only[Q44.f,Q44.pre];rw[decide_eq_true (by omega:(0:Int)<=(BB l:Int)),show decide ((BB l:Int)*(1:Nat)<=ao)=true from decide_eq_true (by simp only[ao];omega),BE];simp only[decide_true,CK,cond_true];have Y:CQ l.length false=dm ((bz l).take 0) l.length:=by
  refine CS (by rw[Cc,eW]) λi h1 X=>?_
  rw[eW]at X;rw[List.getElem_replicate,iI _ X];simp
 have:=go 3 0 K (by omega) (by omega);rw[<- Y]at this;exact this
theorem rR {a b:List Int}(u:a.Nodup)(r:b.Nodup)(h:∀ x,x∈a<->x∈b):a.Perm b:=by
 rw[List.perm_iff_count];intro x;rw[u.count,r.count];simp[h]
def cW (l:List aM):List Int:=(cA l.length).filter λi=>decide (i∈bX l)
theorem ug (l:List aM):cS ltZ [] (bX l)=cW l:=by
 have u:(bX l).Nodup:=(uf l).sublist (List.take_sublist _ _);have r:((cA l.length).filter λi=>decide (i∈bX l)).Nodup:=((jb l.length).imp (λh=>by omega:∀ {a b:Int},a<b->a≠b)).filter _;refine oc ltZ ?_ (mR ltZ (λa b c u r=>by
  unfold ltZ at u r ⊢;rw[decide_eq_false_iff_not]at u r ⊢;omega) (λa b h=>by
  unfold ltZ at h ⊢;rw[decide_eq_true_eq]at h;rw[decide_eq_false_iff_not];omega) (bX l) [] List.Pairwise.nil) ?_
 ·refine (by simpa using l6 ltZ (bX l) []:(cS ltZ [] (bX l)).Perm (bX l)).trans (rR u r λx=>?_);rw[cW,BH,decide_eq_true_eq,ir];exact⟨λh=>⟨iH.1 (Cw h),h⟩,λh=>h.2⟩
 ·exact ((jb l.length).filter _).imp λh=>by unfold ltZ;exact decide_eq_true h
theorem xa {l:List aM}{i:Int}:i∈cW l<->i∈bX l:=by
 unfold cW;rw[BH,decide_eq_true_eq,ir];exact⟨λh=>h.2,λh=>⟨iH.1 (Cw h),h⟩⟩
theorem xb (l:List aM):(cW l).Pairwise (·<·):=(jb l.length).filter _
theorem eC (l:List aM)(T:List Int)(n:Nat):(fX l T n).length=n:=by simp[fX,cA]
theorem e9 (l:List aM)(T:List Int){n i:Nat}(h:i<n):(fX l T n)[i]'(by rw[eC];exact h)=dN l T (i:Int):=by
 simp[fX,cA]
theorem yw (l:List aM):fX l [] l.length=l:=by
 refine CS (eC _ _ _) λi u r=>?_
 rw[e9 l [] r];unfold dN;rw[cz r];simp
theorem yx {l:List aM}{T:List Int}{b:Nat}(y:b<l.length):(fX l T l.length).set b ((gv l (b:Int)).1,(gv l (b:Int)).2-1)=fX l (T++[(b:Int)]) l.length:=by
 refine CS (by rw[Ct,eC,eC]) λi u r=>?_
 rw[eC]at r;rw[C7,e9 _ _ r];by_cases h:b=i
 ·subst h;rw[if_pos rfl,e9 _ _ r];unfold dN;rw[decide_eq_true (by simp:(b:Int)∈T++[(b:Int)])];rfl
 ·rw[if_neg h,e9 _ _ r];unfold dN;have:((i:Int)∈T++[(b:Int)])<->(i:Int)∈T:=by
   rw[B3,Bw];exact⟨λu=>u.resolve_right (by omega),.inl⟩
  rw[show decide ((i:Int)∈T++[(b:Int)])=decide ((i:Int)∈T) by rw[decide_eq_decide];exact this]
theorem vE {l:List aM}{T T':List Int}(h:∀ i,i∈T<->i∈T')(n:Nat):fX l T n=fX l T' n:=by
 unfold fX;refine List.map_congr_left λi _=>?_
 unfold dN;rw[show decide (i∈T)=decide (i∈T') by rw[decide_eq_decide];exact h i]
theorem uh (K:Nat)(x:ac Q139.ps)(l:List aM)(hl:l.length<=1048576)(Y:cR l)(hK:1048577<K) :
  Q139.l1 K x (l,cW l,[],(BB (cW l):Int),0)=some ((eh l (bX l) l.length,dB l (bX l) l.length,()),()):=by
 have a0:(cW l).length<=l.length:=by
  refine Bu (CC _ _) ?_;simp[cA]
 refine Cn ?_ (fm (step:=λrec a=>Q139.s1 K x rec a) (cW l).length (λi=>(fX l ((cW l).take i) l.length,cW l,((cW l).take i).map (λj=>(gv l j).1),(BB (cW l):Int),(i:Int))) (some ((eh l (bX l) l.length,dB l (bX l) l.length,()),())) ?_ ?_ (by omega:(cW l).length<K))
 ·simp only[List.take_zero,DH,yw];rfl
 ·intro rec i r;simp only[Q139.s1];have X:=ir.1 ((BH.1 (BC r)).1);have u:(cW l)[i]∉(cW l).take i:=λh=>by
   obtain⟨j,hj,e⟩:=BJ h;rw[BW]at hj;rw[CW]at e;have:=CD.1 (xb l) j i (by omega) r (by omega);omega
  have M:(cW l).take (i+1)=(cW l).take i++[(cW l)[i]]:=CF r;rw[M,Cg];have I:(((cW l).take i).map (λj=>(gv l j).1)).length<=1048576:=by rw[BU,BW];omega
  rw[bo (by omega:(i:Int)<(BB (cW l):Int)),ag r,au i (by omega),BE,ag r];simp only[cond_true,BA];generalize (cW l)[i]=v at X u ⊢;obtain⟨b,rfl⟩:=BF X.1;have z:b<l.length:=by omega
  have H:b<(fX l ((cW l).take i) l.length).length:=by rw[eC];exact z
  have hd:dN l ((cW l).take i) (b:Int)=l[b]:=by
   unfold dN;rw[decide_eq_false u,cz z];rfl
  obtain⟨Z,c1⟩:=(Y.1 l[b] (BC z)).2;rw[ag H,BE,ag H,e9 l _ z,hd];simp only[BA];rw[szb _ _ _ (by omega) (by simp only[BU,BG,BM]at I ⊢;omega),aH (n:=l[b].2-1) (by omega) (by omega),<- yx z,cz z];simp only[cond_true,Cl,DH,cz z]
 ·intro rec;simp only[Q139.s1,aS,cond_false,CI,Q9.f];have e:∀ J:List aM,J.length<=1048576->gK t3 J (λR=>(Q138.f K (R.1,())).map λy=>y.1.1)=some ((J.filter (λx=>!(x.2==0)),()),()):=λJ O=>qW (e:=t3) (λx=>x.2==0) O (λx _=>rfl)
  rw[e _ (by rw[eC];exact hl)];simp only[BA];rw[vE (l:=l) (T:=cW l) (T':=bX l) (λi=>xa) l.length];have ef:(fX l (bX l) l.length).filter (λx=>!(x.2==0))=dB l (bX l) l.length:=by
   unfold dB;refine Ck λx hx=>?_
   have h0:0<=x.2:=by
    obtain⟨i,r,rfl⟩:=BJ hx;rw[eC]at r;rw[e9 l _ r];obtain⟨Z,c1⟩:=(Y.1 l[i] (BC r)).2;unfold dN;rw[cz r];cases decide ((i:Int)∈bX l) with
    |true=>show 0<=l[i].2-1;omega
    |false=>show 0<=l[i].2;omega
   rw[CJ];simp;omega
  rw[ef];rfl
theorem vF (K:Nat)(l:List aM)(hl:l.length<=8)(I:cR l)(H:1048577<K):Q139.f K (l,3,())=some ((eh l (bX l) l.length,dB l (bX l) l.length,()),()):=by
 simp only[Q139.f,Q139.pre];obtain⟨b1,e1,e2⟩:=oR K l (by omega) H;have R:=e2.2 I;subst R;rw[e1];simp only[BA,BI,cond_false];rw[decide_eq_true (by omega:(0:Int)<=(BB l:Int)),show decide ((BB l:Int)*(8:Nat)<=ao)=true from decide_eq_true (by simp only[ao];omega),BE];simp only[decide_true,CK,cond_true];have Y:(cA l.length).length=l.length:=by simp[cA]
 have hS:∀ i,i<=l.length->(cA i++CQ (l.length-i) (0:Int)).length=l.length:=λi Z=>by simp[cA];omega
 refine Cn ?_ (fm (step:=λrec a=>Q139.s0 K (l,3,()) (Q139.l1 K (l,3,())) rec a) l.length (λi=>(cA i++CQ (l.length-i) (0:Int),(i:Int))) (some ((eh l (bX l) l.length,dB l (bX l) l.length,()),())) ?_ ?_ (by omega:l.length<K))
 ·rfl
 ·intro rec i Z;simp only[Q139.s0];have u:i<(cA i++CQ (l.length-i) (0:Int)).length:=by rw[hS i (by omega)];exact Z
  rw[decide_eq_true (by rw[Cc];show (i:Int)<((BD (BB l:Int):Nat):Int);omega),ag u,au i (by omega),BE,ag u];simp only[cond_true,BA];have e:(cA i++CQ (l.length-i) (0:Int)).set i (i:Int)=cA (i+1)++CQ (l.length-(i+1)) (0:Int):=by
   obtain⟨m,hm⟩:∃ m,l.length-i=m+1:=⟨l.length-i-1,by omega⟩;have J:(cA i).length=i:=by simp[cA]
   rw[hm,show l.length-(i+1)=m by omega,mS,Cu _ _ (by omega),J,Nat.sub_self,List.replicate_succ,List.set_cons_zero,B8];rfl
  rw[e]
 ·intro rec;simp only[Q139.s0];rw[decide_eq_false (by rw[Cc];show ¬ (BB l:Int)<((BD (BB l:Int):Nat):Int);omega),Nat.sub_self,List.replicate_zero,BN];simp only[cond_false,Q2.f];have r:=yq K (cA l.length) (λy4=>(Q126.f K (y4.1,y4.2.1,l,())).map λy=>y.1.1) (ltL l) (λi=>0<=i/\i<l.length) (λy X=>ir.1 X) (λy z X hz=>by
   obtain⟨a,rfl⟩:=BF X.1;obtain⟨b,rfl⟩:=BF hz.1;have O:a<l.length:=by omega
   have M:b<l.length:=by omega
   obtain⟨c0,c1⟩:=(I.1 l[a] (BC O)).2;obtain⟨c2,c3⟩:=(I.1 l[b] (BC M)).2;refine⟨l[b].2-l[a].2,?_,?_⟩
   ·simp only[Q126.f];rw[ag O,ag M];simp only[BA];rw[aH (n:=l[b].2-l[a].2) (by omega) (by omega)];rfl
   ·unfold ltL;rw[dM O,dM M,decide_eq_decide];omega) (by rw[Y];omega) H
  rw[r];simp only[BA];rw[dY (by omega)];simp only[BA];rw[show Q128.f K (cS (ltL l) [] (cA l.length),3,())=some ((bX l,()),()) from zE K (bz l) 3 (by rw[wX];omega)];simp only[BA];rw[yu K (bX l) (Bu (CU _ _) (by omega)) H,ug];simp only[BA];exact uh K (l,3,()) l (by omega) I H
theorem AI {a b:Int}(z:0<=a)(u:a<4611686018427387904)(r:0<=b)(y:b<4611686018427387904):0<=ql .i64 a b:=by
 obtain⟨m,rfl⟩:=BF z;obtain⟨n,rfl⟩:=BF r;have h:(BitVec.ofInt 64 (m:Int) ^^^ BitVec.ofInt 64 (n:Int)).toNat=m ^^^ n:=by
  rw[BitVec.toNat_xor,BitVec.toNat_ofInt,BitVec.toNat_ofInt];congr 1
  ·omega
  ·omega
 have H:m ^^^ n<2 ^ 62:=Nat.xor_lt_two_pow (by omega) (by omega);show 0<=IntKind.i64.wrap (((BitVec.ofInt 64 (m:Int) ^^^ BitVec.ofInt 64 (n:Int)).toNat:Nat):Int);rw[h,C9];omega
structure fH (b:List Int):Prop where
 byte:∀ y∈b,0<=y/\y<=255
 len:b.length<=2000
theorem zQ (K:Nat)(b:List Int)(q:Nat)(n:Int)(h:fH b)(hq:q<=100000)(hn:1<=n):∃ v:Int,Q150.f K ((b,(q:Int)),n,())=some ((v,()),((b,((q+1:Nat):Int)),()))/\0<=v/\v<n:=by
 have w1:wr .i64 ((q:Int)+1)=((q+1:Nat):Int):=au q (by omega);have w2:wr .i64 (((q+1:Nat):Int)-1)=(q:Int):=by rw[aH (n:=((q+1:Nat):Int)-1) (by omega) (by omega)];omega
 have hl:=h.len;have J:decide (n=0)=false:=decide_eq_false (by omega);have r:∀ x:Int,0<=x->0<=CR x n/\CR x n<n:=λx u=>⟨DD _ u,C0 _ (by omega)⟩
 simp only[Q150.f];rw[decide_eq_false (by omega:¬ n<1)];simp only[cond_false,w1,w2,J];by_cases M:b.length=0
 ·rw[show ((b.length:Int)==0)=true by simpa using M];exact⟨0,rfl,by omega,by omega⟩
 ·rw[show ((b.length:Int)==0)=false by simpa using M];simp only[cond_false];by_cases H:q<b.length
  ·rw[decide_eq_true (by omega:(q:Int)<(b.length:Int)),ag H];simp only[cond_true,BA];obtain⟨I,Y⟩:=h.byte b[q] (BC H);rw[aH (n:=b[q]) (by omega) (by omega)];exact⟨_,rfl,r _ I⟩
  ·rw[decide_eq_false (by omega:¬ (q:Int)<(b.length:Int)),decide_eq_false (by omega:¬ (b.length:Int)=0)];simp only[cond_false];have t1:CR (q:Int) (b.length:Int)=((q % b.length:Nat):Int):=by rw[Ci (by omega)];rfl
   have t2:wr .i64 (wr .i64 ((q:Int)*7)+3)=((q*7+3:Nat):Int):=by rw[aH (n:=(q:Int)*7) (by omega) (by omega),aH (n:=(q:Int)*7+3) (by omega) (by omega)];omega
   have t3:CR (((q*7+3:Nat)):Int) (b.length:Int)=(((q*7+3) % b.length:Nat):Int):=by rw[Ci (by omega)];rfl
   have R:q % b.length<b.length:=Nat.mod_lt _ (by omega);have O:(q*7+3) % b.length<b.length:=Nat.mod_lt _ (by omega);rw[t1,t2,t3,ag R,ag O];simp only[BA];obtain⟨I,Y⟩:=h.byte b[q % b.length] (BC R);obtain⟨Z,z1⟩:=h.byte b[(q*7+3) % b.length] (BC O);generalize b[q % b.length]=y at I Y ⊢;generalize b[(q*7+3) % b.length]=z at Z z1 ⊢;have d1:0<=CY (q:Int) (b.length:Int)/\CY (q:Int) (b.length:Int)<=q:=⟨DE (by omega) (by omega),DA _ (by omega)⟩;generalize CY (q:Int) (b.length:Int)=e at d1 ⊢;have x1:wr .i64 (wr .i64 (wr .i64 (wr .i64 (wr .i64 y*131)+wr .i64 (wr .i64 z*1117))+wr .i64 ((q:Int)*29))+wr .i64 (wr .i64 e*53))=y*131+z*1117+q*29+e*53:=by
    rw[aH (n:=y) (by omega) (by omega),aH (n:=z) (by omega) (by omega),aH (n:=e) (by omega) (by omega),aH (n:=y*131) (by omega) (by omega),aH (n:=z*1117) (by omega) (by omega),aH (n:=(q:Int)*29) (by omega) (by omega),aH (n:=e*53) (by omega) (by omega),
     aH (n:=y*131+z*1117) (by omega) (by omega),aH (n:=y*131+z*1117+(q:Int)*29) (by omega) (by omega),aH (n:=y*131+z*1117+(q:Int)*29+e*53) (by omega) (by omega)]
   rw[x1];have u:0<=y*131+z*1117+q*29+e*53/\y*131+z*1117+q*29+e*53<=10000000:=by omega
   generalize y*131+z*1117+(q:Int)*29+e*53=X at u ⊢;have d2:0<=CY X 64/\CY X 64<=X:=⟨DE u.1 (by omega),DA _ u.1⟩;rw[aH (n:=CY X 64) (by omega) (by omega)];exact⟨_,rfl,r _ (AI u.1 (by omega) d2.1 (by omega))⟩
theorem vG (K:Nat)(t:List ah)(f:ah)(ht:t.length<=1048576)(R:Asc (λg:ah=>g.1) t)(Y:1048577<K):Q36.f K (t,f,())=some (((bS t f).1,(bS t f).2,()),()):=by
 simp only[Q36.f,Q36.pre];obtain⟨o,z,J⟩:=fj K t f.1 ht Y;rw[J];simp only[BA];cases z with
 |at_ i r e =>
  simp only;rw[kh R r e,decide_eq_true (by omega:((i:Nat):Int)>=0),ag r];simp only[cond_true,BA,BE,ag r];rw[show Q19.f K (f,t[i],())=_ from pF K f t[i]];simp only[BA];by_cases z:bI f t[i]
  ·rw[decide_eq_true z,if_pos z];simp only[BI,cond_false];rw[szb _ _ _ (by omega) (by show (BB ([]:List ah))+t.length<=_;simp;omega)];simp only[cond_true,BO,ag r,BA,BE];rw[il (k:=λg:ah=>g.1) R r e]
  ·rw[decide_eq_false z,if_neg z];rfl
 |no h =>
  simp only;rw[im h,decide_eq_false (by omega:¬ (-1:Int)>=0)];simp only[cond_false];have I:∀ m:Nat,m<=t.length->(bif decide ((0:Int)<=0)&&decide ((0:Int)<=(m:Int))&&decide ((m:Int)<=(BB t:Int))&&true then (bif decide ((BB ([]:List ah)+BB ((t.take (BD (m:Int))).drop (BD 0)))*32<=ao) then (bif decide ((BB ([]++((t.take (BD (m:Int))).drop (BD 0)))+BB ([f]))*32<=ao) then (bif decide ((0:Int)<=(m:Int))&&decide ((m:Int)<=(BB t:Int))&&decide ((BB t:Int)<=(BB t:Int))&&true then (bif decide ((BB (([]++((t.take (BD (m:Int))).drop (BD 0)))++([f]))+BB ((t.take (BD (BB t:Int))).drop (BD (m:Int))))*32<=ao) then (some (((([]++((t.take (BD (m:Int))).drop (BD 0)))++([f]))++((t.take (BD (BB t:Int))).drop (BD (m:Int))),true,()),())) else none) else none) else none) else none) else (none:Option ((List ah×Bool×Unit)×Unit)))=some ((t.take m++[f]++t.drop m,true,()),()):=by
   intro m X;rw[decide_eq_true (by omega:(0:Int)<=0),decide_eq_true (by omega:(0:Int)<=(m:Int)),decide_eq_true (by omega:(m:Int)<=(BB t:Int)),decide_eq_true (by omega:(BB t:Int)<=(BB t:Int))];simp only[BE,CO,Br,BO,CI,CK,cond_true];have J:(t.take m).length=m:=by rw[BW];omega
   have H:(t.drop m).length=t.length-m:=Bx;rw[szb _ _ _ (by omega) (by simp only[BM];omega),szb _ _ _ (by omega) (by simp only[BG,BM];omega),szb _ _ _ (by omega) (by simp only[BP,BG,BM];omega)];rfl
  have:=cr (step:=λrec a=>Q36.s0 K (t,f,()) rec a) t.length (λi=>(i:Int)) (λj=>∃ h:j<t.length,¬ t[j].1<f.1) (some ((t.take t.length++[f]++t.drop t.length,true,()),())) (λj=>some ((t.take j++[f]++t.drop j,true,()),())) ?_ ?_ t.length K 0 (by omega) (by omega)
  ·have M:∀ m,m<=t.length->(∀ i,(r:i<t.length)->i<m->t[i].1<f.1)->(∀ i,(r:i<t.length)->m<=i->f.1<t[i].1)->t.take m++[f]++t.drop m=bw (λg=>g.1) f t:=λm X Z r=>gr (k:=λg:ah=>g.1) X Z r
   rcases this with ⟨J,H⟩|⟨j,_,J,⟨h3,h4⟩,h5,H⟩
   ·rw[M t.length (BR _) (λi r _=>by
     have:=J i (BX _) r;exact CN.1 λh=>this ⟨r,h⟩) (λi r h=>by omega)]at H
    exact H
   ·rw[M j (by omega) (λi r y=>by
     have:=h5 i (BX _) y;exact CN.1 λh=>this ⟨r,h⟩) (λi r y=>by
     have a0:=h t[i] (BC r);rcases B5 y with O|O
     ·have:=cD.1 R j i h3 r O;omega
     ·subst O;omega)]at H
    exact H
  ·intro rec i r;simp only[Q36.s0];rw[bo (by omega:(i:Int)<(BB t:Int)),ag r,au i (by omega)];simp only[cond_true,BA];rw[show idx t ((BD (i:Int):Nat):Int)=some t[i] by rw[BE];exact ag r];simp only[BA];by_cases u:t[i].1<f.1
   ·exact .inl ⟨λ⟨_,h⟩=>h u,by rw[decide_eq_true u];rfl⟩
   ·exact .inr ⟨⟨r,u⟩,by rw[decide_eq_false u];exact I i (by omega)⟩
  ·intro rec;simp only[Q36.s0,aS,cond_false];exact I t.length (BR _)
def eX (t:List ah)(fs:List ah):List ah:=fs.foldl (λt f=>(bS t f).1) t
theorem qX:∀ {fs t:List ah},aB t->(∀ f∈fs,bm f)->aB (eX t fs)
 |[],_,h,_=>h
 |f::fs,t,h,r=>qX (fs:=fs) (ki h (r f (by simp))) (λg u=>r g (by simp[u]))
theorem bY {t:List ah}(h:aB t):t.length<=1048576:=Bu (iP h.2 (λg r=>(h.1 g r).1)) (by decide)
theorem od {R:Type}(a fs:List ah)(O:aB a)(X:∀ f∈fs,bm f)(r:List ah->Option R){step:(List ah×Int->Option R)->List ah×Int->Option R}
  (h:∀ (rec:List ah×Int->Option R) (t:List ah) (i:Nat) (I:i<fs.length),aB t->step rec (t,(i:Int))=rec ((bS t fs[i]).1,((i+1:Nat):Int)))
  (y:∀ (rec:List ah×Int->Option R) (t:List ah),step rec (t,(fs.length:Int))=r t) {k:Nat} (z:fs.length<k):af step k (a,0)=r (eX a fs):=by
 have:∀ (d i k:Nat) (t:List ah),i+d=fs.length->d<k->aB t->af step k (t,(i:Int))=r (eX t (fs.drop i)):=by
  intro d;induction d with
  |zero =>
   intro i k t I z _;obtain⟨k,rfl⟩:∃ H,k=H+1:=⟨k-1,by omega⟩;have:i=fs.length:=by omega
   subst this;show step (af step k) _=_;rw[y,Cd];rfl
  |succ d M =>
   intro i k t I z J;obtain⟨k,rfl⟩:∃ H,k=H+1:=⟨k-1,by omega⟩;have u:i<fs.length:=by omega
   show step (af step k) _=_;rw[h _ _ _ u J,BL u];exact M (i+1) k _ (by omega) (by omega) (ki J (X _ (BC u)))
 have:=this fs.length 0 k a (by omega) z O
 rwa [Br]at this
theorem AJ (K:Nat)(a b:List ah)(u:aB a)(r:aB b)(y:1048577<K):Q106.f K (a,b,())=some ((eX a b,()),()):=by
 simp only[Q106.f,Q106.pre,Q0.f];obtain⟨Z,Y,O⟩:=gq K a (bY u) y;obtain⟨b2,H,R⟩:=gq K b (bY r) y;have X:=O.2 u;have J:=R.2 r;subst X J;have M:=bY r;rw[Y,H];simp only[BA,BI,cond_false];rw[dY (by have:=bY u;omega)];simp only[BA];refine od a b u r.1 (step:=λrec x=>Q106.s0 K (a,b,()) rec x) (λt=>some ((t,()),())) ?_ ?_ (by omega)
 ·intro rec t i I z;simp only[Q106.s0];rw[bo (by omega:(i:Int)<(BB b:Int)),ag I,au i (by omega)];simp only[cond_true,BA];rw[vv K t _ (bY z) z.2 y];rfl
 ·intro rec t;simp only[Q106.s0,aS];rfl
theorem xc (f:ah):¬ bI f f:=by
 unfold bI;simp
theorem kl (K:Nat)(xs:List ah)(z:xs.length<=1048576)(y:1048577<K):Q223.f K (xs,xs,())=rb true:=by
 have r:Q223.l0 K (xs,xs,()) 0=rb true:=by
  refine fm (step:=λrec a=>Q223.s0 K (xs,xs,()) rec a) xs.length (λi=>(i:Int)) (rb true) ?_ ?_ (by omega)
  ·intro rec i u;simp only[Q223.s0];rw[decide_eq_true (by omega:(i:Int)<(BB xs:Int)),ag u,au i (by omega)];simp only[cond_true,BA];rw[show Ty.eqv t2 xs[i] xs[i]=decide (xs[i]=xs[i]) from gW _ _,decide_eq_true rfl];rfl
  ·intro rec;simp only[Q223.s0,aS];rfl
 simp only[Q223.f,Q223.pre,bne_self_eq_false,cond_false];exact r
theorem oX {l:List aM}(O:cR l)(T:List Int):aB (eh l T l.length):=by
 unfold eh;constructor
 ·intro f hf;obtain⟨i,H,rfl⟩:=BZ.1 hf;obtain⟨R,h1⟩:=ir.1 (BH.1 H).1;obtain⟨b,rfl⟩:=BF R;have J:b<l.length:=by omega
  rw[cz J];exact (O.1 l[b] (BC J)).1
 ·unfold Asc;rw[Bv];have hp:((cA l.length).filter λi=>decide (i∈T)).Pairwise λ (a b:Int)=>(0<=a/\a<l.length)/\(0<=b/\b<l.length)/\a<b:=by
   refine CP _ ?_;have:∀ u:List Int,(∀ x∈u,0<=x/\x<l.length)->u.Pairwise (·<·)->u.Pairwise λ (a b:Int)=>(0<=a/\a<l.length)/\(0<=b/\b<l.length)/\a<b:=by
    intro u z r;induction u with
    |nil=>exact List.Pairwise.nil
    |cons x u Y =>
     rw[BQ]at r ⊢;exact⟨λy I=>⟨z x (by simp),z y (by simp[I]),r.1 y I⟩,Y (λy I=>z y (by simp[I])) r.2⟩
   exact this _ (λx z=>ir.1 z) (jb _)
  refine hp.imp λ {a b} h=>?_
  obtain⟨⟨X,a1⟩,⟨b0,b1⟩,Z⟩:=h;obtain⟨i,rfl⟩:=BF X;obtain⟨j,rfl⟩:=BF b0;have H:i<l.length:=by omega
  have M:j<l.length:=by omega
  rw[cz H,cz M];exact cD.1 O.2 i j H M (by omega)
theorem yy {l:List aM}(J:cR l)(T:List Int):cR (dB l T l.length):=by
 have r:∀ i (h:i<l.length),(dN l T (i:Int)).1=l[i].1:=λi h=>by
  unfold dN;rw[cz h];cases decide ((i:Int)∈T) <;> rfl
 have z:∀ i (h:i<l.length),(dN l T (i:Int)).2<=l[i].2:=λi h=>by
  unfold dN;rw[cz h];cases decide ((i:Int)∈T) with
  |true=>show l[i].2-1<=l[i].2;omega
  |false=>exact CA _
 unfold dB;constructor
 ·intro x O;obtain⟨M,H⟩:=BH.1 O;have H:x.2>0:=by simpa using H
  obtain⟨i,u,rfl⟩:=BJ M;rw[eC]at u;rw[e9 l T u]at H ⊢;have:=(J.1 l[i] (BC u));refine⟨by rw[r i u];exact this.1,?_,?_⟩
  ·omega
  ·have R:=z i u;have X:=this.2.2;omega
 ·unfold Asc;refine CP _ ?_;rw[CD];intro i j u y I;rw[eC]at u y;show (fX l T l.length)[i].1.1<(fX l T l.length)[j].1.1;rw[e9 l T u,e9 l T y,r i u,r j y];exact cD.1 J.2 i j u y I
def fK (n:aa)(to:Int):List ah :=
 bif (aQ (aa.table n) to).2.2.1==2 then (bS (eh (aa.cast n) (bX (aa.cast n)) (aa.cast n).length) (aQ (aa.table n) to)).1 else eh (aa.cast n) (bX (aa.cast n)) (aa.cast n).length
def gw (n:aa):aa:=fW n (aa.table n) (dB (aa.cast n) (bX (aa.cast n)) (aa.cast n).length) (aa.doubts n)
theorem nO {n:aa}(h:ct n)(to:Int):aB (fK n to):=by
 have u:=oX h.cast (bX (aa.cast n));unfold fK;cases y:(aQ (aa.table n) to).2.2.1==2 with
 |false=>exact u
 |true =>
  refine ki u (el h.table ?_).1;by_cases r:∃ f∈aa.table n,f.1=to
  ·exact r
  ·rw[jx (λg z e=>r ⟨g,z,e⟩)]at y;simp at y
theorem clen {n:aa}(h:ct n):(aa.cast n).length<=8:=iP h.cast.2 (λx r=>(h.cast.1 x r).1.1)
theorem uO (K:Nat)(n:aa)(to:Int)(h:ct n)(y:1048577<K):Q190.f K (n,to,())=some ((fK n to,gw n,()),()):=by
 have M:=clen h;simp only[Q190.f,zcp8];rw[show Q44.f K (n.2.2.2.2.2.2.2.2.2.1,3,())=_ from AH K (aa.cast n) (by omega) h.cast y];simp only[BA];obtain⟨o,J,I⟩:=fj K (aa.table n) to h.lt y;rw[show Q16.f K (n.2.2.2.2.2.2.2.2.1,to,())=_ from I];simp only[BA,fK];have H:=oX h.cast (bX (aa.cast n));cases J with
 |no u =>
  rw[jx u];rfl
 |at_ j z e =>
  have r:aQ (aa.table n) to=(aa.table n)[j]:=by rw[<- e];exact jv h.table.2 (BC z)
  rw[r];simp only;rw[decide_eq_true (by omega:((j:Nat):Int)>=0),show idx n.2.2.2.2.2.2.2.2.1 ((j:Nat):Int)=some (aa.table n)[j] from ag z];simp only[cond_true,BA];cases (aa.table n)[j].2.2.1==2 with
  |false=>rfl
  |true =>
   simp only[cond_true];rw[vG K _ _ (bY H) H.2 y];rfl
theorem vH (K:Nat)(n:aa)(to:Int)(h:ct n)(r:1048577<K):Q140.f K (n,to,())=some ((fK n to,()),(gw n,())):=by
 simp only[Q140.f,zcp8];rw[show Q139.f K (n.2.2.2.2.2.2.2.2.2.1,3,())=_ from vF K (aa.cast n) (clen h) h.cast r];simp only[BA];obtain⟨b,y⟩:=mO K (aa.table n) to h.table h.lt r;rw[show Q74.f K (n.2.2.2.2.2.2.2.2.1,to,())=_ from y];simp only[BA,fK];have u:=oX h.cast (bX (aa.cast n));cases (aQ (aa.table n) to).2.2.1==2 with
 |false=>rfl
 |true =>
  simp only[cond_true];rw[vv K _ _ (bY u) u.2 r];rfl
def cI (n:aa)(k:Nat):Int:=CR (n.2.2.2.2.2.2.2.1+(k:Int)) 8
def hM (n:aa)(k:Nat):Prop:=cI n k≠n.1/\eA (aQ (aa.table n) (cI n k))=true
def askN (n:aa)(to:Int):aa :=
 let m:=gw n
 (m.1,m.2.1,m.2.2.1,m.2.2.2.1,m.2.2.2.2.1,m.2.2.2.2.2.1,m.2.2.2.2.2.2.1+1,to+1,m.2.2.2.2.2.2.2.2.1,m.2.2.2.2.2.2.2.2.2.1,(to,m.2.2.2.2.2.1,m.2.2.2.2.2.2.1+1,false),m.2.2.2.2.2.2.2.2.2.2.2)
def pingW (n:aa)(to:Int):ak:=(1,1,n.1,to,n.2.2.2.2.2.2.1+1,n.1,aa.coord n,fK n to)
theorem zR (K:Nat)(n:aa)(h:ct n)(O:0<=n.2.2.2.2.2.2.2.1)(a0:n.2.2.2.2.2.2.2.1<=8)(X:1048577<K) :
  ∃ to:Int,Q191.f K (n,())=some ((to,()),())/\((to=-1/\∀ k,k<8->¬ hM n k)\/∃ k,k<8/\hM n k/\(∀ j,j<k->¬ hM n j)/\to=cI n k):=by
 have u:∀ k:Nat,k<8->wr .i64 (n.2.2.2.2.2.2.2.1+(k:Int))=n.2.2.2.2.2.2.2.1+(k:Int):=λk M=>aH (by omega) (by omega)
 have:=cr (step:=λrec a=>Q191.s0 K (n,()) rec a) 8 (λi=>(i:Int)) (hM n) (some ((-1,()),())) (λj=>some ((cI n j,()),())) ?_ ?_ 8 K 0 (by omega) (by omega)
 ·rcases this with ⟨I,z⟩|⟨j,_,I,Z,Y,z⟩
  ·exact⟨-1,z,.inl ⟨rfl,λk M=>I k (BX _) M⟩⟩
  ·exact⟨_,z,.inr ⟨j,I,Z,λm hm=>Y m (BX _) hm,rfl⟩⟩
 ·intro rec i R;simp only[Q191.s0];rw[decide_eq_true (by omega:(i:Int)<=7),u i R,au i (by omega)];simp only[cond_true];show (¬ hM n i/\(bif cI n i != n.1 then ((Q187.f K (aa.table n,cI n i,())).bind λJ=>bif J.1.1 then (some ((cI n i,()),())) else (rec ((i+1:Nat):Int))) else (rec ((i+1:Nat):Int)))=rec ((i+1:Nat):Int))\/(hM n i/\(bif cI n i != n.1 then ((Q187.f K (aa.table n,cI n i,())).bind λJ=>bif J.1.1 then (some ((cI n i,()),())) else (rec ((i+1:Nat):Int))) else (rec ((i+1:Nat):Int)))=some ((cI n i,()),()));rw[sN K (aa.table n) (cI n i) h.table h.lt X];by_cases r:cI n i=n.1
  ·exact .inl ⟨λy=>y.1 r,by rw[show (cI n i != n.1)=false by simpa using r];rfl⟩
  ·rw[show (cI n i != n.1)=true by simpa using r];cases H:eA (aQ (aa.table n) (cI n i)) with
   |true=>exact .inr ⟨⟨r,H⟩,rfl⟩
   |false=>exact .inl ⟨λy=>(by rw[y.2]at H;cases H),rfl⟩
 ·intro rec;simp only[Q191.s0];rfl
abbrev lx:=Int×ByteArray×Bool
abbrev bR:=List aa×List lx×List Int×List ah
abbrev bR.radio (w:bR):List lx:=w.2.1
abbrev bR.sides (w:bR):List Int:=w.2.2.1
abbrev bR.born (w:bR):List ah:=w.2.2.2
theorem fa {n:Int}(h:InP n 0 7):am n=n / 4:=by
 obtain⟨r,u⟩:=h;unfold am;rw[Bz r,aH (by omega) (by omega)]
theorem zS {α:Type}{k:α->Int}{xs:List α}(h:Asc k xs):∀ i (r:i<xs.length),k (xs[0]'(by omega))+i<=k xs[i]:=by
 rw[gM]at h;intro i;induction i with
 |zero=>intro r;simp
 |succ i u =>
  intro r;have z:=u (by omega);have y:=h (i+1) r (by omega);simp only[Nat.add_sub_cancel]at y;omega
theorem ui {t:List ah}{s:Int}(u:aB t)(z:cd t s):t.length<=4:=by
 cases h:t.length with
 |zero=>omega
 |succ m =>
  have r:m<t.length:=by omega
  have y:0<t.length:=by omega
  have O:=zS u.2 m r;have M:=z _ (BC r);have I:=z _ (BC y);have H:=(u.1 _ (BC r)).1;have J:=(u.1 _ (BC y)).1;rw[fa H]at M;rw[fa J]at I;omega
theorem sW {u:Int}{l:List bZ}(z:InP u 0 7)(h:c7 u l):l=[]\/∃ x,l=[x]:=by
 match l,h with
 |[],_=>exact .inl rfl
 |[x],_=>exact .inr ⟨x,rfl⟩
 |x::y::r,h =>
  exfalso;have J:=h.1 x (by simp);have I:=h.1 y (by simp);have Y:x.1<y.1:=by
   have:=h.2;unfold Asc at this;rw[BQ]at this;exact this.1 y (by simp)
  have e:=fa z;obtain⟨⟨O,a2⟩,H,_⟩:=J;obtain⟨⟨Z,b2⟩,M,_⟩:=I;obtain⟨R,X⟩:=z;rw[e]at H M;omega
theorem ly {a:Int}{m:Nat}(u:m<4611686018427387904):0<=bB .i64 a (m:Int)/\bB .i64 a (m:Int)<=m:=by
 have h:(BitVec.ofInt 64 a &&& BitVec.ofInt 64 (m:Int)).toNat<=m:=by
  rw[BitVec.toNat_and];refine Bu Nat.and_le_right ?_;rw[BitVec.toNat_ofInt];omega
 show 0<=IntKind.i64.wrap (((BitVec.ofInt 64 a &&& BitVec.ofInt 64 (m:Int)).toNat:Nat):Int)/\IntKind.i64.wrap (((BitVec.ofInt 64 a &&& BitVec.ofInt 64 (m:Int)).toNat:Nat):Int)<=m;generalize (BitVec.ofInt 64 a &&& BitVec.ofInt 64 (m:Int)).toNat=r at h ⊢;rw[C9];omega
def gO (g:List Int)(d:Int):Int:=g.getD (BD (CR (bB .i64 d 255) (g.length:Int))) 0
theorem is {g:List Int}{d:Int}(h:g≠[]):idx g (CR (bB .i64 d 255) (g.length:Int))=some (gO g d)/\idx g ((BD (CR (bB .i64 d 255) (g.length:Int)):Nat):Int)=some (gO g d)/\gO g d∈g:=by
 have I:0<g.length:=Ch.2 h;have u:=(ly (a:=d) (m:=255) (by omega)).1;have H:0<=CR (bB .i64 d 255) (g.length:Int):=DD _ u;have z:CR (bB .i64 d 255) (g.length:Int)<g.length:=C0 _ (by omega);unfold gO;obtain⟨v,y⟩:=BF H;rw[y]at z ⊢;have r:v<g.length:=by omega
 rw[BE,ag r,List.getD_eq_getElem?_getD,BK r];exact⟨rfl,rfl,BC r⟩
def l8 (n:aa)(r d:Int):Int :=
 bif decide (fG (eG (aa.others n) r)≠[])&&bB .i64 d 4==0 then gO (fG (eG (aa.others n) r)) (B7 d (2 ^ 3)) else r*4+bB .i64 (B7 d (2 ^ 3)) 3
structure nP (n:aa):Prop where
 short:(aa.others n).length<=1
 table:∀ x∈aa.others n,aB x.2/\x.2.length<=1048576
theorem AK {r d:Int}(z:0<=r)(H:r<=1):wr .i64 (wr .i64 (r*4)+bB .i64 (B7 d (2 ^ 3)) 3)=r*4+bB .i64 (B7 d (2 ^ 3)) 3:=by
 obtain⟨y,u⟩:=ly (a:=B7 d (2 ^ 3)) (m:=3) (by omega);have y:0<=bB .i64 (B7 d (2 ^ 3)) 3:=y;have u:bB .i64 (B7 d (2 ^ 3)) 3<=3:=u;rw[aH (n:=r*4) (by omega) (by omega),aH (by omega) (by omega)]
theorem far_s (K:Nat)(n:aa)(r d:Int)(h:nP n)(J:0<=r)(O:r<=1)(M:1048577<K):Q196.f K (n,r,d,())=some ((l8 n r d,()),()):=by
 obtain⟨k,rfl⟩:∃ k,K=k+2:=⟨K-2,by omega⟩;show Q196.s0 (k+2) (n,r,d,()) (af (λrec a=>Q196.s0 (k+2) (n,r,d,()) rec a) (k+1)) 0=_;have y:∀ (rec:Int->Option ((Int×Unit)×Unit)) (a:Int),¬ a<(aa.others n).length->Q196.s0 (k+2) (n,r,d,()) rec a=some ((r*4+bB .i64 (B7 d (2 ^ 3)) 3,()),()):=by
  intro rec a R;simp only[Q196.s0];rw[show decide (a<(BB n.2.2.2.2.2.2.2.2.2.2.2.2.2.2:Int))=false from decide_eq_false R,AK J O];rfl
 match z:aa.others n with
 |[] =>
  rw[y _ _ (by rw[z];simp),l8,z];rfl
 |[x] =>
  have X:=h.table x (by rw[z];simp);have u:af (λrec a=>Q196.s0 (k+2) (n,r,d,()) rec a) (k+1) 1=some ((r*4+bB .i64 (B7 d (2 ^ 3)) 3,()),()):=y _ _ (by rw[z];simp);generalize af (λrec a=>Q196.s0 (k+2) (n,r,d,()) rec a) (k+1)=rec at u ⊢;simp only[Q196.s0];rw[show decide ((0:Int)<(BB n.2.2.2.2.2.2.2.2.2.2.2.2.2.2:Int))=true from decide_eq_true (by show (0:Int)<((aa.others n).length:Int);rw[z];simp),show idx n.2.2.2.2.2.2.2.2.2.2.2.2.2.2 (0:Int)=some x by show idx (aa.others n) (0:Int)=some x;rw[z];rfl,show wr .i64 ((0:Int)+1)=1 from rfl];simp only[cond_true,BA,u];rw[l8,z];cases I:x.1==r with
  |false =>
   simp only[cond_false,eG,Cr,I,List.find?_nil];rfl
  |true =>
   simp only[cond_true,eG,Cr,I,DB,C8];rw[uH (k+2) x.2 X.2 M];simp only[BA];by_cases H:fG x.2=[]
   ·rw[H];rfl
   ·have Y:0<(fG x.2).length:=Ch.2 H;rw[decide_eq_true H,decide_eq_true (by omega:((fG x.2).length:Int)>0)];simp only[cond_true,B6];cases bB .i64 d 4==0 with
    |false=>rfl
    |true =>
     simp only[cond_true];rw[decide_eq_false (by omega:¬ ((fG x.2).length:Int)=0),(is H).1,(is H).2.1];rfl
 |_::_::_=>exact absurd h.short (by rw[z];simp)
def lz (n:aa):Bool:=decide (n.1∈fG (aa.table n))
theorem yz (K:Nat)(n:aa)(M:(aa.table n).length<=1048576)(z:1048577<K):Q195.f K (n,())=rb (lz n):=by
 simp only[Q195.f,Q195.pre];rw[show Q194.f K (n.2.2.2.2.2.2.2.2.1,2,())=_ from uH K (aa.table n) M z];simp only[BA];have I:=wR (aa.table n);unfold lz;generalize fG (aa.table n)=g at I ⊢;have:=cr (step:=λrec a=>Q195.s0 K (n,()) rec a) g.length (λi=>(g,(i:Int))) (λj=>∃ h:j<g.length,g[j]=n.1) (rb false) (λ_=>rb true) ?_ ?_ g.length K 0 (by omega) (by omega)
 ·rcases this with ⟨y,u⟩|⟨j,_,y,⟨O,J⟩,_,u⟩
  ·rw[decide_eq_false (λR=>by
    obtain⟨i,r,e⟩:=BJ R;exact y i (BX _) r ⟨r,e⟩)]
   exact u
  ·rw[decide_eq_true (J ▸ BC O:n.1∈g)];exact u
 ·intro rec i r;simp only[Q195.s0];rw[bo (by omega:(i:Int)<(BB g:Int)),ag r,au i (by omega),BE,ag r];simp only[cond_true,BA];by_cases h:g[i]=n.1
  ·exact .inr ⟨⟨r,h⟩,by rw[show (g[i]==n.1)=true by simpa using h];rfl⟩
  ·exact .inl ⟨λ⟨_,H⟩=>h H,by rw[show (g[i]==n.1)=false by simpa using h];rfl⟩
 ·intro rec;simp only[Q195.s0,aS];rfl
def wanW (n:aa)(d r:Int):ak:=(2,(nM 6 n (l8 n r d)).2)
def l9 (n:aa)(d:Int):List ak:=bif lz n then (([0,1]:List Int).filter (λs=>s != am n.1)).map (wanW n d) else []
theorem wan_s (K:Nat)(n:aa)(d:Int)(h:nP n)(y:(aa.table n).length<=1048576)(u:1048577<K):Q197.f K (n,d,())=some ((l9 n d,()),()):=by
 simp only[Q197.f,Q197.pre];rw[yz K n y u];simp only[BA,l9];cases lz n with
 |false=>rfl
 |true =>
  simp only[BI,cond_false,cond_true];refine qq (step:=λrec a=>Q197.s0 K (n,d,()) rec a) ([0,1]:List Int) (λs=>s != am n.1) (wanW n d) (λr i=>(r,(i:Int))) (λM=>some ((M,()),())) ?_ ?_ (by simp;omega)
  ·intro rec r i z I;have H:i<2:=z;have J:([0,1]:List Int)[i]=(i:Int):=by
    have:i=0\/i=1:=by omega
    rcases this with rfl|rfl <;> rfl
   simp only[Q197.s0,J];rw[decide_eq_true (by omega:(i:Int)<=1),au i (by omega),dk K n.1];simp only[cond_true,BA];cases (i:Int) != am n.1 with
   |false=>rfl
   |true =>
    simp only[cond_true];rw[far_s K n (i:Int) d h (by omega) (by omega) u];simp only[BA];refine (congrArg (λo=>BS o _) (nN K n 6 (l8 n (i:Int) d) y)).trans ?_;simp only[BA];rw[szw _ _ _ (by omega) (by simp;omega)];rfl
  ·intro rec r I;simp only[Q197.s0];rfl
def sX (n:aa)(f:ah):Bool:=f.2.2.1 != 4&&f.1 != n.1
def fp (n:aa):List Int:=((aa.table n).filter (sX n)).map (·.1)
def sY (n:aa)(to:Int):List ak:=match aa.others n with
 |[]=>[]
 |x::_=>[(1,6,n.1,to,0,n.1,aa.coord n,x.2)]
def j9 (n:aa)(r:Int):List ak :=
 bif bB .i64 r 3==1 then l9 n (B7 r (2 ^ 2)) else
 bif bB .i64 r 3==3||decide (fp n=[]) then [] else
 bif bB .i64 r 3==0 then [nM 4 n (gO (fp n) (B7 r (2 ^ 2)))] else sY n (gO (fp n) (B7 r (2 ^ 2)))
theorem and3 (a:Int):bB .i64 a 3=0\/bB .i64 a 3=1\/bB .i64 a 3=2\/bB .i64 a 3=3:=by
 obtain⟨r,u⟩:=ly (a:=a) (m:=3) (by omega);have r:0<=bB .i64 a 3:=r;have u:bB .i64 a 3<=3:=u;omega
theorem xd {n:aa}(r:aB (aa.table n)){v:Int}(u:v∈fp n):0<=v:=by
 obtain⟨f,y,rfl⟩:=BZ.1 u;exact (r.1 f (BH.1 y).1).1.1
theorem AL (K:Nat)(n:aa)(d:Int)(H:(aa.table n).length<=1048576)(M:1048577<K):Q193.f K (n,d,())=some ((bif decide (fp n=[]) then -1 else gO (fp n) d,()),()):=by
 refine (vu (step:=λrec a=>Q193.s0 K (n,d,()) rec a) (aa.table n) (sX n) (λf=>f.1) (λy=>some ((bif decide (y=[]) then -1 else gO y d,()),())) ?_ ?_ (by omega)).trans rfl
 ·intro rec r i z J;simp only[Q193.s0];rw[show decide ((i:Int)<(BB n.2.2.2.2.2.2.2.2.1:Int))=true from bo (by omega:(i:Int)<(BB (aa.table n):Int)),show idx n.2.2.2.2.2.2.2.2.1 (i:Int)=some (aa.table n)[i] from ag z,au i (by omega)];simp only[cond_true,BA,sX];rw[szb _ _ _ (by omega) (by simp;omega)];cases (aa.table n)[i].1 != n.1 <;> cases (aa.table n)[i].2.2.1 != 4 <;> rfl
 ·intro rec r _;simp only[Q193.s0];rw[show decide ((BB (aa.table n):Int)<(BB n.2.2.2.2.2.2.2.2.1:Int))=false from aS _];simp only[cond_false];by_cases u:r=[]
  ·subst u;rfl
  ·have I:0<r.length:=Ch.2 u;rw[show ((r.length:Int)==0)=false by simp;exact u,decide_eq_false (by omega:¬ (r.length:Int)=0),decide_eq_false u,(is u).1,(is u).2.1];rfl
theorem AM (K:Nat)(n:aa)(r:Int)(h:nP n)(J:aB (aa.table n))(z:(aa.table n).length<=1048576)(I:1048577<K):Q198.f K (n,r,())=some ((j9 n r,()),()):=by
 simp only[Q198.f];rw[AL K n _ z I];simp only[BA];rw[wan_s K n _ h z I];simp only[BA,j9];by_cases u:fp n=[]
 ·rw[decide_eq_true u];simp only[cond_true,DG,show decide ((-1:Int)>=0)=false from rfl,cond_false];rcases and3 r with e|e|e|e <;> rw[e] <;> rfl
 ·have O:=xd J (is (d:=B7 r (2 ^ 2)) u).2.2;rw[decide_eq_false u];simp only[cond_false,Bool.or_false];rw[decide_eq_true (by omega:gO (fp n) (B7 r (2 ^ 2))>=0)];simp only[cond_true];rw[show Q41.f K (n,4,gO (fp n) (B7 r (2 ^ 2)),0,n.1,n.2.2.2.2.2.2.2.2.1,())=_ from nN K n 4 _ z];simp only[BA];rcases and3 r with e|e|e|e
  ·rw[e];rfl
  ·rw[e];rfl
  ·rw[e];simp only[show ((2:Int)==0)=false from rfl,show ((2:Int)==1)=false from rfl,show ((2:Int)==2)=true from rfl,show ((2:Int)==3)=false from rfl,cond_false,cond_true];unfold sY
   match y:aa.others n with
   |[] =>
    rw[show decide ((BB n.2.2.2.2.2.2.2.2.2.2.2.2.2.2:Int)>0)=false by show decide (((aa.others n).length:Int)>0)=false;rw[y];rfl];rfl
   |[x] =>
    have M:=h.table x (by rw[y];simp);have H:(aa.others n).length=1:=by rw[y];rfl
    rw[show decide ((BB n.2.2.2.2.2.2.2.2.2.2.2.2.2.2:Int)>0)=true by show decide (((aa.others n).length:Int)>0)=true;rw[H];rfl,show decide ((BB n.2.2.2.2.2.2.2.2.2.2.2.2.2.2:Int)=0)=false by show decide (((aa.others n).length:Int)=0)=false;rw[H];rfl];simp only[cond_true,cond_false];rw[show idx n.2.2.2.2.2.2.2.2.2.2.2.2.2.2 (CR (bB .i64 (B7 r (2 ^ 10)) 255) (BB n.2.2.2.2.2.2.2.2.2.2.2.2.2.2:Int))=some x by
     show idx (aa.others n) (CR (bB .i64 (B7 r (2 ^ 10)) 255) ((aa.others n).length:Int))=some x;rw[H,y,show ((1:Nat):Int)=1 from rfl,Int.tmod_one];rfl]
    simp only[BA,Q41.f];rw[szb _ _ _ (by omega) (by have:=M.2;simp;omega)];rfl
   |_::_::_=>exact absurd h.short (by rw[y];simp)
  ·rw[e];rfl
def rk (f:ah):Int:=f.2.1*16+f.2.2.1*2+(if f.2.2.2=true then 1 else 0)
theorem qt {f g:ah}(u:bm f)(r:bm g):bI f g<->rk g<rk f:=by
 obtain⟨_,_,z,y⟩:=u;obtain⟨_,_,H,I⟩:=r;unfold bI rk;by_cases a:f.2.1=g.2.1
 ·rw[if_neg (by simpa using a)];by_cases c:f.2.2.1=g.2.2.1
  ·rw[if_neg (by simpa using c),a,c];cases f.2.2.2 <;> cases g.2.2.2 <;> simp <;> omega
  ·rw[if_pos c];cases f.2.2.2 <;> cases g.2.2.2 <;> simp <;> omega
 ·rw[if_pos a];cases f.2.2.2 <;> cases g.2.2.2 <;> simp <;> omega
theorem oe {t:List ah}(z:Asc (λg:ah=>g.1) t)(f:ah):bS t f=(t,false)\/(bS t f=(bw (λg=>g.1) f t,true)/\∀ g∈t,g.1=f.1->bI f g):=by
 by_cases h:∃ g∈t,g.1=f.1
 ·obtain⟨g,r,e⟩:=h;obtain⟨i,I,rfl⟩:=BJ r;rw[kh z I e];by_cases y:bI f t[i]
  ·rw[if_pos y];refine .inr ⟨rfl,λM u J=>?_⟩;rw[ik z u r (by rw[e,J])];exact y
  ·rw[if_neg y];exact .inl rfl
 ·have H:∀ g∈t,g.1≠f.1:=λg r e=>h ⟨g,r,e⟩
  exact .inr ⟨im H,λg r e=>absurd e (H g r)⟩
theorem oh {n:aa}(R:aB (aa.table n)):iE n<->(∀ d∈aa.doubts n,lu n d)/\Asc (λd:bO=>d.1) (aa.doubts n)/\∀ f∈aa.table n,f.2.2.1=2->∃ d∈aa.doubts n,d.1=f.1:=by
 have M:((aU (aa.table n)).map (λf:ah=>f.1)).Pairwise (·<·):=by
  rw[Bv];exact CP _ R.2
 constructor
 ·rintro⟨h1,h2,h3⟩;refine⟨h1,h2,λf J u=>?_⟩;have r:((aa.doubts n).map (λd:bO=>d.1)).Pairwise (·<·):=by rw[Bv];exact h2
  have:=(i9 _ _ r M (λx y=>by
   obtain⟨d,r,rfl⟩:=BZ.1 y;obtain⟨⟨g,I,e,z,_⟩,_⟩:=h1 d r;exact BZ.2 ⟨g,BH.2 ⟨I,by simpa using z⟩,e⟩)).2 (by rw[BU,BU,h3])
  have O:f.1∈(aU (aa.table n)).map (λf:ah=>f.1):=BZ.2 ⟨f,BH.2 ⟨J,by simpa using u⟩,rfl⟩;rw[<- this]at O;obtain⟨d,r,e⟩:=BZ.1 O;exact⟨d,r,e⟩
 ·rintro⟨h1,h2,h3⟩;refine⟨h1,h2,?_⟩;have r:((aa.doubts n).map (λd:bO=>d.1)).Pairwise (·<·):=by rw[Bv];exact h2
  have Y:=(i9 _ _ r M (λx y=>by
   obtain⟨d,r,rfl⟩:=BZ.1 y;obtain⟨⟨g,I,e,z,_⟩,_⟩:=h1 d r;exact BZ.2 ⟨g,BH.2 ⟨I,by simpa using z⟩,e⟩)).1
  have X:=(i9 _ _ M r (λx y=>by
   obtain⟨f,J,rfl⟩:=BZ.1 y;obtain⟨H,u⟩:=BH.1 J;obtain⟨d,r,e⟩:=h3 f H (by simpa using u);exact BZ.2 ⟨d,r,e⟩)).1
  rw[BU,BU]at Y X;omega
def ch (n:aa):Int:=n.2.2.2.2.2.1
def fq (n:aa)(b:Int):Prop:=InP b 0 7/\am b=am n.1
theorem oi {n:aa}(r:Asc (λg:ah=>g.1) (aa.table n))(f:ah)(b:Int):sayOf n f b=n \/
  (sayOf n f b=fW n (bw (λg=>g.1) f (aa.table n)) (dr (aa.cast n) f) (bif jS n f then aa.doubts n else cO (ch n) (aa.doubts n) f b)/\∀ g∈aa.table n,g.1=f.1->bI f g):=by
 rcases oe r f with h|⟨h,u⟩
 ·left;unfold sayOf;rw[h];rfl
 ·right;refine⟨?_,u⟩;unfold sayOf;rw[h];rfl
theorem vI {n:aa}{f:ah}{b:Int}(O:aB (aa.table n))(hD:iE n)(hf:bm f)(hb:fq n b)(hn:0<=ch n)(c:List aM) :
  iE (fW n (bw (λg=>g.1) f (aa.table n)) c (bif jS n f then aa.doubts n else cO (ch n) (aa.doubts n) f b)):=by
 obtain⟨h1,h2,h3⟩:=(oh O).1 hD;have a0:aB (bw (λg:ah=>g.1) f (aa.table n)):=⟨λg y=>by
  rcases aZ.1 y with rfl|⟨y,_⟩
  ·exact hf
  ·exact O.1 g y,e8 O.2⟩
 refine (oh (n:=fW n _ c _) a0).2 ?_;have J:∀ d∈aa.doubts n,d.1≠f.1->∀ ds,lu (fW n (bw (λg:ah=>g.1) f (aa.table n)) c ds) d:=λd z u ds=>by
  obtain⟨⟨g,y,Y,R,X⟩,r⟩:=h1 d z;exact⟨⟨g,aZ.2 (.inr ⟨y,by rw[Y];exact u⟩),Y,R,X⟩,r⟩
 have I:∀ g∈bw (λg:ah=>g.1) f (aa.table n),g.1≠f.1->g.2.2.1=2->∃ d∈aa.doubts n,d.1=g.1:=λg y u h=>by
  rcases aZ.1 y with rfl|⟨y,_⟩
  ·exact absurd rfl u
  ·exact h3 g y h
 cases hs:jS n f with
 |true =>
  obtain⟨g0,M,s1,s2,s3⟩:=of_decide_eq_true hs;refine⟨λd z=>?_,h2,λg y h=>?_⟩
  ·by_cases u:d.1=f.1
   ·obtain⟨⟨g,y,Y,R,X⟩,r⟩:=h1 d z;rw[ik O.2 y M (by rw[Y,s1,u])]at R X;exact⟨⟨f,aZ.2 (.inl rfl),u.symm,by rw[<- s3];exact R,by rw[<- s2];exact X⟩,r⟩
   ·exact J d z u _
  ·by_cases u:g.1=f.1
   ·have a1:g=f:=by
     rcases aZ.1 y with h|⟨_,h⟩
     ·exact h
     ·exact absurd u h
    rw[a1]at h ⊢;obtain⟨d,z,e⟩:=h3 g0 M (by rw[s3];exact h);exact⟨d,z,by rw[e,s1]⟩
   ·exact I g y u h
 |false =>
  by_cases H:f.2.2.1=2
  ·have e:cO (ch n) (aa.doubts n) f b=bw (λd=>d.1) (mkD (ch n) f b) (aa.doubts n):=by unfold cO;rw[if_pos H]
   simp only[cond_false];rw[e];refine⟨λd z=>?_,e8 h2,λg y h=>?_⟩
   ·rcases aZ.1 z with rfl|⟨z,u⟩
    ·exact⟨⟨f,aZ.2 (.inl rfl),rfl,H,rfl⟩,⟨hn,CA _⟩,List.cons_ne_nil _ _,λx hx=>by rw[Bw.1 hx];exact hb,Co _ _⟩
    ·exact J d z u _
   ·by_cases u:g.1=f.1
    ·exact⟨mkD (ch n) f b,aZ.2 (.inl rfl),u.symm⟩
    ·obtain⟨d,z,e⟩:=I g y u h;exact⟨d,aZ.2 (.inr ⟨z,λe'=>u (e.symm.trans e')⟩),e⟩
  ·have e:cO (ch n) (aa.doubts n) f b=(aa.doubts n).filter (λd=>!(d.1==f.1)):=by unfold cO;rw[if_neg H]
   simp only[cond_false];rw[e];refine⟨λd z=>?_,lX h2 _,λg y h=>?_⟩
   ·obtain⟨z,u⟩:=BH.1 z;exact J d z (by simpa using u) _
   ·have u:g.1≠f.1:=λu=>by
     rcases aZ.1 y with Z|⟨_,Z⟩
     ·rw[Z]at h;exact H h
     ·exact Z u
    obtain⟨d,z,e⟩:=I g y u h;exact⟨d,BH.2 ⟨z,by rw[e];simpa using u⟩,e⟩
theorem vJ {n:aa}{f:ah}(O:aB (aa.table n))(Y:cR (aa.cast n))(X:gV (aa.table n) (aa.cast n))(M:bm f)(R:∀ g∈aa.table n,g.1=f.1->bI f g) :
  gV (bw (λg=>g.1) f (aa.table n)) (dr (aa.cast n) f):=by
 have y:∀ x∈aa.cast n,∃ g∈bw (λg:ah=>g.1) f (aa.table n),g.1=x.1.1/\¬ bI x.1 g:=λx r=>by
  obtain⟨g,J,e,z⟩:=X x r;by_cases u:g.1=f.1
  ·refine⟨f,aZ.2 (.inl rfl),by rw[<- e,u],λh=>z ?_⟩;have I:=(Y.1 x r).1;have H:=O.1 g J;have:=R g J u;rw[qt M H]at this;rw[qt I M]at h;rw[qt I H];omega
  ·exact⟨g,aZ.2 (.inr ⟨J,u⟩),e,z⟩
 intro x r;unfold dr at r;split at r
 ·exact y x r
 ·rcases aZ.1 r with rfl|⟨r,_⟩
  ·exact⟨f,aZ.2 (.inl rfl),rfl,xc f⟩
  ·exact y x r
structure UpX (n:aa):Prop where
 me:InP n.1 0 7
 now0:0<=ch n
 table:aB (aa.table n)
 site:cd (aa.table n) (am n.1)
 cast:cR (aa.cast n)
 vs:gV (aa.table n) (aa.cast n)
 probe:cZ n
 doubts:iE n
 coord:cH (aa.coord n)
 places:eu n.1 (aa.places n)
 others:c7 n.1 (aa.others n)
theorem UpX.of {n:aa}(h:UpP n)(M:InP n.1 0 7)(z:0<=ch n):UpX n:=by
 obtain⟨H,X,_,⟨O,J⟩,R,I,r,y,u⟩:=h;exact⟨M,z,H,X,O,J,R,I,r,y,u⟩
theorem UpX.up {n:aa}(h:UpX n)(r:db n):UpP n:=⟨h.table,h.site,r,⟨h.cast,h.vs⟩,h.probe,h.doubts,h.coord,h.places,h.others⟩
theorem UpX.say {n:aa}(h:UpX n):ct n:=by
 refine ct.mk' h.table h.cast h.doubts.2.1 λd r=>?_
 obtain⟨f,u,e,_⟩:=(h.doubts.1 d r).1;rw[<- e];exact (h.table.1 f u).1
theorem fq.me {n:aa}(h:InP n.1 0 7):fq n n.1:=⟨h,rfl⟩
theorem qY {n m:aa}(h:cZ n)(hm:m.1=n.1)(I:aa.probe m=aa.probe n)(O:∀ g∈aa.table n,∃ r∈aa.table m,r.1=g.1)(X:ch n<=ch m)(hs:n.2.2.2.2.2.2.1<=m.2.2.2.2.2.2.1):cZ m:=by
 unfold cZ at h ⊢;rw[I,hm];split at h
 ·rename_i u;rw[if_pos u];exact h
 ·rename_i u;rw[if_neg u];obtain⟨H,⟨g,Y,eg⟩,⟨M,R⟩,⟨z,Z⟩⟩:=h;obtain⟨r,y,J⟩:=O g Y;exact⟨H,⟨r,y,J.trans eg⟩,⟨M,CZ R X⟩,⟨z,CZ Z hs⟩⟩
theorem UpX.said {n:aa}{f:ah}{b:Int}(h:UpX n)(u:bm f)(H:am f.1=am n.1)(z:fq n b):UpX (sayOf n f b):=by
 rcases oi h.table.2 f b with e|⟨e,I⟩
 ·rw[e];exact h
 ·have y:=λg r=>jy (n:=n) (f:=f) (b:=b) (g:=g) r
  rw[e]at y ⊢;refine⟨h.me,h.now0,⟨λg r=>?_,e8 h.table.2⟩,λg r=>?_,pH h.cast u,vJ h.table h.cast h.vs u I,qY h.probe rfl rfl y (CA _) (CA _),vI h.table h.doubts u z h.now0 _,h.coord,h.places,h.others⟩
  ·rcases aZ.1 r with rfl|⟨r,_⟩
   ·exact u
   ·exact h.table.1 g r
  ·rcases aZ.1 r with rfl|⟨r,_⟩
   ·exact H
   ·exact h.site g r
theorem xe {n:aa}(u:Asc (λg:ah=>g.1) (aa.table n)){f g:ah}{b:Int}(r:g.1≠f.1):g∈aa.table (sayOf n f b)<->g∈aa.table n:=by
 rcases oi u f b with e|⟨e,_⟩
 ·rw[e]
 ·rw[e];exact aZ.trans ⟨λh=>h.elim (λh=>absurd (by rw[h]) r) (·.1),λh=>.inr ⟨h,r⟩⟩
theorem qZ {n:aa}(u:Asc (λg:ah=>g.1) (aa.table n)){f:ah}{b:Int}(h:∀ g∈aa.table n,g.1=f.1->bI f g):f∈aa.table (sayOf n f b):=by
 have H:bS (aa.table n) f=(bw (λg=>g.1) f (aa.table n),true):=by
  rcases oe u f with e|⟨e,_⟩
  ·by_cases z:∃ g∈aa.table n,g.1=f.1
   ·obtain⟨g,r,y⟩:=z;obtain⟨i,I,rfl⟩:=BJ r;rw[kh u I y,if_pos (h _ r y)]
   ·exact im λg r e=>z ⟨g,r,e⟩
  ·exact e
 unfold Go.Proofs.YtaelpfghkndliaaGreatEv.sayOf;rw[H];exact aZ.2 (.inl rfl)
def OnN (n m:aa):Prop:=∃ t c r,m=fW n t c r
theorem OnN.refl (n:aa):OnN n n:=⟨_,_,_,rfl⟩
theorem OnN.say {n m:aa}(h:OnN n m)(f:ah)(b:Int):OnN n (Go.Proofs.YtaelpfghkndliaaGreatEv.sayOf m f b):=by
 obtain⟨t,c,u,rfl⟩:=h;obtain⟨z,y,r,e,_⟩:=iG (fW n t c u) f b;exact⟨z,y,r,e⟩
def ma (n:aa):ah:=(n.1,n.2.2.2.2.1,(if n.2.2.1=true then 4 else 1),n.2.2.2.1)
theorem oY {n m:aa}(J:Asc (λg:ah=>g.1) (aa.table m))(u:OnN n m){f:ah}{b:Int}(r:f.1≠n.1)(h:db m):db (sayOf m f b):=by
 obtain⟨t,c,M,e⟩:=u.say f b;obtain⟨R,O,I,H⟩:=u;have z:ma n∈aa.table m:=by rw[H]at h ⊢;exact h
 have y:=(xe J (f:=f) (b:=b) (g:=ma n) (λh=>r h.symm)).2 z;rw[e]at y ⊢;exact y
theorem yA {n:aa}(h:UpX n)(I:db n){d:bO}(u:d∈aa.doubts n):d.1≠n.1:=by
 obtain⟨⟨g,z,e,r,_⟩,_⟩:=h.doubts.1 d u;intro y;have H:ma n∈aa.table n:=I;have:=ik h.table.2 z H (by rw[e,y];rfl);rw[this]at r;revert r;show (if n.2.2.1=true then (4:Int) else 1)=2->False;split <;> omega
theorem mT {n:aa}(h:UpX n)(hs:db n):UpX (kk n)/\db (kk n)/\OnN n (kk n):=by
 have:=lY (st:=iq) (Inv:=λm=>(UpX m/\db m/\OnN n m)/\∀ g∈aa.table n,∃ J∈aa.table m,J.1=g.1) (ds:=aa.doubts n) (n:=n) ⟨⟨h,hs,OnN.refl n⟩,λg y=>⟨g,y,rfl⟩⟩ ?_
 ·exact this.1
 ·rintro m d Z ⟨⟨r,u,I⟩,H⟩;have X:=yA h hs Z;unfold iq;cases qr m.2.2.2.2.2.1 d.2.2.1 d.2.2.2.length with
  |false=>exact⟨⟨r,u,I⟩,H⟩
  |true =>
   obtain⟨⟨g,y,e,_⟩,_⟩:=h.doubts.1 d Z;obtain⟨J,M,e'⟩:=H g y;obtain⟨h1,h2,h3⟩:=el r.table ⟨J,M,e'.trans e⟩;have Y:am (kE (aQ (aa.table m) d.1)).1=am m.1:=by
    show am (aQ (aa.table m) d.1).1=am m.1;exact r.site _ h3
   have O:(kE (aQ (aa.table m) d.1)).1≠n.1:=by rw[show (kE (aQ (aa.table m) d.1)).1=_ from h2];exact X
   refine⟨⟨r.said (uJ h1) Y (fq.me r.me),oY r.table.2 I O u,I.say _ _⟩,λg y=>?_⟩;obtain⟨g1,z,e1⟩:=H g y;obtain⟨g2,R,e2⟩:=jy (f:=kE (aQ (aa.table m) d.1)) (b:=m.1) z;exact⟨g2,R,e2.trans e1⟩
theorem UpX.setProbe {n:aa}(h:UpX n){p:ah}(r:cZ (setP n p)):UpX (setP n p):=⟨h.me,h.now0,h.table,h.site,h.cast,h.vs,r,h.doubts,h.coord,h.places,h.others⟩
theorem xf (n:aa):cZ (setP n noP):=by
 unfold cZ;exact (if_pos rfl).mpr rfl
theorem xg {n:aa}(h:UpX n)(H:db n):UpX (dl n).1/\db (dl n).1/\∃ p,OnN (setP n p) (dl n).1:=by
 have r:UpX n/\db n/\∃ p,OnN (setP n p) n:=⟨h,H,aa.probe n,OnN.refl n⟩;have y:UpX (setP n noP):=h.setProbe (xf n);unfold dl;cases X:(aa.probe n).1==-1 with
 |true=>exact r
 |false =>
  have z:(aa.probe n).1≠-1:=by simpa using X
  have u:=h.probe;unfold cZ at u;rw[if_neg z]at u;simp only[cond_false];cases M:eA (aQ (aa.table n) (aa.probe n).1) with
  |false=>exact⟨y,H,_,OnN.refl _⟩
  |true =>
   obtain⟨O,J,R⟩:=el h.table (gY M);simp only[BI,cond_false];cases decide (n.2.2.2.2.2.1-(aa.probe n).2.1>=4) with
   |true =>
    simp only[cond_true];cases (aQ (aa.table n) (aa.probe n).1).2.2.1==1 with
    |true =>
     have I:am (pJ (aQ (aa.table n) (aa.probe n).1)).1=am (setP n noP).1:=by
      show am (aQ (aa.table n) (aa.probe n).1).1=am n.1;exact h.site _ R
     refine⟨y.said (zM O) I (fq.me (n:=setP n noP) h.me),oY (n:=setP n noP) (m:=setP n noP) h.table.2 (OnN.refl (setP n noP)) ?_ H,noP,(OnN.refl (setP n noP)).say _ _⟩;rw[show (pJ (aQ (aa.table n) (aa.probe n).1)).1=_ from J];exact u.1
    |false=>exact⟨y,H,_,OnN.refl _⟩
   |false =>
    simp only[cond_false];cases decide (n.2.2.2.2.2.1-(aa.probe n).2.1>=2) with
    |false=>exact r
    |true =>
     simp only[cond_true];cases (aa.probe n).2.2.2 with
     |true=>exact r
     |false =>
      refine⟨h.setProbe ?_,H,_,OnN.refl _⟩;show cZ (lw n);unfold cZ;rw[if_neg (show ¬ (aa.probe (lw n)).1=-1 from z)];exact u
def iR (n:aa):Option Int:=((List.range 8).map (cI n)).find? λx=>x != n.1&&eA (aQ (aa.table n) x)
def jG (n:aa):Int:=n.2.2.2.2.2.2.1
def dR (n:aa):aa×List ak:=bif decide (jG n>=999999) then (n,[]) else match iR n with
 |some to=>(askN n to,[pingW n to])
 |none=>(n,[])
theorem q8 {n:aa}{to:Int}(h:iR n=some to):to≠n.1/\eA (aQ (aa.table n) to)=true:=by
 have:=Cs h;simpa using this
theorem xh {l:List aM}{T:List Int}{x:aM}(h:x∈dB l T l.length):∃ y∈l,x.1=y.1:=by
 unfold dB at h;obtain⟨u,_⟩:=BH.1 h;obtain⟨i,r,rfl⟩:=BJ u;rw[eC]at r;rw[e9 l T r];refine⟨l[i],BC r,?_⟩;unfold dN;rw[cz r];cases decide ((i:Int)∈T) <;> rfl
theorem UpX.way {n:aa}(h:UpX n):UpX (gw n):=⟨h.me,h.now0,h.table,h.site,yy h.cast _,λx I=>by
 obtain⟨y,H,e⟩:=xh I;obtain⟨g,u,z,r⟩:=h.vs y H;exact⟨g,u,by rw[e,z],by rw[e];exact r⟩,h.probe,h.doubts,h.coord,h.places,h.others⟩
structure sZ (n:aa):Prop where
 seq:InP (jG n) 0 999999
 turn:InP n.2.2.2.2.2.2.2.1 0 8
theorem AN {n:aa}(h:UpX n)(z:db n)(y:sZ n):UpX (dR n).1/\db (dR n).1/\sZ (dR n).1/\(dR n).1.1=n.1/\ch (dR n).1=ch n/\(dR n).1.2.2.2.2.1=n.2.2.2.2.1:=by
 unfold dR;by_cases J:jG n>=999999
 ·rw[decide_eq_true J];exact⟨h,z,y,rfl,rfl,rfl⟩
 ·rw[decide_eq_false J];simp only[cond_false];cases X:iR n with
  |none=>exact⟨h,z,y,rfl,rfl,rfl⟩
  |some to =>
   obtain⟨u,O⟩:=q8 X;obtain⟨M,H,R⟩:=el h.table (gY O);obtain⟨⟨Z,Y⟩,_⟩:=y;have r:InP to 0 7:=H ▸ M.1;have I:=h.way;refine⟨⟨h.me,h.now0,h.table,h.site,I.cast,I.vs,?_,h.doubts,h.coord,h.places,h.others⟩,z,⟨⟨show 0<=jG n+1 by omega,show jG n+1<=999999 by omega⟩,show 0<=to+1 by have:=r.1;omega,show to+1<=8 by have:=r.2;omega⟩,rfl,rfl,rfl⟩;show cZ (askN n to);unfold cZ;rw[if_neg (show ¬ (aa.probe (askN n to)).1=-1 by have:=r.1;show ¬ to=-1;omega)];exact⟨u,⟨_,R,H⟩,⟨h.now0,CA _⟩,show 1<=jG n+1 by omega,CA _⟩
def d7 (n:aa):aa:=(n.1,n.2.1,n.2.2.1,n.2.2.2.1,n.2.2.2.2.1,n.2.2.2.2.2.1+1,n.2.2.2.2.2.2)
def ft (m:aa):aa×List ak:=bif (aa.probe m).1==-1 then dR m else (m,[])
def fu (n:aa):aa×List ak:=dl (kk (d7 n))
def kF (n:aa):aa:=(ft (fu n).1).1
def pM (n:aa)(r:Int):List ak:=(fu n).2++(ft (fu n).1).2++j9 (kF n) r
theorem UpX.later {n:aa}(h:UpX n):UpX (d7 n):=by
 have J:ch (d7 n)=ch n+1:=rfl;have M:=h.now0;refine⟨h.me,by omega,h.table,h.site,h.cast,h.vs,qY h.probe rfl rfl (λg u=>⟨g,u,rfl⟩) (by omega) (CA _),⟨λd r=>?_,h.doubts.2⟩,h.coord,h.places,h.others⟩;obtain⟨z,⟨y,H⟩,I⟩:=h.doubts.1 d r;exact⟨z,⟨y,CZ H (show ch n<=ch (d7 n) by omega)⟩,I⟩
structure UpN (n:aa):Prop where
 x:UpX n
 self:db n
 now1:ch n<=999999
 seq:sZ n
 inc:InP n.2.2.2.2.1 0 999
 up:n.2.1=true
theorem UpN.of {n:aa}(h:fF n)(y:n.2.1=true):UpN n:=by
 obtain⟨H,u,I,J,z,r⟩:=h;rw[if_pos y]at r;exact⟨UpX.of r H u.1,r.2.2.1,u.2,⟨I,J⟩,z,y⟩
theorem UpN.ok {n:aa}(h:UpN n):fF n:=⟨h.x.me,⟨h.x.now0,h.now1⟩,h.seq.seq,h.seq.turn,h.inc,by rw[if_pos h.up];exact h.x.up h.self⟩
theorem pN {n:aa}(h:UpN n)(hm:ch n<999999):UpN (fu n).1/\(fu n).1.1=n.1/\(fu n).1.2.2.1=n.2.2.1:=by
 have r:db (d7 n):=h.self;obtain⟨J,R,O⟩:=mT h.x.later r;obtain⟨u,H,p,M⟩:=xg J R;obtain⟨t,c,X,y⟩:=O;obtain⟨Z,Y,z,I⟩:=M;have e:(fu n).1=_:=I;rw[y]at e;refine⟨⟨u,H,?_,⟨?_,?_⟩,?_,?_⟩,?_,?_⟩
 ·show ch (fu n).1<=999999;rw[e];show ch n+1<=999999;omega
 ·show InP (jG (fu n).1) 0 999999;rw[e];exact h.seq.seq
 ·show InP (fu n).1.2.2.2.2.2.2.2.1 0 8;rw[e];exact h.seq.turn
 ·show InP (fu n).1.2.2.2.2.1 0 999;rw[e];exact h.inc
 ·show (fu n).1.2.1=true;rw[e];exact h.up
 ·rw[e];rfl
 ·rw[e];rfl
theorem ta {m:aa}:(dR m).1.2.1=m.2.1/\(dR m).1.2.2.1=m.2.2.1:=by
 unfold dR;cases decide (jG m>=999999) with
 |true=>exact⟨rfl,rfl⟩
 |false =>
  cases iR m with
  |none=>exact⟨rfl,rfl⟩
  |some to=>exact⟨rfl,rfl⟩
theorem vK {m:aa}(h:UpN m):UpN (ft m).1/\(ft m).1.1=m.1/\(ft m).1.2.2.1=m.2.2.1:=by
 unfold ft;cases (aa.probe m).1==-1 with
 |false=>exact⟨h,rfl,rfl⟩
 |true =>
  obtain⟨I,y,u,z,H,r⟩:=AN h.x h.self h.seq;refine⟨⟨I,y,?_,u,?_,?_⟩,z,ta.2⟩
  ·show ch (dR m).1<=999999;rw[H];exact h.now1
  ·show InP (dR m).1.2.2.2.2.1 0 999;rw[r];exact h.inc
  ·show (dR m).1.2.1=true;rw[ta.1];exact h.up
theorem qu {n:aa}(h:UpN n)(u:ch n<999999):UpN (kF n)/\(kF n).1=n.1/\(kF n).2.2.1=n.2.2.1:=by
 obtain⟨z,r,I⟩:=pN h u;obtain⟨J,y,H⟩:=vK z;exact⟨J,y.trans r,H.trans I⟩
theorem yB {f g:ah}(h:g.2.1<f.2.1):bI f g:=by
 unfold bI;rw[if_pos (by omega)];exact h
theorem zT {f g:ah}(h:bI f g):g.2.1<=f.2.1:=by
 unfold bI at h;split at h <;> omega
theorem UpX.inc {n:aa}(h:UpX n)(i:Int):UpX (gu n i):=⟨h.me,h.now0,h.table,h.site,h.cast,h.vs,h.probe,h.doubts,h.coord,h.places,h.others⟩
theorem q9 {n:aa}(h:UpX n)(u:db n){g:ah}(r:g∈aa.table n)(e:g.1=n.1):g=ma n:=ik h.table.2 r u (by rw[e];rfl)
theorem xi {n:aa}(h:UpX n)(r:db n):aQ (aa.table n) n.1=ma n:=jv h.table.2 (f:=ma n) r
theorem yC {n:aa}(h:UpN n)(z:n.2.2.1=false):UpN (mN n)/\(mN n).1=n.1:=by
 have H:bm (n.1,n.2.2.2.2.1,4,n.2.2.2.1):=⟨h.x.me,h.inc,show (1:Int)<=4 by omega,show (4:Int)<=4 by omega⟩;have r:=h.x.said H rfl (fq.me h.x.me);have y:(n.1,n.2.2.2.2.1,(4:Int),n.2.2.2.1)∈aa.table (sayOf n (n.1,n.2.2.2.2.1,4,n.2.2.2.1) n.1):=qZ h.x.table.2 λg u e=>by
  rw[q9 h.x h.self u e];unfold bI ma;rw[z];simp
 obtain⟨t,c,I,e⟩:=(OnN.refl n).say (n.1,n.2.2.2.2.1,4,n.2.2.2.1) n.1;unfold mN;rw[e]at r y ⊢;exact⟨⟨⟨r.me,r.now0,r.table,r.site,r.cast,r.vs,r.probe,r.doubts,r.coord,r.places,r.others⟩,y,h.now1,⟨h.seq.seq,h.seq.turn⟩,h.inc,h.up⟩,rfl⟩
theorem xj {n:aa}{f:ah}(h:UpN n)(u:n.2.2.1=false)(R:bm f):UpN (eB n f)/\(eB n f).1=n.1/\(eB n f).2.2.1=false:=by
 unfold eB;cases H:decide (bI f (aQ (aa.table n) n.1))&&decide (f.2.1<999) with
 |false=>exact⟨h,rfl,u⟩
 |true =>
  rw[CB,decide_eq_true_eq,decide_eq_true_eq,xi h.x h.self]at H;obtain⟨X,O⟩:=H;have J:n.2.2.2.2.1<=f.2.1:=zT X;have r:=qs (n:=n) h.x.me R O;have z:UpX (sayOf (gu n (f.2.1+1)) (n.1,f.2.1+1,1,n.2.2.2.1) n.1):=(h.x.inc (f.2.1+1)).said r rfl (fq.me (n:=gu n (f.2.1+1)) h.x.me);have I:(n.1,f.2.1+1,(1:Int),n.2.2.2.1)∈aa.table (sayOf (gu n (f.2.1+1)) (n.1,f.2.1+1,1,n.2.2.2.1) n.1):=qZ (n:=gu n (f.2.1+1)) h.x.table.2 λg y e=>by
   rw[q9 h.x h.self y e];exact yB (show n.2.2.2.2.1<f.2.1+1 by omega)
  obtain⟨t,c,M,e⟩:=(OnN.refl (gu n (f.2.1+1))).say (n.1,f.2.1+1,1,n.2.2.2.1) n.1;simp only[cond_true];rw[show sayOf (gu n (f.2.1+1)) (n.1,f.2.1+1,1,n.2.2.2.1) n.1=fW (gu n (f.2.1+1)) t c M from e]at z I ⊢;refine⟨⟨z,?_,h.now1,⟨h.seq.seq,h.seq.turn⟩,r.2.1,h.up⟩,rfl,u⟩;show (n.1,f.2.1+1,(if n.2.2.1=true then (4:Int) else 1),n.2.2.2.1)∈_;rw[u];exact I
theorem mU (f:ah)(b:Int)(d:bO):(dL f b d).1=d.1/\(dL f b d).2.1=d.2.1/\(dL f b d).2.2.1=d.2.2.1:=by
 unfold dL;cases d.1==f.1&&d.2.1==f.2.1&&f.2.2.1==2 <;> exact⟨rfl,rfl,rfl⟩
theorem UpX.conf {n:aa}(h:UpX n)(f:ah){b:Int}(H:fq n b):UpX (jz n f b):=by
 refine⟨h.me,h.now0,h.table,h.site,h.cast,h.vs,h.probe,⟨λd R=>?_,?_,?_⟩,h.coord,h.places,h.others⟩
 ·obtain⟨r,z,rfl⟩:=BZ.1 R;obtain⟨X,O,k3⟩:=mU f b r;obtain⟨⟨g,Z,e1,I,J⟩,M,Y,u⟩:=h.doubts.1 r z;refine⟨⟨g,Z,by rw[X];exact e1,I,by rw[O];exact J⟩,by rw[k3];exact M,?_⟩;unfold dL;cases r.1==f.1&&r.2.1==f.2.1&&f.2.2.1==2 with
  |false=>exact⟨Y,u⟩
  |true =>
   refine⟨List.ne_nil_of_mem (aZ.2 (.inl rfl)),λx y=>?_,e8 u.2⟩;rcases aZ.1 y with rfl|⟨y,_⟩
   ·exact H
   ·exact u.1 x y
 ·show Asc _ ((aa.doubts n).map (dL f b));unfold Asc;rw[Bv];exact h.doubts.2.1.imp λ {a c} h=>by show (dL f b a).1<(dL f b c).1;rw[(mU f b a).1,(mU f b c).1];exact h
 ·show _=((aa.doubts n).map (dL f b)).length;rw[BU];exact h.doubts.2.2
theorem tc {n:aa}{f:ah}{b:Int}(h:UpN n)(y:n.2.2.1=false)(H:bm f)(M:am f.1=am n.1)(z:fq n b):UpN (dv b n f)/\(dv b n f).1=n.1/\(dv b n f).2.2.1=false:=by
 unfold dv;by_cases r:f.1=n.1
 ·rw[show (f.1==n.1)=true by simpa using r];exact xj h y H
 ·rw[show (f.1==n.1)=false by simpa using r];have I:=h.x.said H M z;have u:=oY h.x.table.2 (OnN.refl n) (b:=b) r h.self;obtain⟨t,c,J,e⟩:=(OnN.refl n).say f b;simp only[cond_false];rw[show sayOf n f b=fW n t c J from e]at I u ⊢;exact⟨⟨I.conf f z,u,h.now1,⟨h.seq.seq,h.seq.turn⟩,h.inc,h.up⟩,rfl,y⟩
theorem km {n:aa}{t:List ah}{b:Int}(h:UpN n)(z:n.2.2.1=false)(H:aB t)(M:cd t (am n.1))(y:fq n b):UpN (gN n t b)/\(gN n t b).1=n.1/\(gN n t b).2.2.1=false:=by
 refine lY (st:=dv b) (Inv:=λm=>UpN m/\m.1=n.1/\m.2.2.1=false) (ds:=t) (n:=n) ⟨h,rfl,z⟩ λm f u ⟨I,r,J⟩=>?_
 have:=tc (b:=b) I J (H.1 f u) (by rw[r];exact M f u) ⟨y.1,by rw[r];exact y.2⟩;exact⟨this.1,this.2.1.trans r,this.2.2⟩
theorem UpN.learns {n:aa}(h:UpN n):dt n:=⟨h.x.say,h.x.me,⟨_,h.self,rfl⟩,λd u=>by
 obtain⟨_,_,_,r⟩:=h.x.doubts.1 d u;exact⟨r.2,λx y=>(r.1 x y).1⟩⟩
def mV (n:aa)(o:List bZ):aa:=(n.1,n.2.1,n.2.2.1,n.2.2.2.1,n.2.2.2.2.1,n.2.2.2.2.2.1,n.2.2.2.2.2.2.1,n.2.2.2.2.2.2.2.1,n.2.2.2.2.2.2.2.2.1,n.2.2.2.2.2.2.2.2.2.1,n.2.2.2.2.2.2.2.2.2.2.1,n.2.2.2.2.2.2.2.2.2.2.2.1,n.2.2.2.2.2.2.2.2.2.2.2.2.1,n.2.2.2.2.2.2.2.2.2.2.2.2.2.1,o)
theorem UpN.setOthers {n:aa}(h:UpN n){o:List bZ}(r:c7 n.1 o):UpN (mV n o):=⟨⟨h.x.me,h.x.now0,h.x.table,h.x.site,h.x.cast,h.x.vs,h.x.probe,h.x.doubts,h.x.coord,h.x.places,r⟩,h.self,h.now1,⟨h.seq.seq,h.seq.turn⟩,h.inc,h.up⟩
theorem vL {H s:Int}{r:List ah}{o:List bZ}(I:c7 H o)(O:InP s 0 1)(y:s≠am H)(J:r≠[])(M:aB r)(u:cd r s):c7 H (bw (λx:bZ=>x.1) (s,r) o) :=
 ⟨λx z=>by
  rcases aZ.1 z with rfl|⟨z,_⟩
  ·exact⟨O,y,J,M,u⟩
  ·exact I.1 x z,e8 I.2⟩
def gZ (l:List Int)(t:Int):List Int:=(l++[t]).drop ((l++[t]).length-3)
def dG (l:List dJ)(r:Int):List Int:=((l.find? λp=>p.1==r).map (·.2.2)).getD []
def oZ (l:List dJ)(r:Int)(c:dA)(t:Int):List dJ:=bw (λp=>p.1) (r,c,gZ (dG l r) t) l
def pO (n:aa)(c:dA)(p:List dJ):aa:=(n.1,n.2.1,n.2.2.1,n.2.2.2.1,n.2.2.2.2.1,n.2.2.2.2.2.1,n.2.2.2.2.2.2.1,n.2.2.2.2.2.2.2.1,n.2.2.2.2.2.2.2.2.1,n.2.2.2.2.2.2.2.2.2.1,noP,n.2.2.2.2.2.2.2.2.2.2.2.1,c,p,n.2.2.2.2.2.2.2.2.2.2.2.2.2.2)
theorem uj {l:List dJ}{r:Int}{t:Int}(h:t∈dG l r):∃ p∈l,t∈p.2.2:=by
 unfold dG at h;cases u:l.find? λp=>p.1==r with
 |none=>rw[u]at h;simp at h
 |some p =>
  rw[u]at h;exact⟨p,CT u,h⟩
theorem xk {l:List Int}{t:Int}(u:∀ x∈l,InP x 1 60000)(r:InP t 1 60000):InP ((gZ l t).length:Int) 1 3/\∀ x∈gZ l t,InP x 1 60000:=by
 unfold gZ;constructor
 ·simp only[Bx,BP,BG,BM];constructor <;> omega
 ·intro x y;have:=List.mem_of_mem_drop y;rcases B3.1 this with h|h
  ·exact u x h
  ·rw[Bw.1 h];exact r
theorem vM {y r:Int}{l:List dJ}{c:dA}{t:Int}(h:eu y l)(I:InP r 0 7)(R:am r=am y)(O:r≠y)(J:cH c)(M:InP t 1 60000):eu y (oZ l r c t):=by
 have H:=xk (l:=dG l r) (t:=t) (λx z=>by
  obtain⟨p,u,z⟩:=uj z;exact (h.1 p u).2.2.2.2.2 x z) M
 exact⟨λp u=>by
  rcases aZ.1 u with rfl|⟨u,_⟩
  ·exact⟨I,R,O,J,H.1,H.2⟩
  ·exact h.1 p u,e8 h.2⟩
theorem UpN.heard {n:aa}(h:UpN n){c:dA}{p:List dJ}(r:cH c)(u:eu n.1 p):UpN (pO n c p):=⟨⟨h.x.me,h.x.now0,h.x.table,h.x.site,h.x.cast,h.x.vs,xf n,h.x.doubts,r,u,h.x.others⟩,h.self,h.now1,⟨h.seq.seq,h.seq.turn⟩,h.inc,h.up⟩
theorem UpN.way {n:aa}(h:UpN n):UpN (gw n):=⟨h.x.way,h.self,h.now1,⟨h.seq.seq,h.seq.turn⟩,h.inc,h.up⟩
def Tot {α:Type}(o:Option α)(P:α->Prop):Prop:=∃ v,o=some v/\P v
section
variable {α β:Type} {P:α->Prop} {Q:β->Prop}
theorem Tot.ret {v:α}(h:P v):Tot (some v) P:=⟨v,rfl,h⟩
theorem Tot.mono {o:Option α}{r:α->Prop}(h:Tot o P)(k:∀ v,P v->r v):Tot o r:=by obtain⟨v,e,u⟩:=h;exact⟨v,e,k v u⟩
theorem Tot.bind {o:Option α}{g:α->Option β}(h:Tot o P)(k:∀ v,P v->Tot (g v) Q):Tot (o.bind g) Q:=by obtain⟨v,e,r⟩:=h;rw[e];exact k v r
theorem Tot.vl {o:Option α}{v:α}{g:α->Option β}(e:o=some v)(k:Tot (g v) Q):Tot (o.bind g) Q:=by rw[e];exact k
theorem Tot.cnd {b:Bool}{x y:Option α}(u:b=true->Tot x P)(r:b=false->Tot y P):Tot (bif b then x else y) P:=by
 cases b
 ·exact r rfl
 ·exact u rfl
theorem Tot.must {b:Bool}{x y:Option α}(r:b=true)(h:Tot x P):Tot (bif b then x else y) P:=by rw[r];exact h
theorem Tot.not {b:Bool}{x y:Option α}(r:b=false)(h:Tot x P):Tot (bif b then y else x) P:=by rw[r];exact h
theorem Tot.ix {xs:List α}{i:Int}{g:α->Option β}(u:0<=i)(z:i<xs.length)(k:∀ y∈xs,idx xs i=some y->Tot (g y) Q):Tot ((idx xs i).bind g) Q:=by
 obtain⟨n,rfl⟩:=BF u;have r:n<xs.length:=by omega
 have:=ag r;rw[this];exact k _ (BC r) this
theorem Tot.iter {A:Type}{step:(A->Option β)->A->Option β}(Inv:A->Prop)(m:A->Nat)(h:∀ (rec:A->Option β) (a:A),Inv a->(∀ r,Inv r->m r<m a->Tot (rec r) Q)->Tot (step rec a) Q):∀ (k:Nat) (a:A),m a<k->Inv a->Tot (af step k a) Q:=by
 intro k;induction k with
 |zero=>intro a z;omega
 |succ k y =>
  intro a z I;exact h (af step k) a I λr u H=>y r (by omega) u
end
theorem Ret.tot {o:Option RB}{P:Prop}(h:Ret o P):Tot o λv=>(v.1.1=true<->P):=by
 obtain⟨b,e,r⟩:=h;exact⟨_,e,r⟩
section
variable {α β:Type} {Q:β->Prop}
theorem Tot.cat {x y:ByteArray}{k:ByteArray->Option β}{a b:Nat}(H:x.size<=a)(u:y.size<=b)(h:∀ z:ByteArray,z.size<=a+b->Tot (k z) Q)(r:a+b<=4611686018427387904:=by omega):Tot (aV x y k) Q:=by
 unfold aV;rw[decide_eq_true (by omega)];exact h _ (by rw[ByteArray.size_append];omega)
theorem Tot.fit {a b c:Nat}{x y:Option β}(h:Tot x Q)(u:c<=1000:=by omega)(r:a+b<=2097152:=by omega):Tot (bif decide ((a+b)*c<=ao) then x else y) Q:=by
 have:=CX r u;rw[decide_eq_true (by unfold ao;omega)];exact h
theorem Tot.ix2 {xs:List α}{i:Int}{g:α->Option β}(r:0<=i)(u:i<xs.length)(k:∀ y∈xs,idx xs i=some y->Tot (g y) Q):Tot ((idx xs i).bind λ_=>(idx xs ((BD i:Nat):Int)).bind g) Q :=
 Tot.ix r u λy z e=>by rw[Int.toNat_of_nonneg r,e];exact k y z e
end
theorem fI (s:ByteArray):s.data.toList.length=s.size:=Array.length_toList
theorem iS (xs:List Int):(gI xs).size=xs.length:=by
 unfold gI;show (List.toArray _).size=_;rw[List.size_toArray,BU]
theorem ra (s:ByteArray):(er s).length=s.size:=by
 unfold er;rw[BU];exact fI s
theorem dec_t:∀ (d k:Nat) (n:Int),0<=n->n<10 ^ (d+1)->n<=1000000000->d<=100->d<k->Tot (Q10.f k (n,())) λr=>r.1.1.size<=d+1:=by
 intro d;induction d with
 |zero =>
  intro k n H y R X J;obtain⟨k,rfl⟩:∃ m,k=m+1:=⟨k-1,by omega⟩;show Tot (Q10.step (Q10.f k) (n,())) _;simp only[Q10.step];refine Tot.not (decide_eq_false (show ¬ n< -9223372036854775807 by omega)) (Tot.not (decide_eq_false (show ¬ n<0 by omega)) (Tot.must (decide_eq_true (show n<10 by exact y)) (Tot.ret ?_)));show (gI _).size<=1;rw[iS];exact BR _
 |succ d I =>
  intro k n H y R X J;obtain⟨k,rfl⟩:∃ m,k=m+1:=⟨k-1,by omega⟩;show Tot (Q10.step (Q10.f k) (n,())) _;simp only[Q10.step];refine Tot.not (decide_eq_false (show ¬ n< -9223372036854775807 by omega)) (Tot.not (decide_eq_false (show ¬ n<0 by omega)) (Tot.cnd (λ_=>Tot.ret ?_) λh=>?_))
  ·show (gI _).size<=_;rw[iS];exact Nat.succ_le_succ (BX _)
  ·have h:¬ n<10:=of_decide_eq_false h;have e:CY n 10=n / 10:=by rw[Bz H]
   have u:(10:Int) ^ (d+1+1)=10 ^ (d+1)*10:=Int.pow_succ ..;have O:n / 10<10 ^ (d+1):=Int.ediv_lt_of_lt_mul (by omega) (by rw[<- u];exact y);rw[e,aH (by omega) (by omega)];refine Tot.bind (I k (n / 10) (by omega) O (by omega) (by omega) (by omega)) λv Y=>Tot.cat Y (b:=1) (by rw[iS];exact BR _) (λz M=>Tot.ret M) (by omega)
theorem kW (K:Nat)(n:Int)(u:0<=n)(y:n<=999999)(z:1048577<K):Tot (Q10.f K (n,())) λr=>r.1.1.size<=6 :=
 dec_t 5 K n u (by show n<1000000;omega) (by omega) (by omega) (by omega)
theorem td (K:Nat)(i:Int)(u:0<=i)(y:i<=4):Tot (Q159.f K (i,())) λr=>r.1.1.size<=7:=by
 have:i=0\/i=1\/i=2\/i=3\/i=4:=by omega
 rcases this with rfl|rfl|rfl|rfl|rfl <;> exact⟨_,rfl,by decide⟩
theorem te (K:Nat)(i:Int)(u:0<=i)(y:i<=6):Tot (Q156.f K (i,())) λr=>r.1.1.size<=4:=by
 have:i=0\/i=1\/i=2\/i=3\/i=4\/i=5\/i=6:=by omega
 rcases this with rfl|rfl|rfl|rfl|rfl|rfl|rfl <;> exact⟨_,rfl,by decide⟩
theorem yD (K:Nat)(t:List ah)(H:aB t)(hK:1048577<K):Tot (Q162.f K (t,())) λr=>r.1.1.size<=240:=by
 have hl:=iP H.2 (λg hg=>(H.1 g hg).1);refine Tot.iter (step:=λrec a=>Q162.s0 K (t,()) rec a) (λa=>0<=a.2/\a.2<=t.length/\(a.1.size:Int)<=30*a.2) (λa=>t.length-a.2.toNat) ?_ K _ (by show t.length-BD 0<K;omega) ⟨by show (0:Int)<=0;omega,by show (0:Int)<=_;omega,by show (0:Int)<=30*0;omega⟩;rintro rec ⟨s,i⟩ ⟨h0,h1,h2⟩ ih;simp only at h0 h1 h2 ih ⊢;simp only[Q162.s0];refine Tot.cnd (λh=>?_) λh=>?_
 ·have h:=of_decide_eq_true h;obtain⟨n,rfl⟩:=BF h0;have hn:n<t.length:=by omega
  obtain⟨⟨f1,f2⟩,⟨f3,f4⟩,f5,f6⟩:=H.1 t[n] (BC hn);rw[ag hn,au n (by omega)];simp only[BA];have go:∀ z:ByteArray,z.size<=s.size+29->Tot (rec (z,((n+1:Nat):Int))) λr=>r.1.1.size<=240:=λz hz=>ih _ ⟨by show (0:Int)<=((n+1:Nat):Int);omega,by show ((n+1:Nat):Int)<=_;omega,by show (z.size:Int)<=30*((n+1:Nat):Int);omega⟩ (by show t.length-BD ((n+1:Nat):Int)<t.length-BD (n:Int);omega)
  have body:∀ I:ByteArray,I.size<=s.size+1->Tot ((Q10.f K (t[n].1,())).bind λy3=>aV I y3.1.1 λy4=>aV y4 (ByteArray.mk #[58]) λy5=>(Q10.f K (t[n].2.1,())).bind λy7=>aV y5 y7.1.1 λy8=>aV y8 (ByteArray.mk #[58]) λy9=>(Q159.f K (t[n].2.2.1,())).bind λJ=>aV y9 J.1.1 λu=>bif t[n].2.2.2 then (aV u (ByteArray.mk #[42]) λy=>rec (y,((n+1:Nat):Int))) else (rec (u,((n+1:Nat):Int)))) λr=>r.1.1.size<=240:=λI Z =>
   Tot.bind (kW K _ f1 (by omega) hK) λv1 s1=>Tot.cat Z s1 λz1 O=>Tot.cat O (b:=1) (by decide) λz2 R =>
   Tot.bind (kW K _ f3 (by omega) hK) λv2 s2=>Tot.cat R s2 λz3 Y=>Tot.cat Y (b:=1) (by decide) λz4 M =>
   Tot.bind (td K _ (by omega) f6) λv3 s3=>Tot.cat M s3 λz5 X =>
   Tot.cnd (λ_=>Tot.cat X (b:=1) (by decide) λz6 a0=>go z6 (by omega)) λ_=>go z5 (by omega)
  exact Tot.cnd (λ_=>Tot.cat (BR _) (b:=1) (by decide) λz hz=>body z hz) λ_=>body s (by omega)
 ·have h:=of_decide_eq_false h;exact Tot.ret (by show s.size<=240;omega)
theorem oj (K:Nat)(t:List ah)(z:t.length<=1048576)(u:1048577<K):Tot (Q163.f K (t,())) λr=>r.1.1.size<=240:=by
 simp only[Q163.f];refine Tot.bind (gp K t z u).tot λv H=>Tot.cnd (λ_=>Tot.ret (by show (0:Nat)<=240;omega)) λh=>?_
 have y:=H.1 (by simpa using h);exact Tot.cnd (λ_=>Tot.ret (by show (1:Nat)<=240;omega)) λ_=>Tot.bind (yD K t y u) λv h=>Tot.ret h
theorem pP (K:Nat)(n:Int)(H:-999999<=n)(I:n<=999999)(y:1048577<K):Tot (Q165.f K (n,())) λr=>r.1.1.size<=7:=by
 simp only[Q165.f];refine Tot.cnd (λh=>?_) λh=>?_
 ·have h:n<0:=of_decide_eq_true h;rw[aH (by omega) (by omega)];exact Tot.bind (kW K _ (by omega) (by omega) y) λv s=>Tot.cat (a:=1) (by decide) s λz u=>Tot.ret u
 ·have h:¬ n<0:=of_decide_eq_false h;exact Tot.bind (kW K _ (by omega) (by omega) y) λv s=>Tot.cat (a:=1) (by decide) s λz u=>Tot.ret u
theorem yE (K:Nat)(w:ak)(M:dK w)(y:1048577<K):Tot (Q166.f K (w,())) λr=>r.1.1.size<=400:=by
 obtain⟨_,⟨a1,X⟩,⟨R,b2⟩,⟨O,c2⟩,⟨I,d2⟩,⟨Y,e2⟩,⟨⟨x1,x2⟩,⟨y1,y2⟩,⟨H,z2⟩,⟨Z,u2⟩⟩,z,_⟩:=M;have J:=bY z;simp only[Q166.f];have u:(ByteArray.mk #[32]).size<=1:=by decide
 refine Tot.cnd (λ_=>?_) λ_=>?_ <;>
 exact Tot.cat (a:=3) (by decide) u λ_ h=>Tot.bind (te K _ (by omega) X) λ_ s=>Tot.cat h s λ_ h=>Tot.cat h u λ_ h =>
  Tot.bind (kW K _ R (by omega) y) λ_ s=>Tot.cat h s λ_ h=>Tot.cat h u λ_ h =>
  Tot.bind (kW K _ O (by omega) y) λ_ s=>Tot.cat h s λ_ h=>Tot.cat h u λ_ h =>
  Tot.bind (kW K _ I (by omega) y) λ_ s=>Tot.cat h s λ_ h=>Tot.cat h u λ_ h =>
  Tot.bind (kW K _ Y (by omega) y) λ_ s=>Tot.cat h s λ_ h=>Tot.cat h u λ_ h =>
  Tot.bind (pP K _ (by show -999999<=(ak.coord w).1;omega) (by show (ak.coord w).1<=999999;omega) y) λ_ s=>Tot.cat h s λ_ h=>Tot.cat h u λ_ h =>
  Tot.bind (pP K _ (by show -999999<=(ak.coord w).2.1;omega) (by show (ak.coord w).2.1<=999999;omega) y) λ_ s=>Tot.cat h s λ_ h=>Tot.cat h u λ_ h =>
  Tot.bind (kW K _ H (by show (ak.coord w).2.2.1<=999999;omega) y) λ_ s=>Tot.cat h s λ_ h=>Tot.cat h u λ_ h =>
  Tot.bind (kW K _ (by show 0<=(ak.coord w).2.2.2;omega) (by show (ak.coord w).2.2.2<=999999;omega) y) λ_ s=>Tot.cat h s λ_ h=>Tot.cat h u λ_ h =>
  Tot.bind (oj K _ J y) λ_ s=>Tot.cat h s λ_ h=>Tot.ret (Bu h (by decide))
theorem yF (K:Nat)(n:Int)(I:1048577<K):Tot (Q168.f K (n,())) λ_=>True:=by
 refine Tot.iter (step:=λrec a=>Q168.s0 K (n,()) rec a) (λa=>0<=a.2/\a.2<=8) (λa=>8-a.2.toNat) ?_ K _ (by show 8-BD 0<K;omega) ⟨by show (0:Int)<=0;omega,by show (0:Int)<=8;omega⟩;rintro rec ⟨s,i⟩ ⟨r,H⟩ u;simp only at r H u ⊢;simp only[Q168.s0];obtain⟨i,rfl⟩:=BF r;refine Tot.cnd (λh=>?_) λ_=>Tot.ret trivial
 have h:=of_decide_eq_true h;rw[au i (by omega)];have y:∀ z:Int,Tot (rec (z,((i+1:Nat):Int))) λ_=>True:=λz=>u _ ⟨by show (0:Int)<=((i+1:Nat):Int);omega,by show ((i+1:Nat):Int)<=8;omega⟩ (by show 8-BD ((i+1:Nat):Int)<8-BD (i:Int);omega)
 exact Tot.cnd (λ_=>y _) λ_=>y _
theorem zU (K:Nat)(s:ByteArray)(J:s.size<=1000000)(I:1048577<K):Tot (Q169.f K (s,())) λ_=>True:=by
 refine Tot.iter (step:=λrec a=>Q169.s0 K (s,()) rec a) (λa=>0<=a.2/\a.2<=s.size) (λa=>s.size-a.2.toNat) ?_ K _ (by show s.size-BD 0<K;omega) ⟨by show (0:Int)<=0;omega,by show (0:Int)<=_;omega⟩;rintro rec ⟨z,i⟩ ⟨r,H⟩ u;simp only at r H u ⊢;simp only[Q169.s0];obtain⟨i,rfl⟩:=BF r;refine Tot.cnd (λh=>?_) λ_=>Tot.ret trivial
 have h:=of_decide_eq_true h;rw[au i (by omega)];exact Tot.ix r (by rw[fI];exact h) λy _ _=>Tot.bind (yF K _ I) λv _=>u _ ⟨by show (0:Int)<=((i+1:Nat):Int);omega,by show ((i+1:Nat):Int)<=_;omega⟩ (by show s.size-BD ((i+1:Nat):Int)<s.size-BD (i:Int);omega)
theorem hex_t (K:Nat)(n:Int)(R:1048577<K):Tot (Q167.f K (n,())) λr=>r.1.1.size<=8:=by
 refine Tot.iter (step:=λrec a=>Q167.s0 K (n,()) rec a) (λa=>-1<=a.2/\a.2<=7/\a.1.length=7-a.2) (λa=>(a.2+1).toNat) ?_ K _ (by show BD 8<K;omega) ⟨by show (-1:Int)<=7;omega,by show (7:Int)<=7;omega,by show (0:Int)=7-7;omega⟩;rintro rec ⟨z,i⟩ ⟨H,M,J⟩ u;simp only at H M J u ⊢;simp only[Q167.s0];refine Tot.cnd (λh=>?_) λh=>?_
 ·have h:=of_decide_eq_true h;rw[aH (n:=4*i) (by omega) (by omega),aH (n:=i-1) (by omega) (by omega)];obtain⟨O,I⟩:=ly (a:=B7 n (2 ^ min (BD (4*i)) 64)) (m:=15) (by omega);refine Tot.not (decide_eq_false (by omega)) (Tot.ix O (Int.lt_of_le_of_lt I (by decide)) λy _ _=>Tot.fit ?_ (by omega) (by simp only[BG,BM];omega));exact u _ ⟨by show -1<=i-1;omega,by show i-1<=7;omega,by show ((z++[_]).length:Int)=7-(i-1);rw[BP,CM];omega⟩ (by show BD (i-1+1)<BD (i+1);omega)
 ·have h:=of_decide_eq_false h;refine Tot.ret ?_;show (gI z).size<=8;rw[iS];omega
theorem ol (K:Nat)(w:ak)(J:(ak.table w).length<=1048576)(u:1048577<K):Tot (Q170.f K (w,())) λr=>r.1.1.size<=409/\(¬ dK w->r.1.1=ByteArray.mk #[]):=by
 simp only[Q170.f];refine Tot.bind (lW K w J u).tot λv M=>Tot.cnd (λ_=>Tot.ret ⟨by show (0:Nat)<=409;omega,λ_=>rfl⟩) λh=>?_
 have H:=M.1 (by simpa using h);exact Tot.bind (yE K w H u) λb O=>Tot.cat O (b:=1) (by decide) λz y=>Tot.bind (zU K _ (by omega) u) λs _=>Tot.bind (hex_t K _ u) λx I=>Tot.cat y I λz y=>Tot.ret ⟨y,λh=>absurd H h⟩
theorem vN (K:Nat)(s:ByteArray)(c:Int)(hs:s.size<=100000)(hK:1048577<K):Tot (Q155.f K (s,c,())) λr=>r.1.1.length<=s.size+1/\∀ p∈r.1.1,p.size<=s.size:=by
 have H:∀ i j:Nat,(s.extract i j).size<=s.size:=λi j=>by rw[Ca];omega
 refine Tot.iter (step:=λrec a=>Q155.s0 K (s,c,()) rec a) (λa=>0<=a.2.1/\a.2.1<=a.2.2/\a.2.2<=s.size/\a.1.length<=a.2.2/\∀ p∈a.1,p.size<=s.size) (λa=>s.size-a.2.2.toNat) ?_ K _ (by show s.size-BD 0<K;omega) ⟨by show (0:Int)<=0;omega,by show (0:Int)<=0;omega,by show (0:Int)<=_;omega,by show (0:Int)<=0;omega,λp O=>by cases O⟩;rintro rec ⟨u,from_,i⟩ ⟨z,J,X,Y,R⟩ M;simp only at z J X Y R M ⊢;simp only[Q155.s0];obtain⟨i,rfl⟩:=BF (CZ z J);have I:∀ x:ByteArray,x.size<=s.size->∀ p∈u++[x],p.size<=s.size:=λx Z p O=>by
  rcases B3.1 O with h|h
  ·exact R p h
  ·rw[Bw.1 h];exact Z
 refine Tot.cnd (λh=>?_) λh=>?_
 ·have h:=of_decide_eq_true h;rw[au i (by omega)];refine Tot.ix (CZ z J) (by rw[fI];exact h) λy _ _=>Tot.cnd (λ_=>Tot.must (by rw[decide_eq_true z,decide_eq_true J,decide_eq_true X];rfl) (Tot.fit (M _ ⟨?_,?_,?_,?_,I _ (H _ _)⟩ ?_) (by omega) (by simp only[BG,BM];omega))) λ_=>M _ ⟨z,?_,?_,?_,R⟩ ?_
  ·show (0:Int)<=((i+1:Nat):Int);omega
  ·show ((i+1:Nat):Int)<=((i+1:Nat):Int);omega
  ·show ((i+1:Nat):Int)<=s.size;omega
  ·show ((u++[_]).length:Int)<=((i+1:Nat):Int);rw[BP,CM];omega
  ·show s.size-BD ((i+1:Nat):Int)<s.size-BD (i:Int);omega
  ·show from_<=((i+1:Nat):Int);omega
  ·show ((i+1:Nat):Int)<=s.size;omega
  ·show (u.length:Int)<=((i+1:Nat):Int);omega
  ·show s.size-BD ((i+1:Nat):Int)<s.size-BD (i:Int);omega
 ·refine Tot.must (by rw[decide_eq_true z,decide_eq_true (by omega),decide_eq_true (CA _)];rfl) (Tot.fit (Tot.ret ⟨?_,I _ (H _ _)⟩) (by omega) (by simp only[BG,BM];omega));show (u++[_]).length<=_;rw[BP,CM];omega
theorem jU (K:Nat)(s:ByteArray)(Y:s.size<=100000)(R:1048577<K):Tot (Q157.f K (s,())) λ_=>True:=by
 simp only[Q157.f,Q157.pre];have r:((s.size:Int)<=6)->Tot (Q157.l0 K (s,()) (0,0)) λ_=>True:=λX=>by
  refine Tot.iter (step:=λrec a=>Q157.s0 K (s,()) rec a) (λa=>0<=a.2/\a.2<=s.size) (λa=>s.size-a.2.toNat) ?_ K _ (by show s.size-BD 0<K;omega) ⟨by show (0:Int)<=0;omega,by show (0:Int)<=_;omega⟩;rintro rec ⟨z,i⟩ ⟨u,M⟩ J;simp only at u M J ⊢;simp only[Q157.s0];obtain⟨i,rfl⟩:=BF u;refine Tot.cnd (λh=>?_) λ_=>Tot.ret trivial
  have h:=of_decide_eq_true h;have I:((i:Nat):Int)<s.data.toList.length:=by rw[fI];exact h
  rw[au i (by omega)];exact Tot.ix u I λy _ _=>Tot.cnd (λ_=>Tot.ret trivial) λ_=>Tot.ix u I λy _ _=>Tot.cnd (λ_=>Tot.ret trivial) λ_=>Tot.ix u I λy _ _=>J _ ⟨by show (0:Int)<=((i+1:Nat):Int);omega,by show ((i+1:Nat):Int)<=_;omega⟩ (by show s.size-BD ((i+1:Nat):Int)<s.size-BD (i:Int);omega)
 refine Tot.bind (cG K _ _ _).tot λv O=>Tot.cnd (λ_=>Tot.ret trivial) λh=>?_
 have H:=O.1 (by simpa using h);exact Tot.cnd (λh=>Tot.ix (by omega) (by rw[fI];have:=of_decide_eq_true h;omega) λy _ _=>Tot.cnd (λ_=>Tot.ret trivial) λ_=>r H.2) λ_=>r H.2
theorem uP (K:Nat)(s:ByteArray)(J:s.size<=100000)(I:1048577<K):Tot (Q158.f K (s,())) λ_=>True:=by
 simp only[Q158.f];refine Tot.cnd (λ_=>Tot.ret trivial) λh=>?_
 have h:=of_decide_eq_false h;have u:(0:Int)<s.data.toList.length:=by rw[fI];omega
 have r:Tot (bif decide ((0:Int)<=1)&&decide ((1:Int)<=(s.size:Int))&&decide ((s.size:Int)<=(s.size:Int)) then ((Q157.f K (s.extract (BD 1) (BD (s.size:Int)),())).bind λz=>bif decide (z.1.1<0) then (some (((-1),false,()),())) else (bif s.toList==(ByteArray.mk #[45,48]).toList then (some (((-1),false,()),())) else ((idx s.data.toList 0).bind λH=>bif (H.toNat:Int)==45 then (some ((wr .i64 (0-z.1.1),true,()),())) else (some ((z.1.1,true,()),()))))) else none) λ (_:(Int×Bool×Unit)×Unit)=>True :=
  Tot.must (by rw[decide_eq_true (by omega:(0:Int)<=1),decide_eq_true (by omega:(1:Int)<=s.size),decide_eq_true (CA _)];rfl) (Tot.bind (jU K _ (by rw[Ca];omega) I) λv _=>Tot.cnd (λ_=>Tot.ret trivial) λ_=>Tot.cnd (λ_=>Tot.ret trivial) λ_=>Tot.ix (by omega) u λy _ _=>Tot.cnd (λ_=>Tot.ret trivial) λ_=>Tot.ret trivial)
 exact Tot.ix (by omega) u λy _ _=>Tot.cnd (λ_=>Tot.ix (by omega) u λy _ _=>Tot.cnd (λ_=>Tot.ret trivial) λ_=>r) λ_=>r
theorem zV (K:Nat)(s:ByteArray)(hs:s.size<=100000)(J:1048577<K):Tot (Q160.f K (s,())) λ_=>True:=by
 simp only[Q160.f,Q160.pre];have H:∀ (Y:List ByteArray) (n1 n2:Int) (b:Bool),Y.length=3->Tot (Q160.l0 K (s,()) (Y,1,n1,n2,0,b)) λ_=>True:=λY n1 n2 b hx=>by
  refine Tot.iter (step:=λrec a=>Q160.s0 K (s,()) rec a) (λa=>a.1.length=3/\1<=a.2.1/\a.2.1<=5) (λa=>5-a.2.1.toNat) ?_ K _ (by show 5-BD 1<K;omega) ⟨hx,by show (1:Int)<=1;omega,by show (1:Int)<=5;omega⟩;rintro rec ⟨ys,i,m1,m2,m3,m4⟩ ⟨Z,h1,h2⟩ ih;simp only at Z h1 h2 ih ⊢;simp only[Q160.s0];refine Tot.cnd (λh=>?_) λ_=>Tot.bind (oP K _).tot λ_ _=>Tot.ret trivial
  have h:=of_decide_eq_true h;rw[aH (n:=i+1) (by omega) (by omega)];have go:∀ m:Int,Tot (rec (ys,i+1,m1,m2,m,m4)) λ_=>True:=λm=>ih _ ⟨Z,by show 1<=i+1;omega,by show i+1<=5;omega⟩ (by show 5-BD (i+1)<5-BD i;omega)
  exact Tot.bind (td K i (by omega) h) λv _=>Tot.ix2 (by omega) (by omega) λy _ _=>Tot.cnd (λ_=>go _) λ_=>go _
 have u:∀ (z:ByteArray) (b:Bool),z.size<=s.size->Tot ((Q155.f K (z,58,())).bind λr=>bif (BB r.1.1:Int) != 3 then (some (((0,(0,(0,b))),false,()),())) else ((idx r.1.1 0).bind λ_=>(idx r.1.1 (BD 0:Nat)).bind λO=>(Q157.f K (O,())).bind λX=>(idx r.1.1 1).bind λ_=>(idx r.1.1 (BD 1:Nat)).bind λM=>(Q157.f K (M,())).bind λI=>Q160.l0 K (s,()) (r.1.1,1,X.1.1,I.1.1,0,b))) λ_=>True:=λz b hz =>
  Tot.bind (vN K z 58 (by omega) J) λv ⟨_,hp⟩=>Tot.cnd (λ_=>Tot.ret trivial) λh=>by
   have h3:(v.1.1.length:Int)=3:=by simpa using h
   exact Tot.ix2 (by omega) (by omega) λy R _=>Tot.bind (jU K y (by have:=hp y R;omega) J) λ_ _=>Tot.ix2 (by omega) (by omega) λy R _=>Tot.bind (jU K y (by have:=hp y R;omega) J) λ_ _=>H _ _ _ _ (by omega)
 refine Tot.cnd (λh=>?_) λ_=>u s false (BR _)
 have h:=of_decide_eq_true h;rw[aH (n:=(s.size:Int)-1) (by omega) (by omega)];exact Tot.ix (by omega) (by rw[fI];omega) λy _ _=>Tot.cnd (λ_=>Tot.must (by simp only[CB,decide_eq_true_eq];omega) (u _ true (by rw[Ca];omega))) λ_=>u s false (BR _)
theorem zW (K:Nat)(s:ByteArray)(X:s.size<=100000)(I:1048577<K):Tot (Q161.f K (s,())) λr=>r.1.1.length<=100001:=by
 simp only[Q161.f,Q161.pre];refine Tot.cnd (λ_=>Tot.ret (by show (0:Nat)<=_;omega)) λ_=>Tot.bind (vN K s 44 X I) ?_
 rintro⟨⟨xs,⟨⟩⟩,⟨⟩⟩ ⟨hl,hp⟩;dsimp only at hl hp ⊢;refine Tot.iter (step:=λrec a=>Q161.s0 K (s,()) rec a) (λa=>a.2.1=xs/\0<=a.2.2/\a.2.2<=xs.length/\(a.1.length:Int)<=a.2.2) (λa=>xs.length-a.2.2.toNat) ?_ K _ (by show xs.length-BD 0<K;omega) ⟨rfl,by show (0:Int)<=0;omega,by show (0:Int)<=_;omega,by show (0:Int)<=0;omega⟩;rintro rec ⟨u,J,i⟩ ⟨rfl,z,O,M⟩ H;simp only at z O M hl hp H ⊢;simp only[Q161.s0];obtain⟨i,rfl⟩:=BF z;refine Tot.cnd (λh=>?_) λ_=>Tot.ret (by show u.length<=_;omega)
 have h:=of_decide_eq_true h;rw[au i (by omega)];exact Tot.ix2 z h λy R _=>Tot.bind (zV K y (by have:=hp y R;omega) I) λv _=>Tot.cnd (λ_=>Tot.ret (by show (0:Nat)<=_;omega)) λ_=>Tot.fit (H _ ⟨rfl,by show (0:Int)<=((i+1:Nat):Int);omega,by show ((i+1:Nat):Int)<=_;omega,by show ((u++[_]).length:Int)<=((i+1:Nat):Int);rw[BP,CM];omega⟩ (by show J.length-BD ((i+1:Nat):Int)<J.length-BD (i:Int);omega)) (by omega) (by simp only[BG,BM];omega)
theorem zX (K:Nat)(s:ByteArray)(z:s.size<=100000)(u:1048577<K):Tot (Q164.f K (s,())) λr=>r.1.1.length<=100001:=by
 simp only[Q164.f];exact Tot.bind (zW K s z u) λv y=>Tot.cnd (λ_=>Tot.ret (by show (0:Nat)<=_;omega)) λ_=>Tot.bind (oj K _ (by omega) u) λx _=>Tot.cnd (λ_=>Tot.ret (by show (0:Nat)<=_;omega)) λ_=>Tot.ret y
theorem mb (K:Nat)(s:ByteArray)(Z:s.size<=100000)(H:1048577<K):Tot (Q171.f K (s,())) λr=>r.1.2.1=true->dK r.1.1:=by
 simp only[Q171.f,Q171.pre];refine Tot.bind (vN K s 32 Z H) ?_;rintro⟨⟨xs,⟨⟩⟩,⟨⟩⟩ ⟨hl,hp⟩;dsimp only at hl hp ⊢;refine Tot.cnd (λ_=>Tot.ret λh=>by cases h) λ_=>Tot.cnd (λ_=>Tot.ret λh=>by cases h) λh=>?_
 have M:(xs.length:Int)=12:=by simpa using h
 have u:∀ y∈xs,y.size<=100000:=λy z=>Bu (hp y z) Z
 have I:∀ p:Int,Tot (Q171.l0 K (s,()) (xs,1,p,0)) λr=>r.1.2.1=true->dK r.1.1:=λp=>by
  refine Tot.iter (step:=λrec a=>Q171.s0 K (s,()) rec a) (λa=>a.1=xs/\1<=a.2.1/\a.2.1<=7) (λa=>7-a.2.1.toNat) ?_ K _ (by show 7-BD 1<K;omega) ⟨rfl,by show (1:Int)<=1;omega,by show (1:Int)<=7;omega⟩;rintro rec ⟨ys,i,p,k⟩ ⟨rfl,X,h2⟩ O;simp only at X h2 hl M u O ⊢;simp only[Q171.s0];refine Tot.cnd (λh=>?_) λ_=>?_
  ·have h:=of_decide_eq_true h;rw[aH (n:=i+1) (by omega) (by omega)];have Y:∀ m:Int,Tot (rec (ys,i+1,p,m)) λr=>r.1.2.1=true->dK r.1.1:=λm=>O _ ⟨rfl,by show 1<=i+1;omega,by show i+1<=7;omega⟩ (by show 7-BD (i+1)<7-BD i;omega)
   exact Tot.bind (te K i (by omega) h) λv _=>Tot.ix2 (by omega) (by omega) λy _ _=>Tot.cnd (λ_=>Y _) λ_=>Y _
  ·refine Tot.ix2 (by omega) (by omega) λy z _=>Tot.bind (jU K y (u y z) H) λ_ _=>Tot.ix2 (by omega) (by omega) λy z _=>Tot.bind (jU K y (u y z) H) λ_ _=>Tot.ix2 (by omega) (by omega) λy z _=>Tot.bind (jU K y (u y z) H) λ_ _=>Tot.ix2 (by omega) (by omega) λy z _=>Tot.bind (jU K y (u y z) H) λ_ _ =>
    Tot.ix2 (by omega) (by omega) λy z _=>Tot.bind (uP K y (u y z) H) λ_ _=>Tot.ix2 (by omega) (by omega) λy z _=>Tot.bind (uP K y (u y z) H) λ_ _=>Tot.ix2 (by omega) (by omega) λy z _=>Tot.bind (zX K y (u y z) H) λt ht=>Tot.ix2 (by omega) (by omega) λy z _=>Tot.bind (jU K y (u y z) H) λ_ _=>Tot.ix2 (by omega) (by omega) λy z _=>Tot.bind (jU K y (u y z) H) λ_ _ =>
    Tot.cnd (λ_=>Tot.ret λh=>by cases h) λ_=>Tot.cnd (λ_=>Tot.ret λh=>by cases h) λ_=>Tot.cnd (λ_=>Tot.ret λh=>by cases h) λ_=>Tot.bind (ol K _ (by show t.1.1.length<=1048576;omega) H) λx ⟨_,hx⟩=>Tot.cnd (λ_=>Tot.ret λh=>by cases h) λJ=>Tot.ret λ_=>?_
   refine Classical.byContradiction λhn=>?_
   rw[hx hn]at J;have R:(ByteArray.mk #[]).toList=s.toList:=by
    have:((ByteArray.mk #[]).toList != s.toList)=false:=J;simpa using this
   rw[Cx,Cx]at R;have h0:=congrArg BB R;rw[fI,fI]at h0;have X:(ByteArray.mk #[]).size=0:=rfl;omega
 exact Tot.ix2 (by omega) (by omega) λy _ _=>Tot.cnd (λ_=>I 2) λ_=>I 1
def Rt (v r:Nat):Prop:=r*r<=v/\v<(r+1)*(r+1)
theorem AO (K:Nat)(v:Nat)(hv:v<1500000001*1500000001)(hK:1048577<K):∃ r,Rt v r/\Q50.f K ((v:Int),())=some (((r:Int),()),()):=by
 have z:∀ (e k l h:Nat),h-l<2 ^ e->e<k->l<=h->h<=1500000000->l*l<=v->v<(h+1)*(h+1)->∃ r,Rt v r/\af (λrec a=>Q50.s0 K ((v:Int),()) rec a) k ((l:Int),(h:Int))=some (((r:Int),()),()):=by
  intro e;induction e with
  |zero =>
   intro k l h X Z I O u y;obtain⟨k,rfl⟩:∃ H,k=H+1:=⟨k-1,by omega⟩;have:l=h:=by omega
   subst this;refine⟨l,⟨u,y⟩,?_⟩;show Q50.s0 K _ _ _=_;simp only[Q50.s0];rw[decide_eq_false (by omega)];rfl
  |succ e M =>
   intro k l h X Z I O u y;obtain⟨k,rfl⟩:∃ H,k=H+1:=⟨k-1,by omega⟩;show ∃ r,Rt v r/\Q50.s0 K _ _ _=_;simp only[Q50.s0];by_cases hl:l<h
   ·rw[decide_eq_true (show (l:Int)<(h:Int) by omega)];have e1:wr .i64 ((l:Int)+(h:Int))=(l:Int)+h:=aH (by omega) (by omega);have e2:wr .i64 ((l:Int)+(h:Int)+1)=((l+h+1:Nat):Int):=(aH (by omega) (by omega)).trans (by omega);have e3:CY ((l+h+1:Nat):Int) 2=(((l+h+1) / 2:Nat):Int):=by
     rw[Bz (by omega)];omega
    rw[e1,e2,e3];have hm:l<(l+h+1) / 2/\(l+h+1) / 2<=h:=by omega
    have Y:h-(l+h+1) / 2<2 ^ e/\(l+h+1) / 2-1-l<2 ^ e:=by
     rw[Nat.pow_succ]at X;omega
    generalize (l+h+1) / 2=m at *;have e4:wr .i64 (m:Int)=m:=aH (by omega) (by omega);have e5:CY (v:Int) (m:Int)=((v / m:Nat):Int):=by
     rw[Bz (by omega)];rfl
    have a1:v / m<=v:=Nat.div_le_self _ _;have R:m<=v / m<->m*m<=v:=Nat.le_div_iff_mul_le (by omega);generalize v / m=q at *;have e6:wr .i64 (q:Int)=(q:Int):=aH (by omega) (by omega);rw[e4,e5,e6,decide_eq_false (show ¬ (m:Int)=0 by omega)];simp only[cond_true,cond_false];by_cases J:m<=q
    ·rw[decide_eq_true (by omega)];exact M k m h Y.1 (by omega) (by omega) O (R.1 J) y
    ·rw[decide_eq_false (by omega)];have a0:¬ m*m<=v:=λh4=>J (R.2 h4)
     have e7:wr .i64 ((m:Int)-1)=((m-1:Nat):Int):=eP m (by omega) (by omega);rw[e7];exact M k l (m-1) Y.2 (by omega) (by omega) (by omega) u (by rw[show m-1+1=m by omega];omega)
   ·have:l=h:=by omega
    subst this;refine⟨l,⟨u,y⟩,?_⟩;rw[decide_eq_false (by omega)];rfl
 exact z 31 K 0 1500000000 (by decide) (by omega) (by omega) (by omega) (by omega) hv
def iT (x:Int):Int:=if x< -1000000000 then -1000000000 else if x>1000000000 then 1000000000 else x
theorem qv (K:Nat)(x:Int):Q49.f K (x,())=some ((iT x,()),()):=by
 simp only[Q49.f,Q46.f,iT];by_cases h:x< -1000000000
 ·rw[decide_eq_true h,if_pos h];rfl
 ·rw[decide_eq_false h,if_neg h];by_cases r:x>1000000000
  ·rw[decide_eq_true r,if_pos r];rfl
  ·rw[decide_eq_false r,if_neg r];rfl
theorem tf (x:Int):-1000000000<=iT x/\iT x<=1000000000:=by
 unfold iT;split
 ·omega
 ·split <;> omega
theorem zl {a:Int}(h:-1000000000<=a/\a<=1000000000):0<=a*a/\a*a<=1000000000000000000:=by
 have e:∃ b:Nat,b<=1000000000/\a*a=((b*b:Nat):Int):=by
  refine⟨a.natAbs,by omega,?_⟩;exact (Int.natAbs_mul_self).symm
 obtain⟨b,r,u⟩:=e;have:=CX r r;omega
theorem xm (K:Nat)(x y:Int)(I:1048577<K):Tot (Q51.f K (x,y,())) λ_=>True:=by
 simp only[Q51.f];rw[qv K x,qv K y];simp only[BA];have O:=zl (tf x);have M:=zl (tf y);generalize iT x*iT x=a at *;generalize iT y*iT y=b at *;have H:wr .i64 a=a:=aH (by omega) (by omega);have u:wr .i64 b=b:=aH (by omega) (by omega);have z:wr .i64 (a+b)=(((a+b).toNat:Nat):Int):=(aH (by omega) (by omega)).trans (by omega);rw[H,u,z];obtain⟨r,_,J⟩:=AO K (a+b).toNat (by omega) I;rw[J];simp only[BA];rw[qv K r];exact⟨_,rfl,trivial⟩
theorem AP (K:Nat)(c d:dA)(r:1048577<K):Tot (Q52.f K (c,d,())) λ_=>True:=by
 simp only[Q52.f];exact Tot.bind (iD K c).tot λ_ _=>Tot.cnd (λ_=>Tot.ret trivial) λ_=>Tot.bind (iD K d).tot λ_ _=>Tot.cnd (λ_=>Tot.ret trivial) λ_=>Tot.bind (xm K _ _ r) λ_ _=>Tot.ret trivial
theorem kG (K:Nat)(n u y:Int)(h:u<=y):Tot (Q46.f K (n,u,y,())) λr=>InP r.1.1 u y:=by
 simp only[Q46.f];exact Tot.cnd (λ_=>Tot.ret ⟨CA _,h⟩) λH=>Tot.cnd (λ_=>Tot.ret ⟨h,CA _⟩) λz=>Tot.ret ⟨Int.not_lt.1 (of_decide_eq_false H),Int.not_lt.1 (of_decide_eq_false z)⟩
theorem AQ (K:Nat)(c b:dA)(t s:Int)(H:cH c)(R:1048577<K):Tot (Q57.f K (c,b,t,s,())) λr=>cH r.1.1:=by
 simp only[Q57.f];refine Tot.bind (iD K c).tot λv M=>Tot.cnd (λh=>?_) λ_=>Tot.bind (iD K b).tot λv M=>Tot.cnd (λ_=>Tot.ret H) λu=>Tot.bind (cG K _ _ _).tot λv' O=>Tot.cnd (λ_=>Tot.ret H) λy=>?_
 ·rw[M.2 H]at h;cases h
 have Z:=M.1 (by simpa using u);have ht:=O.1 (by simpa using y);obtain⟨_,_,_,⟨c1,c2⟩⟩:=H;obtain⟨_,_,_,⟨b1,b2⟩⟩:=Z;obtain⟨t1,t2⟩:=ht;have Y:¬ wr .i64 (c.2.2.2+b.2.2.2)=0:=by rw[aH (by omega) (by omega)];omega
 have z:∀ w:Int,Tot (Q56.f K (c,b,w,t,())) λr=>InP r.1.1 1 1500:=λw=>by
  simp only[Q56.f,Q55.f];refine Tot.bind (P:=λ_=>True) (Tot.cnd (λ_=>Tot.ret trivial) λ_=>Tot.ret trivial) λ_ _=>Tot.not (decide_eq_false (show ¬ t=0 by omega)) (Tot.bind (kG K _ _ _ (by omega)) λ_ _=>Tot.not (decide_eq_false Y) (Tot.bind (kG K _ _ _ (by omega)) λ_ h=>Tot.ret h))
 refine Tot.bind (AP K c b R) λ_ _=>?_
 simp only[Q53.f];refine Tot.bind (P:=λ_=>True) (Tot.not (decide_eq_false Y) (Tot.ret trivial)) λ_ _=>Tot.bind (xm K _ _ R) λn _=>Tot.cnd (λ_=>?_) λh=>?_
 ·simp only[Q54.f];refine Tot.bind (P:=λ_=>True) (Tot.cnd (λ_=>Tot.ret trivial) λ_=>Tot.cnd (λ_=>Tot.ret trivial) λ_=>Tot.cnd (λ_=>Tot.ret trivial) λ_=>Tot.ret trivial) λ_ _=>Tot.cnd (λ_=>?_) λ_=>?_ <;>
  exact Tot.bind (kG K _ _ _ (by omega)) λ_ I=>Tot.bind (kG K _ _ _ (by omega)) λ_ u=>Tot.bind (kG K _ _ _ (by omega)) λ_ y=>Tot.bind (z _) λ_ J=>Tot.ret ⟨I,u,y,J⟩
 ·have X:¬ n.1.1=0:=by simpa using h
  refine Tot.cnd (λ_=>?_) λ_=>?_ <;>
  exact Tot.not (decide_eq_false X) (Tot.bind (kG K _ _ _ (by omega)) λ_ I=>Tot.not (decide_eq_false X) (Tot.bind (kG K _ _ _ (by omega)) λ_ u=>Tot.bind (kG K _ _ _ (by omega)) λ_ y=>Tot.bind (z _) λ_ J=>Tot.ret ⟨I,u,y,J⟩))
noncomputable def pQ (K:Nat)(c b:dA)(t s:Int):dA:=((Q57.f K (c,b,t,s,())).getD (((0,0,0,0),()),())).1.1
noncomputable def sb (K:Nat)(l:List Int):Int:=((Q58.f K (l,())).getD ((0,()),())).1.1
theorem xn (K:Nat)(c b:dA)(t s:Int)(r:cH c)(u:1048577<K):Q57.f K (c,b,t,s,())=some ((pQ K c b t s,()),())/\cH (pQ K c b t s):=by
 obtain⟨⟨⟨v,⟨⟩⟩,⟨⟩⟩,e,h⟩:=AQ K c b t s r u;unfold pQ;rw[e];exact⟨rfl,h⟩
theorem med_t (K:Nat)(l:List Int)(hl:l.length<=100)(hK:1048577<K):Tot (Q58.f K (l,())) λ_=>True:=by
 simp only[Q58.f,Q58.pre];have u:∀ I:List Int,I.length<=100->Tot (Q58.l0 K (l,()) (I,[],0)) λ_=>True:=λI hx=>by
  refine Tot.iter (step:=λrec a=>Q58.s0 K (l,()) (Q58.l1 K (l,()) rec) rec a) (λa=>a.1=I/\0<=a.2.2/\a.2.2<=I.length/\(a.2.1.length:Int)=a.2.2) (λa=>I.length-a.2.2.toNat) ?_ K _ (by show I.length-BD 0<K;omega) ⟨rfl,by show (0:Int)<=0;omega,by show (0:Int)<=_;omega,rfl⟩;rintro rec ⟨ys,H,i⟩ ⟨rfl,X,h1,h2⟩ Y;simp only at X h1 h2 hx Y ⊢;simp only[Q58.s0];obtain⟨i,rfl⟩:=BF X;refine Tot.cnd (λh=>?_) λ_=>Tot.cnd (λ_=>Tot.ret trivial) λh=>?_
  ·have J:=of_decide_eq_true h;clear h;refine Tot.iter (step:=λz a=>Q58.s1 K (l,()) rec z a) (λa=>a.1=ys/\a.2.1=H/\a.2.2.1=i/\0<=a.2.2.2/\a.2.2.2<=H.length) (λa=>H.length-a.2.2.2.toNat) ?_ K _ (by show H.length-BD 0<K;omega) ⟨rfl,rfl,rfl,by show (0:Int)<=0;omega,by show (0:Int)<=_;omega⟩;rintro z ⟨M,r,j,k⟩ ⟨rfl,rfl,e,k0,k1⟩ R;simp only at e k0 k1 J h1 h2 hx R Y ⊢;subst e;simp only[Q58.s1];obtain⟨k,rfl⟩:=BF k0;have a0:∀ y:Int,Tot (rec (M,(([]++((r.take (BD (k:Int))).drop (BD 0)))++([y]))++((r.take (BD (BB r:Int))).drop (BD (k:Int))),wr .i64 ((i:Int)+1))) λ_=>True:=λy=>by
    rw[au i (by omega)];refine Y _ ⟨rfl,by show (0:Int)<=((i+1:Nat):Int);omega,by show ((i+1:Nat):Int)<=_;omega,?_⟩ (by show M.length-BD ((i+1:Nat):Int)<M.length-BD (i:Int);omega);simp only[BE,CO,Br,BO,BP,BW,Bx,BG,BM];omega
   have O:Tot (bif decide (0<=0)&&decide ((0:Int)<=(k:Int))&&decide ((k:Int)<=(BB r:Int))&&true then (bif decide ((BB ([]:List (Ty.den (.int .i64)))+BB ((r.take (BD (k:Int))).drop (BD 0)))*8<=ao) then ((idx M (i:Int)).bind λZ=>bif decide ((BB ([]++((r.take (BD (k:Int))).drop (BD 0)))+BB ([Z]))*8<=ao) then (bif decide ((0:Int)<=(k:Int))&&decide ((k:Int)<=(BB r:Int))&&decide ((BB r:Int)<=(BB r:Int))&&true then (bif decide ((BB (([]++((r.take (BD (k:Int))).drop (BD 0)))++([Z]))+BB ((r.take (BD (BB r:Int))).drop (BD (k:Int))))*8<=ao) then (rec (M,(([]++((r.take (BD (k:Int))).drop (BD 0)))++([Z]))++((r.take (BD (BB r:Int))).drop (BD (k:Int))),wr .i64 ((i:Int)+1))) else none) else none) else none) else none) else none) λ_=>True:=by
    refine Tot.must (by simp only[CB,decide_eq_true_eq,Cf];omega) (Tot.fit (Tot.ix X J λy _ _=>Tot.fit (Tot.must (by simp only[CB,decide_eq_true_eq,Cf];omega) (Tot.fit (a0 y) (by omega) ?_)) (by omega) ?_) (by omega) ?_) <;>
    simp only[BE,CO,Br,BO,BP,BW,Bx,BG,BM] <;> omega
   refine Tot.cnd (λh4=>?_) λ_=>O
   have h4:=of_decide_eq_true h4;refine Tot.ix k0 h4 λy1 _ _=>Tot.ix X J λy2 _ _=>Tot.cnd (λ_=>?_) λ_=>O
   rw[au k (by omega)];exact R _ ⟨rfl,rfl,rfl,by show (0:Int)<=((k+1:Nat):Int);omega,by show ((k+1:Nat):Int)<=_;omega⟩ (by show r.length-BD ((k+1:Nat):Int)<r.length-BD (k:Int);omega)
  ·have h:¬ (H.length:Int)=0:=by simpa using h
   rw[aH (n:=(H.length:Int)-1) (by omega) (by omega)];have e:CY ((H.length:Int)-1) 2=((H.length:Int)-1) / 2:=by rw[Bz (by omega)]
   rw[e,aH (by omega) (by omega)];exact Tot.ix (by omega) (by omega) λy _ _=>Tot.ret trivial
 refine Tot.cnd (λh=>?_) λ_=>u l hl
 have h:=of_decide_eq_true h;rw[aH (n:=(l.length:Int)-3) (by omega) (by omega)];exact Tot.must (by simp only[CB,decide_eq_true_eq,Cf];omega) (u _ (by simp only[Bx,BW];omega))
theorem med_s (K:Nat)(l:List Int)(r:l.length<=100)(u:1048577<K):Q58.f K (l,())=some ((sb K l,()),()):=by
 obtain⟨⟨⟨v,⟨⟩⟩,⟨⟩⟩,e,_⟩:=med_t K l r u;unfold sb;rw[e];rfl
theorem re {α A R:Type}(k:α->Int)(x:α)(t:List α)(hA:Asc k t)(S0 S1:List α->Nat->A)(I:List α->Option R){step:(A->Option R)->A->Option R}
  (h0:∀ (rec:A->Option R) (r:List α) (i:Nat) (M:i<t.length),r.length=i->(∀ y∈t.take i,k y<k x)->step rec (S0 r i)=if k t[i]<k x then rec (S0 (r++[t[i]]) (i+1)) else if k t[i]=k x then rec (S1 (r++[x]) (i+1)) else rec (S1 (r++[x]++[t[i]]) (i+1)))
  (h1:∀ (rec:A->Option R) (r:List α) (i:Nat) (M:i<t.length),r.length<=i+1->k x<k t[i]->step rec (S1 r i)=rec (S1 (r++[t[i]]) (i+1)))
  (e0:∀ (rec:A->Option R) (r:List α),r.length=t.length->(∀ y∈t,k y<k x)->step rec (S0 r t.length)=I (r++[x]))
  (e1:∀ (rec:A->Option R) (r:List α),r.length<=t.length+1->step rec (S1 r t.length)=I r) {K:Nat} (Y:t.length<K):af step K (S0 [] 0)=I (bw k x t):=by
 have r1:∀ (n i K:Nat) (r:List α),i+n=t.length->n<K->r.length<=i+1->(∀ y∈t.drop i,k x<k y)->af step K (S1 r i)=I (r++t.drop i):=by
  intro n;induction n with
  |zero =>
   intro i K r M Y O _;obtain⟨K,rfl⟩:∃ X,K=X+1:=⟨K-1,by omega⟩;have:i=t.length:=by omega
   subst this;show step (af step K) _=_;rw[e1 _ _ O,Cd,BN]
  |succ n ih =>
   intro i K r M Y O hg;obtain⟨K,rfl⟩:∃ X,K=X+1:=⟨K-1,by omega⟩;have u:i<t.length:=by omega
   rw[BL u]at hg;show step (af step K) _=_;rw[h1 _ _ _ u O (hg _ (.head _)),ih (i+1) K _ (by omega) (by omega) (by simp;omega) (λy z=>hg y (.tail _ z)),BL u];simp
 have H:∀ i (M:i<t.length),∀ y∈t.drop (i+1),k t[i]<k y:=λi M y z=>by
  have:=List.Pairwise.drop (i:=i) hA;rw[BL M]at this;exact (BQ.1 this).1 y z
 have r0:∀ (n i K:Nat) (r:List α),i+n=t.length->n<K->r=t.take i->(∀ y∈t.take i,k y<k x)->af step K (S0 r i)=I (bw k x t):=by
  intro n;induction n with
  |zero =>
   intro i K r M Y O J;obtain⟨K,rfl⟩:∃ X,K=X+1:=⟨K-1,by omega⟩;have:i=t.length:=by omega
   subst this;rw[CI]at O J;subst O;show step (af step K) _=_;rw[e0 _ _ rfl J];unfold bw;rw[BT.2 (by simpa using J),BY.2 (λy z=>by have:=J y z;simp;omega)]
  |succ n ih =>
   intro i K r M Y O J;obtain⟨K,rfl⟩:∃ X,K=X+1:=⟨K-1,by omega⟩;have u:i<t.length:=by omega
   subst O;have a0:(t.take i).length=i:=by rw[BW];omega
   show step (af step K) _=_;rw[h0 _ _ _ u a0 J];have Z:k x<=k t[i]->bw k x t=t.take i++x::(t.drop i).filter (λy=>decide (k x<k y)):=λhc=>by
    unfold bw;conv=>lhs;rw[<- Cb i t]
    rw[B4,B4,BT.2 (by simpa using J),(BY (l:=t.take i)).2 (λy z=>by have:=J y z;simp;omega),BO];rw[BL u,BV,if_neg (by simp;omega),BY.2 (λy z=>by have:=H i u y z;simp;omega),BN]
   by_cases hc:k t[i]<k x
   ·rw[if_pos hc];refine ih (i+1) K _ (by omega) (by omega) (by rw[C4,BK u];rfl) λy z=>?_
    rw[C4,BK u]at z;rcases B3.1 z with z|z
    ·exact J y z
    ·simp at z;rw[z];exact hc
   ·rw[if_neg hc,Z (by omega),BL u];by_cases he:k t[i]=k x
    ·rw[if_pos he,r1 n (i+1) K _ (by omega) (by omega) (by simp;omega) (λy z=>by have:=H i u y z;omega),BV,if_neg (by simp;omega),BT.2 (λy z=>by have:=H i u y z;simp;omega)];simp
    ·rw[if_neg he,r1 n (i+1) K _ (by omega) (by omega) (by simp;omega) (λy z=>by have:=H i u y z;omega),BV,if_pos (by simp;omega),BT.2 (λy z=>by have:=H i u y z;simp;omega)];simp
 exact r0 t.length 0 K [] (by omega) Y rfl (by simp)
theorem xo {t:List ah}{f:ah}(h:∀ g∈t,g.1<f.1):(bS t f).1=t++[f]:=by
 rw[im (λg r e=>by have:=h g r;omega)];unfold bw;rw[BT.2 (by simpa using h),BY.2 (λy u=>by have:=h y u;simp;omega)]
theorem pR:∀ {fs t:List ah},Asc (λf:ah=>f.1) fs->(∀ g∈t,∀ f∈fs,g.1<f.1)->eX t fs=t++fs
 |[],t,_,_=>by simp[eX]
 |f::fs,t,y,h=>by
  show eX (bS t f).1 fs=_;rw[xo (λg r=>h g r f (by simp)),pR (BQ.1 y).2 ?_]
  ·simp
  ·intro g r e u;rcases B3.1 r with r|r
   ·exact h g r e (by simp[u])
   ·rw[Bw.1 r];exact (BQ.1 y).1 e u
theorem vO {fs:List ah}(h:aB fs):eX [] fs=fs:=by
 rw[pR h.2 (by simp)];rfl
theorem zY (K:Nat)(a b:List ah)(u:aB a)(r:aB b)(y:1048577<K):Q37.f K (a,b,())=some ((eX a b,()),()):=by
 simp only[Q37.f,Q37.pre];obtain⟨R,O,J⟩:=gp K a (bY u) y;obtain⟨X,H,M⟩:=gp K b (bY r) y;have:=bY u;have:=bY r;rw[O,H,J.2 u,M.2 r];simp only[BA,BI,cond_false];rw[szb _ _ _ (by omega) (by show (BB ([]:List ah))+a.length<=_;simp;omega)];simp only[cond_true,BO];refine od a b u r.1 (step:=λrec x=>Q37.s0 K (a,b,()) rec x) (λt=>some ((t,()),())) ?_ ?_ (by omega)
 ·intro rec t i I z;simp only[Q37.s0];rw[bo (by omega:(i:Int)<(BB b:Int)),ag I,au i (by omega)];simp only[cond_true,BA];rw[vG K t _ (bY z) z.2 y];rfl
 ·intro rec t;simp only[Q37.s0,aS];rfl
theorem o6 {r:Int}{l:List bZ}(h:c7 r l)(s:Int):aB (eG l s):=by
 rcases qS (l:=l) (s:=s) with e|⟨x,u,_,e⟩ <;> rw[e]
 ·exact⟨by simp,List.Pairwise.nil⟩
 ·exact (h.1 x u).2.2.2.1
theorem olen {u:Int}{l:List bZ}(h:c7 u l):l.length<=1048576:=Bu (iP h.2 λx r=>⟨(h.1 x r).1.1,CZ (h.1 x r).1.2 (by decide)⟩) (by decide)
theorem xp (K:Nat)(n:aa)(s:Int)(t:List ah)(h:c7 n.1 (aa.others n))(r:aB t)(y:1048577<K):Q38.f K (n,s,t,())=some ((eX (eG (aa.others n) s) t,()),()):=by
 have z:=olen h;refine pD (step:=λrec a=>Q38.s0 K (n,s,t,()) rec a) (aa.others n) s (λl=>some ((eX l t,()),())) ?_ ?_ (aa.others n).length 0 K (by omega) (by omega)
 ·intro rec i u;simp only[Q38.s0];rw[bo (by omega:(i:Int)<(BB (aa.others n):Int)),ag u,au i (by omega)];simp only[cond_true,BA];cases (aa.others n)[i].1==s with
  |false=>rfl
  |true=>exact (congrArg (λo=>BS o _) (zY K _ t (h.1 _ (BC u)).2.2.2.1 r y)).trans rfl
 ·intro rec;simp only[Q38.s0,aS,cond_false];rw[vO r];refine (congrArg (λb=>bif b then _ else _) (szb (BB ([]:List ah)) t.length 32 (by omega) ?_)).trans rfl;have:=bY r;simp;omega
theorem sum_s (K:Nat)(n:aa)(s:Int)(t:List ah)(h:c7 n.1 (aa.others n))(R:1048577<K):Q39.f K (n,s,t,())=some ((mV n (bw (λx:bZ=>x.1) (s,t) (aa.others n)),()),()):=by
 have X:=olen h;refine re (step:=λrec a=>Q39.s0 K (n,s,t,()) rec a) (λx:bZ=>x.1) (s,t) (aa.others n) h.2 (λr i=>(r,false,(i:Int))) (λr i=>(r,true,(i:Int))) (λo=>some ((mV n o,()),())) ?_ ?_ ?_ ?_ (by omega)
 ·intro rec r i H I _;simp only[Q39.s0,zcp4,zcp8];rw[bo (by omega:(i:Int)<(BB (aa.others n):Int)),ag H,au i (by omega)];simp only[cond_true,BA,Bs];have u:=szb r.length 1 32 (by omega) (by omega);have O:=szb (r++[(s,t)]).length 1 32 (by omega) (by simp;omega);generalize (aa.others n)[i]=y at *;by_cases J:y.1<s
  ·rw[if_pos J,show decide (y.1>=s)=false from decide_eq_false (by omega),show (y.1 != s)=true by simp;omega];exact (congrArg (λb=>bif b then _ else _) u).trans rfl
  ·rw[if_neg J,show decide (y.1>=s)=true from decide_eq_true (by omega)];refine (congrArg (λb=>bif b then _ else _) u).trans ?_;by_cases z:y.1=s
   ·rw[if_pos z,show (y.1 != s)=false by simpa using z];rfl
   ·rw[if_neg z,show (y.1 != s)=true by simpa using z];exact (congrArg (λb=>bif b then _ else _) O).trans rfl
 ·intro rec r i H I M;simp only[Q39.s0,zcp4,zcp8];rw[bo (by omega:(i:Int)<(BB (aa.others n):Int)),ag H,au i (by omega)];simp only[cond_true,BA,BI,cond_false];have u:=szb r.length 1 32 (by omega) (by omega);rw[show ((aa.others n)[i].1 != s)=true by simp;have:s<_:=M;omega];exact (congrArg (λb=>bif b then _ else _) u).trans rfl
 ·intro rec r I _;simp only[Q39.s0,zcp4,zcp8,aS,cond_false,Bs,cond_true];exact (congrArg (λb=>bif b then _ else _) (szb r.length 1 32 (by omega) (by omega))).trans rfl
 ·intro rec r I;simp only[Q39.s0,zcp4,zcp8,aS,cond_false,BI];rfl
theorem yG (K:Nat)(a b:List ah)(Z:a.length<=1048576)(X:1048577<K):Q40.f K (a,b,())=rb (decide (a≠b)):=by
 simp only[Q40.f,Q40.pre];by_cases I:a.length=b.length
 ·rw[show ((BB a:Int) != (BB b:Int))=false by simp;omega];have:=cr (step:=λrec x=>Q40.s0 K (a,b,()) rec x) a.length (λi=>(i:Int)) (λj=>∃ (h:j<a.length) (Y:j<b.length),a[j]≠b[j]) (rb false) (λ_=>rb true) ?_ ?_ a.length K 0 (by omega) (by omega)
  ·rcases this with ⟨J,u⟩|⟨j,_,J,⟨y,M,R⟩,_,u⟩
   ·refine (u:Q40.l0 K (a,b,()) 0=_).trans ?_;rw[decide_eq_false];rintro z;exact z (CS I λi y M=>CN.1 λO=>J i (BX _) y ⟨y,M,O⟩)
   ·refine (u:Q40.l0 K (a,b,()) 0=_).trans ?_;rw[decide_eq_true];rintro rfl;exact R rfl
  ·intro rec i H;simp only[Q40.s0];rw[bo (by omega:(i:Int)<(BB a:Int)),ag H,au i (by omega),ag (show i<b.length by omega)];simp only[cond_true,BA];rw[show Ty.eqv t2 a[i] (b[i]'(by omega))=decide (a[i]=b[i]'(by omega)) from gW _ _];by_cases r:a[i]=b[i]'(by omega)
   ·exact .inl ⟨λ⟨_,_,h⟩=>h r,by rw[decide_eq_true r];rfl⟩
   ·exact .inr ⟨⟨H,by omega,r⟩,by rw[decide_eq_false r];rfl⟩
  ·intro rec;simp only[Q40.s0,aS];rfl
 ·rw[show ((BB a:Int) != (BB b:Int))=true by simp;omega,decide_eq_true (show a≠b from λe=>I (by rw[e]))];rfl
end Go.Proofs.YtaelpfghkndliaaGreatEv
