/- The marks that a law writes into what was answered, and the look whether they still stand. -/
import Derived.Test.YtaelpfghkndliaaGreatP1
import Derived.Test.YtaelpfghkndliaaGreatE0
import Derived.Laws.Strings
set_option linter.unusedVariables false
set_option linter.unusedSimpArgs false
open Bool renaming not_true->BI,not_false->Br,true_and->B5,and_eq_true->CA,false_and->CG,eq_iff_iff->CI,and_self->CJ,and_true->Ce,false_or->Cl,true_or->Cp,and_false->Cu,or_true->DF
open ByteArray renaming size_extract->CZ
open Classical renaming not_not->CM
open Eq renaming trans->Cm
open Go.ByteArray renaming toList_eq->Cw
open Go.IntKind renaming wrap_i64->C8
open Int renaming toNat->BD,toNat_natCast->BE,eq_ofNat_of_zero_le->BF,tdiv_eq_ediv_of_nonneg->By,fdiv->B6,le_refl->B9,toNat_zero->CN,tmod->CQ,tdiv->CX,le_trans->CY,tmod_eq_emod_of_nonneg->Ch,le_of_lt->Co,tmod_lt_of_pos->Cz,tdiv_le_self->C9,tmod_nonneg->DC,tdiv_nonneg->DD
open List renaming length->BB,getElem_mem->BC,length_cons->BG,mem_filter->BH,getElem_of_mem->BJ,getElem?_eq_getElem->BK,drop_eq_getElem_cons->BL,length_nil->BM,append_nil->BN,nil_append->BO,length_append->BP,pairwise_cons->BQ,filter_eq_self->BT,length_map->BU,filter_cons->BV,length_take->BW,filter_eq_nil_iff->BY,mem_map->BZ,drop_zero->Bq,reverse_reverse->Bs,pairwise_map->Bu,mem_singleton->Bv,length_drop->Bw,take_of_length_le->Bx,mem_append->Bz,filter_append->B3,append_assoc->B7,mem_cons->B8,length_filter_le->CB,pairwise_iff_getElem->CC,pairwise_append->CD,take_succ_eq_append_getElem->CE,reverse_cons->CF,take_length->CH,getElem?_eq_none->CK,length_singleton->CL,replicate->CP,ext_getElem->CR,mem_of_find?_eq_some->CS,length_take_le->CT,length_reverse->CU,getElem_take->CV,take_append_drop->Ca,length_replicate->Cb,drop_length->Cc,not_mem_nil->Cd,map_append->Cf,length_pos_iff->Cg,filter_congr->Cj,map_cons->Ck,pairwise_singleton->Cn,find?_cons->Cq,find?_some->Cr,length_set->Cs,set_append_right->Ct,mem_of_mem_take->Cv,find?_eq_none->Cx,mem_cons_self->Cy,getElem_drop->C0,take_add_one->C3,perm_middle->C4,cons_append->C5,getElem_set->C6,mem_range->DE,map_nil->DG
open List.Pairwise renaming filter->CO
open Nat renaming le_refl->BR,zero_le->BX,le_trans->Bt,lt_or_eq_of_le->B4,mul_le_mul->CW,lt_trichotomy->Ci
open Option renaming bind_some->BA,bind->BS,getD_some->C7,map_some->DA
open Option.some renaming inj->DB
namespace Go.Proofs.YtaelpfghkndliaaGreatEv
open Go
theorem kS {α β R:Type}(t:List α)(p:α->Bool)(g:α->β)(n:Nat)(u:List β->Option R){step:(List β×Int->Option R)->List β×Int->Option R}
  (h:∀ (rec:List β×Int->Option R) (r:List β) (i:Nat) (J:i<t.length),r.length<=i->r.length<n->step rec (r,(i:Int))=rec (bif p t[i] then r++[g t[i]] else r,((i+1:Nat):Int)))
  (hn:∀ (rec:List β×Int->Option R) (r:List β) (i:Nat),i<t.length->r.length<=i->n<=r.length->step rec (r,(i:Int))=u r)
  (z:∀ (rec:List β×Int->Option R) (r:List β),r.length<=t.length->step rec (r,(t.length:Int))=u r) :
  ∀ (d i k:Nat) (r:List β),i+d=t.length->d<k->r.length<=i->r.length<=n->af step k (r,(i:Int))=u (r++(((t.drop i).filter p).map g).take (n-r.length)):=by
 intro d;induction d with
 |zero =>
  intro i k r J Z H _;obtain⟨k,rfl⟩:∃ I,k=I+1:=⟨k-1,by omega⟩;have:i=t.length:=by omega
  subst this;show step (af step k) _=_;rw[z _ _ H];simp
 |succ d M =>
  intro i k r J Z H Y;obtain⟨k,rfl⟩:∃ I,k=I+1:=⟨k-1,by omega⟩;have y:i<t.length:=by omega
  show step (af step k) _=_;by_cases O:r.length<n
  ·rw[h _ _ _ y H O,BL y,BV];cases hp:p t[i] with
   |true =>
    simp only[cond_true,if_true,Ck];rw[M (i+1) k _ (by omega) (by omega) (by simp;omega) (by simp;omega)];congr 1;obtain⟨m,X⟩:∃ m,n-r.length=m+1:=⟨n-r.length-1,by omega⟩;rw[X,List.take_succ_cons,B7];simp only[BP,BG,BM];rw[show n-(r.length+(0+1))=m by omega];rfl
   |false =>
    simp only[cond_false];rw[M (i+1) k _ (by omega) (by omega) (by omega) (by omega)];rfl
  ·rw[hn _ _ _ y H (by omega)];rw[show n-r.length=0 by omega];simp
theorem vu {α β R:Type}(t:List α)(p:α->Bool)(g:α->β)(u:List β->Option R){step:(List β×Int->Option R)->List β×Int->Option R}
  (h:∀ (rec:List β×Int->Option R) (r:List β) (i:Nat) (z:i<t.length),r.length<=i->step rec (r,(i:Int))=rec (bif p t[i] then r++[g t[i]] else r,((i+1:Nat):Int)))
  (y:∀ (rec:List β×Int->Option R) (r:List β),r.length<=t.length->step rec (r,(t.length:Int))=u r) {k:Nat} (I:t.length<k) :
  af step k ([],0)=u ((t.filter p).map g):=by
 have:=kS t p g (t.length+1) u (λrec r i z H _=>h rec r i z H) (λrec r i z H J=>by omega) y t.length 0 k [] (by omega) I (BR _) (by simp);refine this.trans ?_;congr 1;simp only[BO,BM,Bq];exact Bx (by have:=CB p t;simp;omega)
theorem dY {e:Ty}{b:Nat}{xs:List e.den}(h:xs.length*b<=140737488355328):fJ e b xs=some ((xs,()),()):=by
 unfold fJ;rw[decide_eq_true (by simpa[ao]using h)];rfl
theorem AB {α β:Type}{xs r:List α}{b:Nat}{x y:β}(h:(xs.length+r.length)*b<=140737488355328):(bif decide ((BB xs+BB r)*b<=ao) then x else y)=x:=by
 rw[decide_eq_true (by simpa[ao]using h)];rfl
theorem zE (K:Nat)(xs:List Int)(n:Int)(I:xs.length<=1048576):Q128.f K (xs,n,())=some ((xs.take n.toNat,()),()):=by
 simp only[Q128.f,Q127.f,BA,Q8.f];obtain⟨c,y,z,u,r⟩:∃ c:Int,(bif decide (0<(bif decide ((xs.length:Int)<n) then (xs.length:Int) else n)) then bif decide ((xs.length:Int)<n) then (xs.length:Int) else n else 0)=c/\0<=c/\c<=xs.length/\xs.take c.toNat=xs.take n.toNat:=by
  by_cases h:(xs.length:Int)<n
  ·rw[decide_eq_true h];simp only[cond_true];by_cases r:0<(xs.length:Int)
   ·rw[decide_eq_true r];refine⟨_,rfl,by simp,by simp,?_⟩;simp only[cond_true];rw[Bx (by omega),Bx (by omega)]
   ·rw[decide_eq_false r];refine⟨_,rfl,by simp,by simp,?_⟩;have:xs=[]:=List.eq_nil_of_length_eq_zero (by omega);subst this;simp
  ·rw[decide_eq_false h];simp only[cond_false];by_cases r:0<n
   ·rw[decide_eq_true r];exact⟨_,rfl,by simp;omega,by simp;omega,rfl⟩
   ·rw[decide_eq_false r];refine⟨_,rfl,by simp,by simp,?_⟩;simp only[cond_false];rw[show n.toNat=0 by omega];rfl
 rw[y,decide_eq_true z,decide_eq_true u];simp only[CN,Bq,decide_true,CJ,cond_true];rw[dY (by
  have:=CT c.toNat xs;have H:(List.take c.toNat xs).length<=1048576:=by omega
  omega)]
 simp only[BA];rw[r];rfl
def mK (f:ah):Bool:=f.2.2.2&&f.2.2.1==1
def fF (t:List ah):List Int:=((t.filter mK).map (·.1)).take 2
theorem uH (K:Nat)(t:List ah)(I:t.length<=1048576)(J:1048577<K):Q194.f K (t,2,())=some ((fF t,()),()):=by
 have:=kS (step:=λrec a=>Q194.s0 K (t,2,()) rec a) t mK (λf=>f.1) 2 (λz=>some ((z,()),())) ?_ ?_ ?_ t.length 0 K [] (by omega) (by omega) (BR _) (by simp)
 ·exact this
 ·intro rec r i u y H;simp only[Q194.s0];rw[bo (by omega:(i:Int)<(BB t:Int)),ag u,au i (by omega),decide_eq_true (by omega:(BB r:Int)<2)];simp only[cond_true,BA,mK];cases t[i].2.2.2 with
  |true =>
   simp only[cond_true,B5];cases t[i].2.2.1==1 with
   |true=>simp only[cond_true];rw[AB (by simp;omega)]
   |false=>rfl
  |false=>rfl
 ·intro rec r i u y H;simp only[Q194.s0];rw[bo (by omega:(i:Int)<(BB t:Int)),decide_eq_false (by omega:¬ (BB r:Int)<2)];rfl
 ·intro rec r _;simp only[Q194.s0,aS];rfl
theorem wR (t:List ah):(fF t).length<=2:=by
 unfold fF;exact CT _ _
def eG (l:List bZ)(s:Int):List ah:=((l.find? λx=>x.1==s).map (·.2)).getD []
theorem pD {R:Type}(l:List bZ)(s:Int)(r:List ah->Option R){step:(Int->Option R)->Int->Option R}
  (h:∀ (rec:Int->Option R) (i:Nat) (H:i<l.length),step rec (i:Int)=bif l[i].1==s then r l[i].2 else rec ((i+1:Nat):Int))
  (u:∀ rec:Int->Option R,step rec (l.length:Int)=r []) :
  ∀ (d i k:Nat),i+d=l.length->d<k->af step k (i:Int)=r (eG (l.drop i) s):=by
 intro d;induction d with
 |zero =>
  intro i k H J;obtain⟨k,rfl⟩:∃ z,k=z+1:=⟨k-1,by omega⟩;have:i=l.length:=by omega
  subst this;show step (af step k) _=_;rw[u];simp[eG]
 |succ d I =>
  intro i k H J;obtain⟨k,rfl⟩:∃ z,k=z+1:=⟨k-1,by omega⟩;have y:i<l.length:=by omega
  show step (af step k) _=_;rw[h _ _ y,BL y];simp only[eG,Cq];cases l[i].1==s with
  |true=>rfl
  |false=>exact I (i+1) k (by omega) (by omega)
theorem zF (K:Nat)(n:aa)(s:Int)(u:NB n)(z:1048577<K):Q117.f K (n,s,())=some ((eG (aa.others n) s,()),()):=by
 have y:=u.others;refine pD (step:=λrec a=>Q117.s0 K (n,s,()) rec a) (aa.others n) s (λt=>some ((t,()),())) ?_ ?_ (aa.others n).length 0 K (by omega) (by omega)
 ·intro rec i r;simp only[Q117.s0];rw[bo (by omega:(i:Int)<(BB (aa.others n):Int)),ag r,au i (by omega)];rfl
 ·intro rec;simp only[Q117.s0,aS];rfl
theorem qT {l:List bZ}{s:Int}:eG l s=[]\/∃ x∈l,x.1=s/\eG l s=x.2:=by
 unfold eG;cases h:l.find? λx=>x.1==s with
 |none=>exact .inl rfl
 |some x=>exact .inr ⟨x,CS h,by simpa using Cr h,rfl⟩
def bw {α:Type}(k:α->Int)(x:α)(xs:List α):List α:=xs.filter (λy=>decide (k y<k x))++x::xs.filter (λy=>decide (k x<k y))
theorem qU {α:Type}{k:α->Int}{xs:List α}{v:Int}{m:Nat}(J:m<=xs.length)(H:∀ i,(z:i<xs.length)->i<m->k xs[i]<v)(z:∀ i,(h:i<xs.length)->m<=i->v<=k xs[i]):xs.filter (λy=>decide (k y<v))=xs.take m:=by
 conv=>lhs;rw[<- Ca m xs]
 rw[B3];have r:(xs.take m).filter (λy=>decide (k y<v))=xs.take m:=by
  rw[BT];intro y u;obtain⟨i,r,rfl⟩:=BJ u;rw[BW]at r;rw[CV];exact decide_eq_true (H i (by omega) (by omega))
 have I:(xs.drop m).filter (λy=>decide (k y<v))=[]:=by
  rw[BY];intro y u;obtain⟨i,r,rfl⟩:=BJ u;rw[Bw]at r;rw[C0];have:=z (m+i) (by omega) (by omega);simp only[decide_eq_true_eq];omega
 rw[r,I,BN]
theorem qW {α:Type}{k:α->Int}{xs:List α}{v:Int}{m:Nat}(J:m<=xs.length)(H:∀ i,(z:i<xs.length)->i<m->k xs[i]<=v)(z:∀ i,(h:i<xs.length)->m<=i->v<k xs[i]):xs.filter (λy=>decide (v<k y))=xs.drop m:=by
 conv=>lhs;rw[<- Ca m xs]
 rw[B3];have r:(xs.take m).filter (λy=>decide (v<k y))=[]:=by
  rw[BY];intro y u;obtain⟨i,r,rfl⟩:=BJ u;rw[BW]at r;rw[CV];have:=H i (by omega) (by omega);simp only[decide_eq_true_eq];omega
 have I:(xs.drop m).filter (λy=>decide (v<k y))=xs.drop m:=by
  rw[BT];intro y u;obtain⟨i,r,rfl⟩:=BJ u;rw[Bw]at r;rw[C0];exact decide_eq_true (z (m+i) (by omega) (by omega))
 rw[r,I,BO]
theorem ik {α:Type}{k:α->Int}{xs:List α}{x:α}{m:Nat}(h:Asc k xs)(H:m<xs.length)(e:k xs[m]=k x):xs.set m x=bw k x xs:=by
 have M:=cD.1 h;have I:∀ i,(u:i<xs.length)->i<m->k xs[i]<k x:=λi u y=>by rw[<- e];exact M i m u H y
 have J:∀ i,(u:i<xs.length)->m<i->k x<k xs[i]:=λi u y=>by rw[<- e];exact M m i H u y
 rw[bw,qU (m:=m) (by omega) I (λi u r=>by
   rcases B4 r with z|z
   ·exact Co (J i u z)
   ·subst z;omega),
  qW (m:=m+1) (by omega) (λi u r=>by
   rcases B4 (Nat.le_of_lt_succ r) with z|z
   ·exact Co (I i u z)
   ·subst z;omega) (λi u r=>J i u r),
  List.set_eq_take_append_cons_drop,if_pos H]
theorem gq {α:Type}{k:α->Int}{xs:List α}{x:α}{m:Nat}(H:m<=xs.length)(z:∀ i,(u:i<xs.length)->i<m->k xs[i]<k x)(u:∀ i,(h:i<xs.length)->m<=i->k x<k xs[i]):xs.take m++[x]++xs.drop m=bw k x xs:=by
 rw[bw,qU H z (λi r y=>Co (u i r y)),qW H (λi r y=>Co (z i r y)) u,B7];rfl
theorem aZ {α:Type}{k:α->Int}{xs:List α}{x y:α}:y∈bw k x xs<->y=x\/(y∈xs/\k y≠k x):=by
 simp only[bw,Bz,B8,BH,decide_eq_true_eq];constructor
 ·rintro (⟨r,z⟩|rfl|⟨r,z⟩)
  ·exact .inr ⟨r,by omega⟩
  ·exact .inl rfl
  ·exact .inr ⟨r,by omega⟩
 ·rintro (rfl|⟨r,z⟩)
  ·exact .inr (.inl rfl)
  ·rcases Int.lt_or_gt_of_ne z with u|u
   ·exact .inl ⟨r,u⟩
   ·exact .inr (.inr ⟨r,u⟩)
theorem e8 {α:Type}{k:α->Int}{xs:List α}{x:α}(h:Asc k xs):Asc k (bw k x xs):=by
 unfold Asc bw;rw[CD,BQ];refine⟨h.filter _,⟨λy u=>?_,h.filter _⟩,λy u z r=>?_⟩
 ·simpa using (BH.1 u).2
 ·have H:k y<k x:=by simpa using (BH.1 u).2
  rcases B8.1 r with rfl|r
  ·exact H
  ·have I:k x<k z:=by simpa using (BH.1 r).2
   omega
theorem yh {α:Type}{k:α->Int}{xs:List α}{x:α}:(bw k x xs).length<=xs.length+1:=by
 have:∀ l:List α,(l.filter (λy=>decide (k y<k x))).length+(l.filter (λy=>decide (k x<k y))).length<=l.length:=by
  intro l;induction l with
  |nil=>simp
  |cons y l u =>
   simp only[BV,BG];by_cases r:k y<k x
   ·rw[if_pos (decide_eq_true r),if_neg (by simp;omega)];simp only[BG];omega
   ·rw[if_neg (by simpa using r)];split <;> (try simp only[BG]) <;> omega
 have:=this xs;simp only[bw,BP,BG];omega
theorem oU {α:Type}{k:α->Int}{xs:List α}(h:Asc k xs){i:Nat}(u:i<xs.length){v:Int}(e:k xs[i]=v):xs.find? (λy=>k y==v)=some xs[i]:=by
 cases r:xs.find? (λy=>k y==v) with
 |none =>
  have:=Cx.1 r xs[i] (BC u);simp[e]at this
 |some y =>
  have H:k y=v:=by simpa using Cr r
  obtain⟨j,z,rfl⟩:=BJ (CS r);have:=oO h z u (by rw[H,e]);subst this;rfl
theorem nK {α:Type}{k:α->Int}{xs:List α}{v:Int}(h:∀ y∈xs,k y≠v):xs.find? (λy=>k y==v)=none:=by
 rw[Cx];intro y r;simpa using h y r
def jR {α:Type}(k:α->Int)(x:α):Bool->List α->List α
 |d,[]=>bif d then [] else [x]
 |d,y::r=>(bif !d&&decide (k x<=k y) then [x] else [])++((bif k y != k x then [y] else [])++jR k x (d||decide (k x<=k y)) r)
theorem pE {α:Type}{k:α->Int}{x:α}:∀ {r:List α},(∀ y∈r,k x<k y)->jR k x true r=r
 |[],_=>rfl
 |y::r,h=>by
  have H:=h y (by simp);simp only[jR,BI,CG,cond_false,Cp,BO];rw[pE (λz u=>h z (by simp[u])),show (k y != k x)=true by simp;omega];rfl
theorem kT {α:Type}{k:α->Int}{x:α}:∀ {xs:List α},Asc k xs->jR k x false xs=bw k x xs
 |[],_=>rfl
 |y::r,h=>by
  have O:Asc k r:=(BQ.1 h).2;have H:∀ z∈r,k y<k z:=(BQ.1 h).1;simp only[jR,Br,B5,Cl];by_cases I:k x<=k y
  ·rw[decide_eq_true I,pE (λz u=>by have:=H z u;omega)];simp only[cond_true,bw,BV];have M:r.filter (λz=>decide (k z<k x))=[]:=by
    rw[BY];intro z u;have:=H z u;simp;omega
   have R:r.filter (λz=>decide (k x<k z))=r:=by
    rw[BT];intro z u;have:=H z u;simp;omega
   rw[M,R,if_neg (by simp;omega)];by_cases J:k y=k x
   ·rw[if_neg (by simp;omega),show (k y != k x)=false by simpa using J];rfl
   ·rw[if_pos (by simp;omega),show (k y != k x)=true by simpa using J];rfl
  ·rw[decide_eq_false I,kT O,show (k y != k x)=true by simp;omega];simp only[cond_false,cond_true,bw,BV,BO];rw[if_pos (by simp;omega),if_neg (by simp;omega)];rfl
theorem sG {α A R:Type}(k:α->Int)(x:α)(t:List α)(q:α->Bool)(X:Option R)(H:List α->Option R)(S:List α->Bool->Nat->A){step:(A->Option R)->A->Option R}
  (h:∀ (rec:A->Option R) (r:List α) (d:Bool) (i:Nat) (Y:i<t.length),r.length<=i+1->(d=false->r.length<=i)->step rec (S r d i)=bif q t[i] then X else rec (S ((r++(bif !d&&decide (k x<=k t[i]) then [x] else []))++(bif k t[i] != k x then [t[i]] else [])) (d||decide (k x<=k t[i])) (i+1)))
  (z:∀ (rec:A->Option R) (r:List α) (d:Bool),r.length<=t.length+1->(d=false->r.length<=t.length)->step rec (S r d t.length)=H (r++(bif d then [] else [x]))) :
  ∀ (n i K:Nat) (r:List α) (d:Bool),i+n=t.length->n<K->r.length<=i+1->(d=false->r.length<=i)->af step K (S r d i)=bif (t.drop i).any q then X else H (r++jR k x d (t.drop i)):=by
 intro n;induction n with
 |zero =>
  intro i K r d Y Z J u;obtain⟨K,rfl⟩:∃ M,K=M+1:=⟨K-1,by omega⟩;have:i=t.length:=by omega
  subst this;show step (af step K) _=_;rw[z _ _ _ J u,Cc];rfl
 |succ n ih =>
  intro i K r d Y Z J u;obtain⟨K,rfl⟩:∃ M,K=M+1:=⟨K-1,by omega⟩;have I:i<t.length:=by omega
  show step (af step K) _=_;rw[h _ _ _ _ I J u,BL I,List.any_cons];cases hq:q t[i] with
  |true=>rfl
  |false =>
   simp only[cond_false,Cl,jR];rw[ih (i+1) K _ _ (by omega) (by omega) ?_ ?_]
   ·simp only[B7]
   ·cases d with
    |true =>
     simp only[BI,CG,cond_false,BN];cases k t[i] != k x <;> simp <;> omega
    |false =>
     have:=u rfl;cases O:decide (k x<=k t[i]) <;> cases k t[i] != k x <;> simp <;> omega
   ·intro y;rw[Bool.or_eq_false_iff]at y;obtain⟨rfl,O⟩:=y;have:=u rfl;rw[O];cases k t[i] != k x <;> simp <;> omega
theorem tY (K:Nat)(n:aa)(u:NB n)(y:1048577<K):∃ b,Q26.f K (n,())=rb b/\Q101.f K (n,())=rb b/\(b=true<->fE n):=by
 obtain⟨b,J,r⟩:=oT K n u y;obtain⟨H,z,I⟩:=sE K n u y;have:b=H:=by rw[CI,r,I]
 subst this;exact⟨b,J,z,r⟩
theorem fE.up {n:aa}(h:fE n)(r:n.2.1=true):UpP n:=by
 have:=h.2.2.2.2.2
 rwa [if_pos r]at this
abbrev ak:=Int×Int×Int×Int×Int×Int×dA×List ah
abbrev ak.table (w:ak):List ah:=w.2.2.2.2.2.2.2
abbrev ak.coord (w:ak):dA:=w.2.2.2.2.2.2.1
def lV:List ah->Prop
 |[]=>False
 |f::l=>cd (f::l) (am f.1)
def dK (w:ak):Prop:=InP w.1 1 2/\InP w.2.1 1 6/\InP w.2.2.1 0 7/\InP w.2.2.2.1 0 7/\InP w.2.2.2.2.1 0 999999/\InP w.2.2.2.2.2.1 0 7/\cH (ak.coord w)/\aB (ak.table w) /\
 (if w.2.1=6 then lV (ak.table w) else cd (ak.table w) (am w.2.2.1))
theorem lW (K:Nat)(w:ak)(r:(ak.table w).length<=1048576)(u:1048577<K):Ret (Q27.f K (w,())) (dK w):=by
 refine Ret.nx (cG K _ _ _) λ_=>Ret.nx (cG K _ _ _) λ_=>Ret.nx (cG K _ _ _) λ_=>Ret.nx (cG K _ _ _) λ_=>Ret.nx (cG K _ _ _) λ_=>Ret.nx (cG K _ _ _) λ_=>Ret.nx (iD K _) λ_=>Ret.nx (gn K _ r u) λ_=>?_
 dsimp only;by_cases h:w.2.1=6
 ·rw[show (w.2.1==6)=true by simpa using h,if_pos h];obtain⟨w1,w2,w3,w4,y,z,H,t⟩:=w;cases t with
  |nil=>exact Ret.no (λh=>h)
  |cons f l =>
   rw[show decide ((BB (f::l):Int)>0)=true from decide_eq_true (by simp only[BG];omega)];simp only[cond_true];exact Ret.vl (ag (xs:=f::l) (i:=0) (by simp)) (eZ K _ _ r u).id
 ·rw[show (w.2.1==6)=false by simpa using h,if_neg h];exact (eZ K _ _ r u).id
theorem yi (K:Nat)(w:ak)(r:(ak.table w).length<=1048576)(u:1048577<K):Ret (Q102.f K (w,())) (dK w):=by
 refine Ret.iff (Q:=dK w) (Ret.nx (eJ K _ _ _) λ_=>Ret.nx (eJ K _ _ _) λ_=>Ret.nx (ja K _) λ_=>Ret.nx (ja K _) λ_=>Ret.nx (ja K _) λ_=>Ret.nx (eJ K _ _ _) λ_=>Ret.nx (nJ K _) λ_=>Ret.nx (gp K _ r u)
  (Q:=if w.2.1=6 then lV (ak.table w) else cd (ak.table w) (am w.2.2.1)) λ_=>?_) ?_
 ·dsimp only;by_cases h:w.2.1=6
  ·rw[show (w.2.1==6)=true by simpa using h,if_pos h];obtain⟨w1,w2,w3,w4,y,z,H,t⟩:=w;cases t with
   |nil=>exact Ret.no (λh=>h)
   |cons f l =>
    rw[show decide ((BB (f::l):Int)>0)=true from decide_eq_true (by simp only[BG];omega)];simp only[cond_true];exact Ret.vl (ag (xs:=f::l) (i:=0) (by simp)) (Ret.vl (mI K _) (ii K _ _ r u).id)
  ·rw[show (w.2.1==6)=false by simpa using h,if_neg h];simp only[cond_false];exact Ret.vl (mI K _) (ii K _ _ r u).id
 ·unfold dK;constructor
  ·rintro⟨h1,h2,h3,h4,h5,h6,h7,h8,h9⟩;exact⟨h1,h2,h3,h4,h6,h5,h7,h8,h9⟩
  ·rintro⟨h1,h2,h3,h4,h6,h5,h7,h8,h9⟩;exact⟨h1,h2,h3,h4,h5,h6,h7,h8,h9⟩
theorem iF {α A R:Type}(xs:List α)(S:List α->Nat->A)(r:Option R){step:(A->Option R)->A->Option R}
  (h:∀ (rec:A->Option R) (u:List α) (i:Nat) (z:i<xs.length),u.length=i->step rec (S u i)=rec (S (u++[xs[i]]) (i+1))) (y:∀ rec:A->Option R,step rec (S xs xs.length)=r) {k:Nat} (H:xs.length<k):af step k (S [] 0)=r:=by
 refine fk (step:=step) xs.length (λi=>S (xs.take i) i) r ?_ ?_ H
 ·intro rec i z;show step rec (S (xs.take i) i)=rec (S (xs.take (i+1)) (i+1));rw[h rec (xs.take i) i z (by simp;omega),CE z]
 ·intro rec;show step rec (S (xs.take xs.length) xs.length)=r;rw[CH];exact y rec
theorem szb (a b c:Nat)(r:c<=64)(h:a+b<=2097152):decide ((a+b)*c<=ao)=true:=by
 have:=CW h r;exact decide_eq_true (by unfold ao;omega)
theorem mL (K:Nat)(n:aa)(y:NB n)(R:1048577<K):Q62.f K (n,())=some ((n,()),()):=by
 have M:=y.table;have I:=y.cast;have J:=y.doubts;have O:=y.places;have H:=y.others;simp only[Q62.f,Q62.pre];rw[szb _ _ _ (by omega) (by show (BB ([]:List ah))+(aa.table n).length<=_;simp;omega),szb _ _ _ (by omega) (by show (BB ([]:List aM))+(aa.cast n).length<=_;simp;omega)];simp only[cond_true];refine iF (aa.doubts n) (step:=λrec a=>Q62.s0 K (n,()) (Q62.l1 K (n,())) rec a) (λr i=>((i:Int),r)) _ ?_ ?_ (by omega)
 ·intro rec r i u z;have:=y.by_ _ (BC u);simp only[Q62.s0];rw[bo (by omega:(i:Int)<(BB (aa.doubts n):Int)),ag u,au i (by omega)];simp only[cond_true,BA];rw[szb _ _ _ (by omega) (by simp;omega),szb _ _ _ (by omega) (by simp;omega)];rfl
 ·intro rec;simp only[Q62.s0,aS,cond_false];refine iF (aa.places n) (step:=λrec a=>Q62.s1 K (n,()) (Q62.l2 K (n,())) rec a) (λr i=>((i:Int),aa.doubts n,r)) _ ?_ ?_ (by omega)
  ·intro rec r i u z;have:=y.trips _ (BC u);simp only[Q62.s1];rw[bo (by omega:(i:Int)<(BB (aa.places n):Int)),ag u,au i (by omega)];simp only[cond_true,BA];rw[szb _ _ _ (by omega) (by simp;omega),szb _ _ _ (by omega) (by simp;omega)];rfl
  ·intro rec;simp only[Q62.s1,aS,cond_false];refine iF (aa.others n) (step:=λrec a=>Q62.s2 K (n,()) rec a) (λr i=>((i:Int),aa.doubts n,aa.places n,r)) _ ?_ ?_ (by omega)
   ·intro rec r i u z;have:=y.facts _ (BC u);simp only[Q62.s2,zcp8];rw[bo (by omega:(i:Int)<(BB (aa.others n):Int)),ag u,au i (by omega)];simp only[cond_true,BA];rw[szb _ _ _ (by omega) (by simp;omega),szb _ _ _ (by omega) (by simp;omega)];rfl
   ·intro rec;simp only[Q62.s2,zcp8,aS,cond_false];rfl
theorem yj (K:Nat)(n:aa)(y:NB n)(R:1048577<K):Q145.f K (n,())=some ((n,()),()):=by
 have M:=y.table;have I:=y.cast;have J:=y.doubts;have O:=y.places;have H:=y.others;simp only[Q145.f,Q145.pre];refine iF (aa.doubts n) (step:=λrec a=>Q145.s0 K (n,()) (Q145.l1 K (n,())) rec a) (λr i=>(r,(i:Int))) _ ?_ ?_ (by omega)
 ·intro rec r i u z;have:=y.by_ _ (BC u);simp only[Q145.s0,Q8.f];rw[bo (by omega:(i:Int)<(BB (aa.doubts n):Int)),ag u,au i (by omega)];simp only[cond_true,BA];rw[dY (by omega)];simp only[BA];rw[szb _ _ _ (by omega) (by simp;omega)];rfl
 ·intro rec;simp only[Q145.s0,aS,cond_false];refine iF (aa.places n) (step:=λrec a=>Q145.s1 K (n,()) (Q145.l2 K (n,())) rec a) (λr i=>(aa.doubts n,r,(i:Int))) _ ?_ ?_ (by omega)
  ·intro rec r i u z;have:=y.trips _ (BC u);simp only[Q145.s1,Q8.f];rw[bo (by omega:(i:Int)<(BB (aa.places n):Int)),ag u,au i (by omega)];simp only[cond_true,BA];rw[dY (by omega)];simp only[BA];rw[szb _ _ _ (by omega) (by simp;omega)];rfl
  ·intro rec;simp only[Q145.s1,aS,cond_false];refine iF (aa.others n) (step:=λrec a=>Q145.s2 K (n,()) rec a) (λr i=>(aa.doubts n,aa.places n,r,(i:Int))) _ ?_ ?_ (by omega)
   ·intro rec r i u z;have:=y.facts _ (BC u);simp only[Q145.s2,zcp8,Q0.f];rw[bo (by omega:(i:Int)<(BB (aa.others n):Int)),ag u,au i (by omega)];simp only[cond_true,BA];rw[dY (by omega)];simp only[BA];rw[szb _ _ _ (by omega) (by simp;omega)];rfl
   ·intro rec;simp only[Q145.s2,zcp8,aS,cond_false,Q0.f,Q2.f];rw[dY (by show (aa.table n).length*_<=_;omega),dY (by show (aa.cast n).length*_<=_;omega)];rfl
instance (f g:ah):Decidable (bI f g):=by unfold bI;infer_instance
theorem pF (K:Nat)(f g:ah):Q19.f K (f,g,())=rb (decide (bI f g)):=by
 obtain⟨b,r,u⟩:=sD K f g;rw[r,show b=decide (bI f g) by rw[CI,u];simp]
def bS (t:List ah)(f:ah):List ah×Bool :=
 match t.find? (λg=>g.1==f.1) with
 |some g=>if bI f g then (bw (λg=>g.1) f t,true) else (t,false)
 |none=>(bw (λg=>g.1) f t,true)
theorem kh {t:List ah}{f:ah}(r:Asc (λg:ah=>g.1) t){i:Nat}(u:i<t.length)(e:t[i].1=f.1):bS t f=if bI f t[i] then (bw (λg=>g.1) f t,true) else (t,false):=by
 unfold bS;rw[show t.find? (λg=>g.1==f.1)=some t[i] from oU r u e]
theorem il {t:List ah}{f:ah}(h:∀ g∈t,g.1≠f.1):bS t f=(bw (λg=>g.1) f t,true):=by
 unfold bS;rw[show t.find? (λg=>g.1==f.1)=none from nK h]
theorem ju {e:Ty}{b:Nat}{xs:List e.den}{m:Nat}{v:e.den}(u:m<=xs.length)(r:b<=64)(y:xs.length<=1048576):fO e b xs (m:Int) [v]=some ((xs.take m++[v]++xs.drop m,()),()):=by
 unfold fO;have:(xs.length+[v].length)*b<=140737488355328:=Bt (CW (show xs.length+[v].length<=1048577 by simp;omega) r) (by decide);rw[if_pos ⟨by omega,by omega,by simp,by simpa only[ao]using this⟩,BE]
theorem qX {e:Ty}{xs:List e.den}{u:e.den×Unit->Option Bool}(p:e.den->Bool)(z:xs.length<=1048576)(h:∀ x∈xs,u (x,())=some (p x)):gJ e xs u=some ((xs.filter (λx=>!p x),()),()):=by
 have:∀ r:List e.den,(∀ x∈r,u (x,())=some (p x))->lO u r=some (r.filter (λx=>!p x)):=by
  intro r;induction r with
  |nil=>intro _;rfl
  |cons y r H =>
   intro h;simp only[lO,h y (by simp),BA,H (λx z=>h x (by simp[z])),DA,BV];cases p y <;> rfl
 unfold gJ;rw[if_pos z,this xs h];rfl
theorem put_s (K:Nat)(t:List ah)(f:ah)(ht:t.length<=1048576)(O:Asc (λg:ah=>g.1) t)(hK:1048577<K):Q29.f K (t,f,())=some (((bS t f).1,(bS t f).2,()),()):=by
 simp only[Q29.f,Q29.pre];obtain⟨o,H,I⟩:=fh K t f.1 ht hK;rw[I];simp only[BA];cases H with
 |at_ i r e =>
  simp only;rw[kh O r e,decide_eq_true (by omega:((i:Nat):Int)>=0),ag r];simp only[cond_true,BA];rw[show Q19.f K (f,t[i],())=_ from pF K f t[i]];simp only[BA];by_cases H:bI f t[i]
  ·rw[decide_eq_true H,if_pos H];simp only[BI,cond_false];rw[szb _ _ _ (by omega) (by show (BB ([]:List ah))+t.length<=_;simp;omega)];simp only[cond_true,BO,ag r,BA,BE];rw[ik (k:=λg:ah=>g.1) O r e]
  ·rw[decide_eq_false H,if_neg H];rfl
 |no h =>
  simp only;rw[il h,decide_eq_false (by omega:¬ (-1:Int)>=0)];simp only[cond_false];have J:∀ m:Nat,m<=t.length->(bif decide ((0:Int)<=0)&&decide ((0:Int)<=(m:Int))&&decide ((m:Int)<=(BB t:Int))&&true then (bif decide ((BB ([]:List ah)+BB ((t.take (BD (m:Int))).drop (BD 0)))*32<=ao) then (bif decide ((BB ([]++((t.take (BD (m:Int))).drop (BD 0)))+BB ([f]))*32<=ao) then (bif decide ((0:Int)<=(m:Int))&&decide ((m:Int)<=(BB t:Int))&&decide ((BB t:Int)<=(BB t:Int))&&true then (bif decide ((BB (([]++((t.take (BD (m:Int))).drop (BD 0)))++([f]))+BB ((t.take (BD (BB t:Int))).drop (BD (m:Int))))*32<=ao) then (some (((([]++((t.take (BD (m:Int))).drop (BD 0)))++([f]))++((t.take (BD (BB t:Int))).drop (BD (m:Int))),true,()),())) else none) else none) else none) else none) else (none:Option ((List ah×Bool×Unit)×Unit)))=some ((t.take m++[f]++t.drop m,true,()),()):=by
   intro m X;rw[decide_eq_true (by omega:(0:Int)<=0),decide_eq_true (by omega:(0:Int)<=(m:Int)),decide_eq_true (by omega:(m:Int)<=(BB t:Int)),decide_eq_true (by omega:(BB t:Int)<=(BB t:Int))];simp only[BE,CN,Bq,BO,CH,CJ,cond_true];have I:(t.take m).length=m:=by rw[BW];omega
   have z:(t.drop m).length=t.length-m:=Bw;rw[szb _ _ _ (by omega) (by simp only[BM];omega),szb _ _ _ (by omega) (by simp only[BG,BM];omega),szb _ _ _ (by omega) (by simp only[BP,BG,BM];omega)];rfl
  have:=cr (step:=λrec a=>Q29.s0 K (t,f,()) rec a) t.length (λi=>(i:Int)) (λj=>∃ h:j<t.length,¬ t[j].1<f.1) (some ((t.take t.length++[f]++t.drop t.length,true,()),())) (λj=>some ((t.take j++[f]++t.drop j,true,()),())) ?_ ?_ t.length K 0 (by omega) (by omega)
  ·have M:∀ m,m<=t.length->(∀ i,(r:i<t.length)->i<m->t[i].1<f.1)->(∀ i,(r:i<t.length)->m<=i->f.1<t[i].1)->t.take m++[f]++t.drop m=bw (λg=>g.1) f t:=λm X lo r=>gq (k:=λg:ah=>g.1) X lo r
   rcases this with ⟨I,z⟩|⟨j,_,I,⟨Y,h4⟩,h5,z⟩
   ·rw[M t.length (BR _) (λi r _=>by
     have:=I i (BX _) r;exact CM.1 λh=>this ⟨r,h⟩) (λi r h=>by omega)]at z
    exact z
   ·rw[M j (by omega) (λi r y=>by
     have:=h5 i (BX _) y;exact CM.1 λh=>this ⟨r,h⟩) (λi r y=>by
     have Z:=h t[i] (BC r);rcases B4 y with R|R
     ·have:=cD.1 O j i Y r R;omega
     ·subst R;omega)]at z
    exact z
  ·intro rec i r;simp only[Q29.s0];rw[bo (by omega:(i:Int)<(BB t:Int)),ag r,au i (by omega)];simp only[cond_true,BA];by_cases u:t[i].1<f.1
   ·exact .inl ⟨λ⟨_,h⟩=>h u,by rw[decide_eq_true u];rfl⟩
   ·exact .inr ⟨⟨r,u⟩,by rw[decide_eq_false u];exact J i (by omega)⟩
  ·intro rec;simp only[Q29.s0,aS,cond_false];exact J t.length (BR _)
theorem vv (K:Nat)(t:List ah)(f:ah)(R:t.length<=1048576)(z:Asc (λg:ah=>g.1) t)(X:1048577<K):Q105.f K (t,f,())=some (((bS t f).1,(bS t f).2,()),()):=by
 simp only[Q105.f,Q0.f,Q1.f];rw[dY (by omega)];simp only[BA];obtain⟨m,r,Y⟩:=sC K t f.1 R z X;rw[Y];simp only[BA];by_cases O:∃ h:m<t.length,t[m].1=f.1
 ·obtain⟨J,y⟩:=O;rw[decide_eq_true ⟨J,y⟩,kh z J y];simp only[BI,cond_false,ag J,BA,BE];rw[mJ K f t[m] X];simp only[BA];by_cases M:bI f t[m]
  ·rw[decide_eq_true ((jt y.symm).2 M),if_pos M,ik (k:=λg:ah=>g.1) z J y];rfl
  ·rw[decide_eq_false (λh=>M ((jt y.symm).1 h)),if_neg M];rfl
 ·rw[decide_eq_false O,il (λg hg e=>by
   obtain⟨i,u,rfl⟩:=BJ hg;rcases Ci i m with h|h|h
   ·have:=r.lo i u h;omega
   ·subst h;exact O ⟨u,e⟩
   ·have Z:=r.hi m (by omega) (BR _);have I:=cD.1 z m i (by omega) u h;omega)]
  simp only[Br,cond_true];rw[ju r.le (by omega) R];simp only[BA];rw[gq (k:=λg:ah=>g.1) r.le r.lo (λi u H=>by
   have:=r.hi i u H;rcases B4 H with I|I
   ·have Z:=r.hi m (by omega) (BR _);have h7:=cD.1 z m i (by omega) u I;omega
   ·subst I;have:t[m].1≠f.1:=λe=>O ⟨u,e⟩
    omega)]
def dr (l:List aM)(f:ah):List aM:=if ∃ x∈l,x.1.1=f.1/\¬ bI f x.1 then l else bw (λx=>x.1.1) (f,4) l
theorem tZ {l:List aM}{f:ah}:dr l f=bif l.any (λx=>x.1.1==f.1&&!decide (bI f x.1)) then l else bw (λx=>x.1.1) (f,4) l:=by
 unfold dr;have:(∃ x∈l,x.1.1=f.1/\¬ bI f x.1)<->l.any (λx=>x.1.1==f.1&&!decide (bI f x.1))=true:=by
  rw[List.any_eq_true];simp
 by_cases h:∃ x∈l,x.1.1=f.1/\¬ bI f x.1
 ·rw[if_pos h,this.1 h];rfl
 ·rw[if_neg h,show l.any (λx=>x.1.1==f.1&&!decide (bI f x.1))=false by rw[Bool.eq_false_iff];exact λr=>h (this.2 r)];rfl
theorem zG (K:Nat)(l:List aM)(f:ah)(Y:l.length<=1048576)(I:Asc (λx:aM=>x.1.1) l)(X:1048577<K):Q30.f K (l,f,())=some ((dr l f,()),()):=by
 have:=sG (step:=λrec a=>Q30.s0 K (l,f,()) rec a) (λx:aM=>x.1.1) (f,4) l (λx=>x.1.1==f.1&&!decide (bI f x.1)) (some ((l,()),())) (λO=>some ((O,()),())) (λr d i=>(r,d,(i:Int))) ?_ ?_ l.length 0 K [] false (by omega) (by omega) (by simp) (by simp)
 ·refine Cm (this:Q30.f K (l,f,())=_) ?_;rw[Bq,tZ,kT I];cases l.any (λx=>x.1.1==f.1&&!decide (bI f x.1)) <;> rfl
 ·intro rec r d i J R z;simp only[Q30.s0];rw[bo (by omega:(i:Int)<(BB l:Int)),ag J,au i (by omega)];simp only[cond_true,BA];have u:decide ((r.length+[((f,4):ah×Nat)].length)*40<=ao)=true:=szb _ _ _ (by omega) (by simp;omega);have M:decide (((r++[((f,4):aM)]).length+[l[i]].length)*40<=ao)=true:=szb _ _ _ (by omega) (by simp;omega);have H:decide ((r.length+[l[i]].length)*40<=ao)=true:=szb _ _ _ (by omega) (by simp;omega);by_cases y:l[i].1.1=f.1
  ·rw[show (l[i].1.1==f.1)=true by simpa using y,show (l[i].1.1 != f.1)=false by simpa using y,show decide (f.1<=l[i].1.1)=true from decide_eq_true (by omega)];simp only[cond_true,cond_false,B5,Ce,DF,BN];rw[show Q19.f K (f,l[i].1,())=_ from pF K f l[i].1];simp only[BA];cases decide (bI f l[i].1) with
   |false=>rfl
   |true =>
    simp only[BI,cond_false];cases d with
    |true=>simp only[BI,cond_false,BN]
    |false =>
     simp only[Br,cond_true];rw[u];rfl
  ·rw[show (l[i].1.1==f.1)=false by simpa using y,show (l[i].1.1 != f.1)=true by simpa using y];simp only[cond_true,cond_false,CG];cases d with
   |true =>
    simp only[BI,cond_false,CG,BN,Cp];rw[H];rfl
   |false =>
    simp only[Br,cond_true,B5,Cl];cases decide (f.1<=l[i].1.1) with
    |true =>
     simp only[cond_true];rw[u];simp only[cond_true];rw[M];rfl
    |false =>
     simp only[cond_false,BN];rw[H];rfl
 ·intro rec r d R z;simp only[Q30.s0,aS];cases d with
  |true=>simp only[BI,cond_false,cond_true,BN]
  |false =>
   have:=z rfl;have u:decide ((r.length+[((f,4):ah×Nat)].length)*40<=ao)=true:=szb _ _ _ (by omega) (by simp;omega);simp only[Br,cond_true,cond_false];rw[u];rfl
theorem wS (K:Nat)(l:List aM)(f:ah)(Y:l.length<=1048576)(X:cR l)(hf:bm f)(hK:1048577<K):Q107.f K (l,f,())=some ((dr l f,()),()):=by
 simp only[Q107.f,Q2.f,Q3.f];obtain⟨b1,e1,e2⟩:=oR K l Y hK;have a3:=e2.2 X;subst a3;obtain⟨b2,e3,e4⟩:=lU K f;have a0:=e4.2 hf;subst a0;rw[e1];simp only[BA,BI,cond_false];rw[e3];simp only[BA,BI,cond_false];rw[dY (by omega)];simp only[BA];rw[uG K l Y hK];simp only[BA];have hA:Asc (λg:ah=>g.1) (l.map (·.1)):=by
  have:=X.2;unfold Asc at this ⊢;rw[Bu];exact this
 have r:(l.map (·.1)).length=l.length:=BU _;obtain⟨m,hm,h1⟩:=sC K (l.map (·.1)) f.1 (by rw[r];exact Y) hA hK;rw[h1];simp only[BA];have y:∀ i (h:i<l.length),(l.map (·.1))[i]'(by rw[r];exact h)=l[i].1:=λi h=>List.getElem_map _
 have M:=hm.le;rw[r]at M;have lo:∀ i,(u:i<l.length)->i<m->l[i].1.1<f.1:=λi u I=>by have:=hm.lo i (by rw[r];exact u) I;rwa [y i u]at this
 have O:∀ i,(u:i<l.length)->m<=i->f.1<=l[i].1.1:=λi u I=>by have:=hm.hi i (by rw[r];exact u) I;rwa [y i u]at this
 by_cases he:∃ h:m<l.length,l[m].1.1=f.1
 ·obtain⟨z,H⟩:=he;rw[decide_eq_true ⟨by rw[r];exact z,by rw[y m z];exact H⟩];simp only[BI,cond_false,ag z,BA,BE];rw[show Q87.f K (f,l[m].1,())=_ from mJ K f l[m].1 hK];simp only[BA];have a1:∀ x∈l,x.1.1=f.1->x=l[m]:=λx J e=>by
   obtain⟨i,u,rfl⟩:=BJ J;have:=oO X.2 u z (by show l[i].1.1=l[m].1.1;rw[e,H]);subst this;rfl
  by_cases Z:bI f l[m].1
  ·rw[decide_eq_true ((jt H.symm).2 Z),dr,if_neg (λ⟨x,J,e,hn⟩=>hn (by rw[a1 x J e];exact Z)),ik (k:=λx:aM=>x.1.1) (x:=(f,4)) X.2 z H];rfl
  ·rw[decide_eq_false (λh=>Z ((jt H.symm).1 h)),dr,if_pos ⟨l[m],BC z,H,Z⟩];rfl
 ·have R:∀ x∈l,x.1.1≠f.1:=λx J e=>by
   obtain⟨i,u,rfl⟩:=BJ J;rcases Ci i m with h|h|h
   ·have:=lo i u h;omega
   ·subst h;exact he ⟨u,e⟩
   ·have h5:=O m (by omega) (BR _);have h6:l[m].1.1<l[i].1.1:=cD.1 X.2 m i (by omega) u h;omega
  rw[decide_eq_false (λ⟨z,H⟩=>he ⟨by rw[r]at z;exact z,by rw[y m (by rw[r]at z;exact z)]at H;exact H⟩),dr,if_neg (λ⟨x,J,e,_⟩=>R x J e)];simp only[Br,cond_true];rw[ju M (by omega) Y];simp only[BA];rw[gq (k:=λx:aM=>x.1.1) (x:=(f,4)) M lo (λi u a2=>by
   have h1:=O i u a2;have z:=R l[i] (BC u);show f.1<l[i].1.1;omega)]
theorem oa {α:Type}{k:α->Int}{x:α}:∀ {r:List α},jR k x true r=r.filter (λy=>k y != k x)
 |[]=>rfl
 |y::r=>by
  simp only[jR,BI,CG,cond_false,Cp,BO,BV];rw[oa];cases k y != k x <;> rfl
theorem ua {α:Type}{k:α->Int}{x:α}{xs:List α}:bw k x (xs.filter λy=>!(k y==k x))=bw k x xs:=by
 simp only[bw,List.filter_filter];congr 1
 ·refine Cj λy _=>?_
  by_cases h:k y<k x
  ·rw[decide_eq_true h];simp;omega
  ·rw[decide_eq_false h];rfl
 ·congr 1;refine Cj λy _=>?_
  by_cases h:k x<k y
  ·rw[decide_eq_true h];simp;omega
  ·rw[decide_eq_false h];rfl
def mkD (r:Int)(f:ah)(b:Int):bO:=(f.1,f.2.1,r,[b])
def cO (r:Int)(ds:List bO)(f:ah)(b:Int):List bO:=if f.2.2.1=2 then bw (λd=>d.1) (mkD r f b) ds else ds.filter (λd=>!(d.1==f.1))
theorem zH (K:Nat)(n:aa)(f:ah)(b:Int)(X:(aa.doubts n).length<=1048576)(H:Asc (λd:bO=>d.1) (aa.doubts n))(Y:1048577<K) :
  Q31.f K (n,f,b,())=some ((cO n.2.2.2.2.2.1 (aa.doubts n) f b,()),()):=by
 have:=sG (step:=λrec a=>Q31.s0 K (n,f,b,()) rec a) (λd:bO=>d.1) (mkD n.2.2.2.2.2.1 f b) (aa.doubts n) (λ_=>false) none (λO=>some ((O,()),())) (λr d i=>(r,d,(i:Int))) ?_ ?_ (aa.doubts n).length 0 K [] (f.2.2.1 != 2) (by omega) (by omega) (by simp) (by simp)
 ·refine Cm (this:Q31.f K (n,f,b,())=_) ?_;rw[Bq,show (aa.doubts n).any (λ_=>false)=false by simp,cO];by_cases u:f.2.2.1=2
  ·rw[if_pos u,show (f.2.2.1 != 2)=false by simpa using u,kT H];rfl
  ·rw[if_neg u,show (f.2.2.1 != 2)=true by simpa using u,oa];rfl
 ·intro rec r d i I R z;simp only[Q31.s0];rw[bo (by omega:(i:Int)<(BB (aa.doubts n):Int)),ag I,au i (by omega)];simp only[cond_true,cond_false,BA];have y:decide ((r.length+[mkD n.2.2.2.2.2.1 f b].length)*48<=ao)=true:=szb _ _ _ (by omega) (by simp;omega);have M:decide (((r++[mkD n.2.2.2.2.2.1 f b]).length+[(aa.doubts n)[i]].length)*48<=ao)=true:=szb _ _ _ (by omega) (by simp;omega);have J:decide ((r.length+[(aa.doubts n)[i]].length)*48<=ao)=true:=szb _ _ _ (by omega) (by simp;omega);show (bif !d then (bif decide (f.1<=(aa.doubts n)[i].1) then (bif decide ((r.length+[mkD n.2.2.2.2.2.1 f b].length)*48<=ao) then (bif (aa.doubts n)[i].1 != f.1 then (bif decide (((r++[mkD n.2.2.2.2.2.1 f b]).length+[(aa.doubts n)[i]].length)*48<=ao) then (rec ((r++[mkD n.2.2.2.2.2.1 f b])++[(aa.doubts n)[i]],true,((i+1:Nat):Int))) else none) else (rec (r++[mkD n.2.2.2.2.2.1 f b],true,((i+1:Nat):Int)))) else none) else (bif (aa.doubts n)[i].1 != f.1 then (bif decide ((r.length+[(aa.doubts n)[i]].length)*48<=ao) then (rec (r++[(aa.doubts n)[i]],d,((i+1:Nat):Int))) else none) else (rec (r,d,((i+1:Nat):Int))))) else (bif (aa.doubts n)[i].1 != f.1 then (bif decide ((r.length+[(aa.doubts n)[i]].length)*48<=ao) then (rec (r++[(aa.doubts n)[i]],d,((i+1:Nat):Int))) else none) else (rec (r,d,((i+1:Nat):Int)))))=rec ((r++(bif !d&&decide (f.1<=(aa.doubts n)[i].1) then [mkD n.2.2.2.2.2.1 f b] else []))++(bif (aa.doubts n)[i].1 != f.1 then [(aa.doubts n)[i]] else []),d||decide (f.1<=(aa.doubts n)[i].1),((i+1:Nat):Int));rw[y,M,J];cases d <;> cases decide (f.1<=(aa.doubts n)[i].1) <;> cases (aa.doubts n)[i].1 != f.1 <;> simp only[BI,Br,B5,CG,Cp,Cl,cond_true,cond_false,BN]
 ·intro rec r d R z;simp only[Q31.s0,aS];cases d with
  |true=>simp only[BI,cond_false,cond_true,BN]
  |false =>
   have:=z rfl;have y:decide ((r.length+[mkD n.2.2.2.2.2.1 f b].length)*48<=ao)=true:=szb _ _ _ (by omega) (by simp;omega);show (bif decide ((r.length+[mkD n.2.2.2.2.2.1 f b].length)*48<=ao) then some ((r++[mkD n.2.2.2.2.2.1 f b],()),()) else none)=some ((r++[mkD n.2.2.2.2.2.1 f b],()),());rw[y];rfl
theorem zI (K:Nat)(t:List bO)(r:Int)(ht:t.length<=1048576)(I:Asc (λd:bO=>d.1) t)(h7:∀ d∈t,InP d.1 0 7)(Y:InP r 0 7)(hK:1048577<K) :
  ∃ m,m<=t.length/\(∀ i,(h:i<t.length)->i<m->t[i].1<r)/\(∀ i,(h:i<t.length)->m<=i->r<=t[i].1)/\∃ b,Q110.f K (t,r,(λH=>(Q111.f K (H.1,H.2.1,())).map λy=>y.1.1),())=some ((((m:Nat):Int),b,()),()):=by
 let ks:Nat->Int:=λi=>if h:i<t.length then t[i].1 else 0
 have u:∀ i (h:i<t.length),ks i=t[i].1:=λi h=>by simp[ks,h]
 let J:Nat->Option ((Int×Bool×Unit)×Unit):=λm=>some ((((m:Nat):Int),decide (∃ h:m<t.length,t[m].1=r),()),())
 have R:∀ d∈t,((Q111.f K (d,r,())).map λy=>y.1.1)=some (d.1-r):=λd hd=>by
  obtain⟨a1,a2⟩:=h7 d hd;obtain⟨a3,a4⟩:=Y;simp only[Q111.f];rw[aK (by omega) (by omega)];rfl
 have:=pz (step:=λrec a=>Q110.s0 K (t,r,(λH=>(Q111.f K (H.1,H.2.1,())).map λy=>y.1.1),()) rec a) (ks:=ks) (n:=t.length) (t:=r) J ht
  (λi j O X=>by
   rw[u i (by omega),u j X];exact cD.1 I i j (by omega) X O) ?_ ?_ t.length K 0 t.length (by omega) (BX _) (BR _) (by omega) (λi z=>by omega) (λi z Y=>by omega)
 ·obtain⟨m,Z,h2,h3,h4⟩:=this;exact⟨m,Z,λi h z=>by rw[<- u i h];exact h2 i z,λi h z=>by rw[<- u i h];exact h3 i z h,_,h4⟩
 ·intro rec a b a0 hb;have M:(a+b) / 2<t.length:=by omega
  simp only[Q110.s0];rw[decide_eq_true (by omega:(a:Int)<(b:Int)),nG (by omega)];simp only[cond_true];rw[ag M];simp only[BA,R _ (BC M)];rw[u _ M,au _ (by omega)];by_cases h:t[(a+b) / 2].1<r
  ·rw[if_pos h,decide_eq_true (by omega:t[(a+b) / 2].1-r<0)];rfl
  ·rw[if_neg h,decide_eq_false (by omega:¬ t[(a+b) / 2].1-r<0)];rfl
 ·intro rec a ha;simp only[Q110.s0];rw[decide_eq_false (by omega)];simp only[cond_false];by_cases h:a<t.length
  ·rw[decide_eq_true (by omega:(a:Int)<(BB t:Int)),ag h];simp only[cond_true,BA,R _ (BC h)];have:(t[a].1-r==0)=decide (∃ h:a<t.length,t[a].1=r):=by
    rw[CI];simp only[beq_iff_eq,decide_eq_true_eq];exact⟨λe=>⟨h,by omega⟩,λ⟨_,e⟩=>by omega⟩
   rw[this]
  ·rw[decide_eq_false (by omega:¬ (a:Int)<(BB t:Int))];simp only[cond_false,J];rw[decide_eq_false (λ⟨h',_⟩=>h h')]
def fV (n:aa)(t:List ah)(c:List aM)(ds:List bO):aa :=
 (n.1,n.2.1,n.2.2.1,n.2.2.2.1,n.2.2.2.2.1,n.2.2.2.2.2.1,n.2.2.2.2.2.2.1,n.2.2.2.2.2.2.2.1,t,c,n.2.2.2.2.2.2.2.2.2.2.1,ds,n.2.2.2.2.2.2.2.2.2.2.2.2)
def jS (n:aa)(f:ah):Bool:=decide (∃ g∈aa.table n,g.1=f.1/\g.2.1=f.2.1/\g.2.2.1=f.2.2.1)
def sayOf (n:aa)(f:ah)(b:Int):aa :=
 bif (bS (aa.table n) f).2 then fV n (bS (aa.table n) f).1 (dr (aa.cast n) f) (bif jS n f then aa.doubts n else cO n.2.2.2.2.2.1 (aa.doubts n) f b) else n
structure ct (n:aa):Prop where
 table:aB (aa.table n)
 cast:cR (aa.cast n)
 asc:Asc (λd:bO=>d.1) (aa.doubts n)
 inp:∀ d∈aa.doubts n,InP d.1 0 7
 lt:(aa.table n).length<=1048576
 lc:(aa.cast n).length<=1048576
 ld:(aa.doubts n).length<=1048576
theorem sH {n:aa}{f g:ah}(u:Asc (λg:ah=>g.1) (aa.table n))(r:g∈aa.table n)(e:g.1=f.1):jS n f=(g.2.1==f.2.1&&g.2.2.1==f.2.2.1):=by
 rw[CI,jS,decide_eq_true_eq,CA,beq_iff_eq,beq_iff_eq];constructor
 ·rintro⟨x,hx,h1,h2,h3⟩;have:=ij u hx r (by rw[h1,e]);subst this;exact⟨h2,h3⟩
 ·rintro⟨h1,h2⟩;exact⟨g,r,e,h1,h2⟩
theorem sI {n:aa}{f:ah}(h:∀ g∈aa.table n,g.1≠f.1):jS n f=false :=
 decide_eq_false λ⟨g,r,e,_⟩=>h g r e
theorem pG (K:Nat)(n:aa)(f:ah)(b:Int)(h:ct n)(r:1048577<K):Q184.f K (n,f,b,())=some ((sayOf n f b,()),()):=by
 simp only[Q184.f,zcp8];rw[show Q29.f K (n.2.2.2.2.2.2.2.2.1,f,())=_ from put_s K (aa.table n) f h.lt h.table.2 r];simp only[BA];cases I:(bS (aa.table n) f).2 with
 |false =>
  simp only[sayOf,I];rfl
 |true =>
  simp only[sayOf,I,BI,cond_false,cond_true];obtain⟨o,J,M⟩:=fh K (aa.table n) f.1 h.lt r;rw[show Q16.f K (n.2.2.2.2.2.2.2.2.1,f.1,())=_ from M];simp only[BA];have y:=zH K (n.1,n.2.1,n.2.2.1,n.2.2.2.1,n.2.2.2.2.1,n.2.2.2.2.2.1,n.2.2.2.2.2.2.1,n.2.2.2.2.2.2.2.1,(bS (aa.table n) f).1,dr (aa.cast n) f,n.2.2.2.2.2.2.2.2.2.2) f b h.ld h.asc r;have z:=zG K (aa.cast n) f h.lc h.cast.2 r;cases J with
  |at_ i H e =>
   simp only;rw[sH h.table.2 (BC H) e,decide_eq_true (by omega:((i:Nat):Int)>=0)];simp only[cond_true];rw[show idx n.2.2.2.2.2.2.2.2.1 (i:Int)=some (aa.table n)[i] from ag H];simp only[BA];rw[show Q30.f K (n.2.2.2.2.2.2.2.2.2.1,f,())=_ from z];simp only[BA];rw[y];cases (aa.table n)[i].2.1==f.2.1 with
   |true =>
    cases (aa.table n)[i].2.2.1==f.2.2.1 <;> rfl
   |false=>rfl
  |no u =>
   simp only;rw[sI u,decide_eq_false (by omega:¬ (-1:Int)>=0)];simp only[cond_false];rw[show Q30.f K (n.2.2.2.2.2.2.2.2.2.1,f,())=_ from z];simp only[BA];rw[y];rfl
theorem lX {α:Type}{k:α->Int}{xs:List α}(h:Asc k xs)(p:α->Bool):Asc k (xs.filter p):=CO p h
theorem zJ {R:Type}(K:Nat)(r:Int)(ds:List bO)(f:ah)(b:Int)(G:List bO->Option R)(X:ds.length<=1048576)(hA:Asc (λd:bO=>d.1) ds)(Y:∀ d∈ds,InP d.1 0 7)(Z:bm f)(hK:1048577<K) :
  ((Q4.f K (ds,(λH=>(Q109.f K (H.1,f,())).map λy=>y.1.1),())).bind λI=>bif f.2.2.1==2 then ((Q110.f K (I.1.1,f.1,(λM=>(Q111.f K (M.1,M.2.1,())).map λy=>y.1.1),())).bind λy7=>(Q5.f K (I.1.1,y7.1.1,[mkD r f b],())).bind λy8=>G y8.1.1) else G I.1.1)=G (cO r ds f b):=by
 rw[show Q4.f K (ds,(λH=>(Q109.f K (H.1,f,())).map λy=>y.1.1),())=some ((ds.filter (λd=>!(d.1==f.1)),()),()) by
  simp only[Q4.f];exact qX _ X (λd _=>rfl)]
 simp only[BA,cO];by_cases z:f.2.2.1=2
 ·rw[if_pos z,show (f.2.2.1==2)=true by simpa using z];simp only[cond_true];have u:(ds.filter (λd=>!(d.1==f.1))).length<=1048576:=Bt (CB _ _) X;obtain⟨m,O,lo,hi,b',e⟩:=zI K (ds.filter (λd=>!(d.1==f.1))) f.1 u (lX hA _) (λd hd=>Y d (BH.1 hd).1) Z.1 hK;rw[e];simp only[BA];rw[show Q5.f K (ds.filter (λd=>!(d.1==f.1)),(m:Int),[mkD r f b],())=some (((ds.filter (λd=>!(d.1==f.1))).take m++[mkD r f b]++(ds.filter (λd=>!(d.1==f.1))).drop m,()),()) by
   simp only[Q5.f];exact ju O (by omega) u]
  simp only[BA];have:=gq (k:=λd:bO=>d.1) (x:=mkD r f b) O lo (λi h J=>by
   have h1:=hi i h J;have h3:(!((ds.filter (λd=>!(d.1==f.1)))[i].1==f.1))=true:=(BH.1 (BC h)).2;have h4:(ds.filter (λd=>!(d.1==f.1)))[i].1≠f.1:=by simpa using h3
   show f.1<_;omega)
  rw[this];exact congrArg G (ua (k:=λd:bO=>d.1) (x:=mkD r f b))
 ·rw[if_neg z,show (f.2.2.1==2)=false by simpa using z];rfl
theorem zk (K:Nat)(n:aa)(f:ah)(b:Int)(h:ct n)(y:bm f)(u:1048577<K):Q112.f K (n,f,b,())=some ((),(sayOf n f b,())):=by
 simp only[Q112.f,zcp8];have O:∃ g:ah,∃ H,Q74.f K (aa.table n,f.1,())=some ((g,H,()),())/\jS n f=(g.2.2.1==f.2.2.1&&g.2.1==f.2.1):=by
  rcases js K (aa.table n) f.1 h.lt u with ⟨r,_⟩|⟨_,⟨g,X,e,r⟩|⟨J,r⟩⟩
  ·exact absurd h.table r
  ·exact⟨g,_,r,by rw[sH h.table.2 X e,Bool.and_comm]⟩
  ·refine⟨_,_,r,?_⟩;rw[sI J,show ((0:Int)==f.2.2.1)=false by have:=y.2.2.1;simp;omega];rfl
 obtain⟨g,H,r,M⟩:=O;rw[show Q74.f K (n.2.2.2.2.2.2.2.2.1,f.1,())=_ from r];simp only[BA];rw[show Q105.f K (n.2.2.2.2.2.2.2.2.1,f,())=_ from vv K (aa.table n) f h.lt h.table.2 u];simp only[BA];cases z:(bS (aa.table n) f).2 with
 |false =>
  simp only[sayOf,z];rfl
 |true =>
  simp only[sayOf,z,BI,cond_false,cond_true];rw[show Q107.f K (n.2.2.2.2.2.2.2.2.2.1,f,())=_ from wS K (aa.cast n) f h.lc h.cast y u];simp only[BA];have I:=zJ K n.2.2.2.2.2.1 (aa.doubts n) f b (λR=>some ((),(fV n (bS (aa.table n) f).1 (dr (aa.cast n) f) R,()))) h.ld h.asc h.inp y u;rw[M];cases g.2.2.1==f.2.2.1 with
  |true =>
   cases g.2.1==f.2.1 with
   |true=>rfl
   |false=>exact I
  |false=>exact I
theorem iP {α:Type}{k:α->Int}{xs:List α}(h:Asc k xs)(z:∀ x∈xs,InP (k x) 0 7):xs.length<=8:=by
 have:=(i9 (xs.map k) [0,1,2,3,4,5,6,7] (by unfold Asc at h;rw[Bu];exact h) (by decide) (λy r=>by
  obtain⟨x,u,rfl⟩:=BZ.1 r;obtain⟨H,I⟩:=z x u;simp only[B8,Cd,or_false];omega)).1
 rw[BU]at this;exact this
theorem gW (t:List ah)(f:ah):(bS t f).1=t\/(bS t f).1=bw (λg=>g.1) f t:=by
 unfold bS;split
 ·split
  ·exact .inr rfl
  ·exact .inl rfl
 ·exact .inr rfl
theorem ki {t:List ah}{f:ah}(h:aB t)(y:bm f):aB (bS t f).1:=by
 rcases gW t f with e|e
 ·rw[e];exact h
 ·rw[e];refine⟨λg u=>?_,e8 h.2⟩;rcases aZ.1 u with rfl|⟨r,_⟩
  ·exact y
  ·exact h.1 g r
theorem pH {l:List aM}{f:ah}(h:cR l)(y:bm f):cR (dr l f):=by
 unfold dr;split
 ·exact h
 ·refine⟨λx u=>?_,e8 h.2⟩;rcases aZ.1 u with rfl|⟨r,_⟩
  ·exact⟨y,show (1:Int)<=4 by omega,show (4:Int)<=4 by omega⟩
  ·exact h.1 x r
theorem kj {r:Int}{ds:List bO}{f:ah}{b:Int}{d:bO}(h:d∈cO r ds f b):d=mkD r f b\/d∈ds:=by
 unfold cO at h;split at h
 ·rcases aZ.1 h with h|h
  ·exact .inl h
  ·exact .inr h.1
 ·exact .inr (BH.1 h).1
theorem sJ {r:Int}{ds:List bO}{f:ah}{b:Int}(h:Asc (λd:bO=>d.1) ds):Asc (λd:bO=>d.1) (cO r ds f b):=by
 unfold cO;split
 ·exact e8 h
 ·exact lX h _
theorem iG (n:aa)(f:ah)(b:Int):∃ t c r,sayOf n f b=fV n t c r/\(t=aa.table n\/t=(bS (aa.table n) f).1)/\(c=aa.cast n\/c=dr (aa.cast n) f)/\(r=aa.doubts n\/r=cO n.2.2.2.2.2.1 (aa.doubts n) f b):=by
 unfold sayOf;cases (bS (aa.table n) f).2 with
 |false=>exact⟨aa.table n,aa.cast n,aa.doubts n,rfl,.inl rfl,.inl rfl,.inl rfl⟩
 |true =>
  cases jS n f with
  |true=>exact⟨_,_,_,rfl,.inr rfl,.inr rfl,.inl rfl⟩
  |false=>exact⟨_,_,_,rfl,.inr rfl,.inr rfl,.inr rfl⟩
theorem ct.mk' {n:aa}(r:aB (aa.table n))(u:cR (aa.cast n))(y:Asc (λd:bO=>d.1) (aa.doubts n))(z:∀ d∈aa.doubts n,InP d.1 0 7):ct n where
 table:=r
 cast:=u
 asc:=y
 inp:=z
 lt:=Bt (iP r.2 (λg H=>(r.1 g H).1)) (by decide)
 lc:=Bt (iP u.2 (λx I=>(u.1 x I).1.1)) (by decide)
 ld:=Bt (iP y z) (by decide)
theorem im {n:aa}{f:ah}{b:Int}(h:ct n)(u:bm f):ct (sayOf n f b):=by
 obtain⟨t,c,y,e,H,I,z⟩:=iG n f b;rw[e];refine ct.mk' ?_ ?_ ?_ ?_
 ·show aB t;rcases H with rfl|rfl
  ·exact h.table
  ·exact ki h.table u
 ·show cR c;rcases I with rfl|rfl
  ·exact h.cast
  ·exact pH h.cast u
 ·show Asc _ y;rcases z with rfl|rfl
  ·exact h.asc
  ·exact sJ h.asc
 ·show ∀ d∈y,InP d.1 0 7;rcases z with rfl|rfl
  ·exact h.inp
  ·intro d r;rcases kj r with rfl|r
   ·exact u.1
   ·exact h.inp d r
theorem yk {n:aa}{f:ah}{b:Int}(h:∀ d∈aa.doubts n,d.2.2.2.length<=1048576):∀ d∈aa.doubts (sayOf n f b),d.2.2.2.length<=1048576:=by
 obtain⟨t,c,u,e,_,_,y⟩:=iG n f b;rw[e];show ∀ d∈u,_;rcases y with rfl|rfl
 ·exact h
 ·intro d r;rcases kj r with rfl|r
  ·exact Nat.succ_le_of_lt (by decide)
  ·exact h d r
theorem UpP.say {n:aa}(h:UpP n):ct n:=by
 obtain⟨u,_,_,⟨z,_⟩,_,r,_⟩:=h;refine ct.mk' u z r.2.1 λd y=>?_
 obtain⟨f,H,e,_⟩:=(r.1 d y).1;rw[<- e];exact (u.1 f H).1
theorem qq {α β A R:Type}(t:List α)(p:α->Bool)(g:α->β)(S:List β->Nat->A)(u:List β->Option R){step:(A->Option R)->A->Option R}
  (h:∀ (rec:A->Option R) (r:List β) (i:Nat) (M:i<t.length),r.length<=i->step rec (S r i)=rec (S (bif p t[i] then r++[g t[i]] else r) (i+1)))
  (y:∀ (rec:A->Option R) (r:List β),r.length<=t.length->step rec (S r t.length)=u r) {k:Nat} (I:t.length<k) :
  af step k (S [] 0)=u ((t.filter p).map g):=by
 have:∀ (d i k:Nat) (r:List β),i+d=t.length->d<k->r.length<=i->af step k (S r i)=u (r++((t.drop i).filter p).map g):=by
  intro d;induction d with
  |zero =>
   intro i k r M I H;obtain⟨k,rfl⟩:∃ J,k=J+1:=⟨k-1,by omega⟩;have:i=t.length:=by omega
   subst this;show step (af step k) _=_;rw[y _ _ H];simp
  |succ d O =>
   intro i k r M I H;obtain⟨k,rfl⟩:∃ J,k=J+1:=⟨k-1,by omega⟩;have z:i<t.length:=by omega
   show step (af step k) _=_;rw[h _ _ _ z H,BL z,BV];cases p t[i] with
   |true =>
    simp only[cond_true,if_true,Ck];rw[O (i+1) k _ (by omega) (by omega) (by simp;omega),B7];rfl
   |false =>
    simp only[cond_false];rw[O (i+1) k _ (by omega) (by omega) (by omega)];rfl
 have:=this t.length 0 k [] (by omega) I (BR _)
 rwa [Bq,BO]at this
def sK:aa:=(0,false,false,false,0,0,0,0,[],[],(0,0,0,false),[],(0,0,0,0),[],[])
theorem ub:NB sK where
 table:=BX _
 cast:=BX _
 doubts:=BX _
 by_:=λd r=>absurd r Cd
 places:=BX _
 trips:=λd r=>absurd r Cd
 others:=BX _
 facts:=λd r=>absurd r Cd
theorem szw (a b c:Nat)(r:c<=128)(h:a+b<=2097152):decide ((a+b)*c<=ao)=true:=by
 have:=CW h r;exact decide_eq_true (by unfold ao;omega)
def kA (n:aa):aa:=(n.1,n.2.1,true,n.2.2.2)
def nL (r:Int)(n:aa)(to:Int):ak:=(1,r,n.1,to,0,n.1,aa.coord n,aa.table n)
theorem zK (K:Nat)(n:aa)(r to:Int)(u:(aa.table n).length<=1048576):Q142.f K (n,r,to,())=some ((nL r n to,()),()):=by
 simp only[Q142.f,zcp4,Q121.f,BA,Q0.f];rw[dY (by show (aa.table n).length*_<=_;omega)];rfl
theorem nM (K:Nat)(n:aa)(r to:Int)(u:(aa.table n).length<=1048576):Q41.f K (n,r,to,0,n.1,aa.table n,())=some ((nL r n to,()),()):=by
 simp only[Q41.f];rw[szb _ _ _ (by omega) (by show (BB ([]:List ah))+(aa.table n).length<=_;simp;omega)];rfl
def eA (f:ah):Bool:=f.2.2.1==1||f.2.2.1==2
theorem uI (K:Nat)(t:List ah)(f:ah)(H:aB t)(y:t.length<=1048576)(u:f∈t)(z:1048577<K):Q187.f K (t,f.1,())=rb (eA f):=by
 simp only[Q187.f];obtain⟨o,I,J⟩:=fh K t f.1 y z;rw[J];simp only[BA];cases I with
 |at_ i r e =>
  simp only;rw[decide_eq_true (by omega:((i:Nat):Int)>=0),ag r];simp only[cond_true,BA];rw[ij H.2 (BC r) u e,eA];cases f.2.2.1==1 <;> rfl
 |no h=>exact absurd rfl (h f u)
def sL (n:aa)(f:ah):Bool:=f.1 != n.1&&eA f
def lv (n:aa):List ak:=((aa.table n).filter (sL n)).map λf=>nL 5 n f.1
def mM (n:aa):aa:=kA (sayOf n (n.1,n.2.2.2.2.1,4,n.2.2.2.1) n.1)
theorem sM (K:Nat)(x:ac Q200.ps)(m:aa)(I:aB (aa.table m))(u:(aa.table m).length<=1048576)(H:1048577<K) :
  Q200.l0 K x ([],0,m.1,m.2.1,m.2.2.2.1,m.2.2.2.2.1,m.2.2.2.2.2.1,m.2.2.2.2.2.2.1,m.2.2.2.2.2.2.2.1,m.2.2.2.2.2.2.2.2.1,m.2.2.2.2.2.2.2.2.2.1,m.2.2.2.2.2.2.2.2.2.2.1.1,m.2.2.2.2.2.2.2.2.2.2.1.2.1,m.2.2.2.2.2.2.2.2.2.2.1.2.2.1,m.2.2.2.2.2.2.2.2.2.2.1.2.2.2,m.2.2.2.2.2.2.2.2.2.2.2.1,m.2.2.2.2.2.2.2.2.2.2.2.2.1.1,m.2.2.2.2.2.2.2.2.2.2.2.2.1.2.1,m.2.2.2.2.2.2.2.2.2.2.2.2.1.2.2.1,m.2.2.2.2.2.2.2.2.2.2.2.2.1.2.2.2,m.2.2.2.2.2.2.2.2.2.2.2.2.2.1,m.2.2.2.2.2.2.2.2.2.2.2.2.2.2)=some ((kA m,lv (kA m),()),()):=by
 refine qq (step:=λrec a=>Q200.s0 K x rec a) (aa.table m) (sL (kA m)) (λf=>nL 5 (kA m) f.1) (λr i=>(r,(i:Int),m.1,m.2.1,m.2.2.2.1,m.2.2.2.2.1,m.2.2.2.2.2.1,m.2.2.2.2.2.2.1,m.2.2.2.2.2.2.2.1,m.2.2.2.2.2.2.2.2.1,m.2.2.2.2.2.2.2.2.2.1,m.2.2.2.2.2.2.2.2.2.2.1.1,m.2.2.2.2.2.2.2.2.2.2.1.2.1,m.2.2.2.2.2.2.2.2.2.2.1.2.2.1,m.2.2.2.2.2.2.2.2.2.2.1.2.2.2,m.2.2.2.2.2.2.2.2.2.2.2.1,m.2.2.2.2.2.2.2.2.2.2.2.2.1.1,m.2.2.2.2.2.2.2.2.2.2.2.2.1.2.1,m.2.2.2.2.2.2.2.2.2.2.2.2.1.2.2.1,m.2.2.2.2.2.2.2.2.2.2.2.2.1.2.2.2,m.2.2.2.2.2.2.2.2.2.2.2.2.2.1,m.2.2.2.2.2.2.2.2.2.2.2.2.2.2)) (λJ=>some ((kA m,J,()),())) ?_ ?_ (by omega)
 ·intro rec r i y z;simp only[Q200.s0,zceae5f];rw[show decide ((i:Int)<(BB m.2.2.2.2.2.2.2.2.1:Int))=true from bo (by omega:(i:Int)<(BB (aa.table m):Int)),show idx m.2.2.2.2.2.2.2.2.1 (i:Int)=some (aa.table m)[i] from ag y,au i (by omega)];simp only[cond_true,BA,sL];rw[show (kA m).1=m.1 from rfl];cases M:(aa.table m)[i].1 != m.1 with
  |false=>rfl
  |true =>
   simp only[cond_true,B5];rw[show Q187.f K (m.2.2.2.2.2.2.2.2.1,(aa.table m)[i].1,())=_ from uI K (aa.table m) _ I u (BC y) H];simp only[BA];cases eA (aa.table m)[i] with
   |false=>rfl
   |true =>
    simp only[cond_true];refine (congrArg (λo=>BS o _) (nM K (kA m) 5 (aa.table m)[i].1 u)).trans ?_;simp only[BA];rw[szw _ _ _ (by omega) (by simp;omega)];rfl
 ·intro rec r z;simp only[Q200.s0,zceae5f];rw[show decide ((BB (aa.table m):Int)<(BB m.2.2.2.2.2.2.2.2.1:Int))=false from aS _];rfl
theorem vw {n:aa}(r:fE n):bm (n.1,n.2.2.2.2.1,4,n.2.2.2.1):=⟨r.1,r.2.2.2.2.1,show (1:Int)<=4 by omega,show (4:Int)<=4 by omega⟩
theorem zL (K:Nat)(n:aa)(J:NB n)(z:fE n)(u:n.2.1=true)(I:n.2.2.1=false)(H:1048577<K):Q200.f K (n,())=some ((mM n,lv (mM n),()),()):=by
 have r:=(z.up u).say;have y:=im (b:=n.1) r (vw z);simp only[Q200.f,Q200.pre];rw[u,I];simp only[BI,cond_false];rw[pG K n _ n.1 r H];exact sM K _ _ y.table y.lt H
theorem kD {α r A R:Type}(ds:List α)(st:r->α->r)(Inv:r->Prop)(S:r->Nat->A)(u:r->Option R){step:(A->Option R)->A->Option R}(n:r)(X:Inv n)
  (h:∀ (rec:A->Option R) (m:r) (i:Nat) (M:i<ds.length),Inv m->step rec (S m i)=rec (S (st m ds[i]) (i+1))/\Inv (st m ds[i]))
  (y:∀ (rec:A->Option R) (m:r),Inv m->step rec (S m ds.length)=u m) {k:Nat} (I:ds.length<k):af step k (S n 0)=u (ds.foldl st n):=by
 have:∀ (d i k:Nat) (m:r),i+d=ds.length->d<k->Inv m->af step k (S m i)=u ((ds.drop i).foldl st m):=by
  intro d;induction d with
  |zero =>
   intro i k m M I H;obtain⟨k,rfl⟩:∃ J,k=J+1:=⟨k-1,by omega⟩;have:i=ds.length:=by omega
   subst this;show step (af step k) _=_;rw[y _ _ H,Cc];rfl
  |succ d Y =>
   intro i k m M I H;obtain⟨k,rfl⟩:∃ J,k=J+1:=⟨k-1,by omega⟩;have z:i<ds.length:=by omega
   show step (af step k) _=_;obtain⟨O,Z⟩:=h (af step k) m i z H;rw[O,BL z];exact Y (i+1) k _ (by omega) (by omega) Z
 have:=this ds.length 0 k n (by omega) I X
 rwa [Bq]at this
theorem lY {α r:Type}{st:r->α->r}{Inv:r->Prop}:∀ {ds:List α} {n:r},Inv n->(∀ m,∀ d∈ds,Inv m->Inv (st m d))->Inv (ds.foldl st n)
 |[],_,h,_=>h
 |d::ds,n,h,y=>lY (ds:=ds) (y n d (by simp) h) (λm z u=>y m z (by simp[u]))
def aQ (t:List ah)(r:Int):ah:=(t.find? λg=>g.1==r).getD (0,0,0,false)
theorem jv {t:List ah}(r:Asc (λg:ah=>g.1) t){f:ah}(y:f∈t):aQ t f.1=f:=by
 obtain⟨i,u,e⟩:=BJ y;unfold aQ;rw[show t.find? (λg=>g.1==f.1)=some t[i] from oU r u (by rw[e]),e];rfl
theorem jx {t:List ah}{r:Int}(h:∀ g∈t,g.1≠r):aQ t r=(0,0,0,false):=by
 unfold aQ;rw[show t.find? (λg=>g.1==r)=none from nK h];rfl
theorem mN (K:Nat)(t:List ah)(r:Int)(y:aB t)(z:t.length<=1048576)(J:1048577<K):∃ b,Q74.f K (t,r,())=some ((aQ t r,b,()),()):=by
 rcases js K t r z J with ⟨u,_⟩|⟨_,⟨g,I,e,u⟩|⟨H,u⟩⟩
 ·exact absurd y u
 ·refine⟨true,?_⟩;rw[u,<- e,jv y.2 I]
 ·refine⟨false,?_⟩;rw[u,jx H]
theorem sN (K:Nat)(t:List ah)(r:Int)(H:aB t)(z:t.length<=1048576)(I:1048577<K):Q187.f K (t,r,())=rb (eA (aQ t r)):=by
 by_cases h:∃ f∈t,f.1=r
 ·obtain⟨f,y,rfl⟩:=h;rw[uI K t f H z y I,jv H.2 y]
 ·have u:∀ g∈t,g.1≠r:=λg R e=>h ⟨g,R,e⟩
  simp only[Q187.f];obtain⟨o,O,J⟩:=fh K t r z I;rw[J,jx u];cases O with
  |at_ i M e=>exact absurd e (u _ (BC M))
  |no _=>rfl
theorem iQ (n:aa)(f:ah)(b:Int):(sayOf n f b).1=n.1/\(sayOf n f b).2.1=n.2.1/\(sayOf n f b).2.2.1=n.2.2.1/\(sayOf n f b).2.2.2.1=n.2.2.2.1/\(sayOf n f b).2.2.2.2.1=n.2.2.2.2.1/\(sayOf n f b).2.2.2.2.2.1=n.2.2.2.2.2.1/\(sayOf n f b).2.2.2.2.2.2.1=n.2.2.2.2.2.2.1/\(sayOf n f b).2.2.2.2.2.2.2.1=n.2.2.2.2.2.2.2.1/\aa.probe (sayOf n f b)=aa.probe n/\(sayOf n f b).2.2.2.2.2.2.2.2.2.2.2.2=n.2.2.2.2.2.2.2.2.2.2.2.2:=by
 obtain⟨t,c,r,e,_⟩:=iG n f b;rw[e];exact⟨rfl,rfl,rfl,rfl,rfl,rfl,rfl,rfl,rfl,rfl⟩
theorem mO {t:List ah}{f g:ah}(r:g∈t):∃ u∈(bS t f).1,u.1=g.1:=by
 rcases gW t f with e|e
 ·rw[e];exact⟨g,r,rfl⟩
 ·rw[e];by_cases h:g.1=f.1
  ·exact⟨f,aZ.2 (.inl rfl),h.symm⟩
  ·exact⟨g,aZ.2 (.inr ⟨r,h⟩),rfl⟩
theorem jy {n:aa}{f:ah}{b:Int}{g:ah}(r:g∈aa.table n):∃ u∈aa.table (sayOf n f b),u.1=g.1:=by
 obtain⟨t,c,z,e,y,_⟩:=iG n f b;rw[e];rcases y with rfl|rfl
 ·exact⟨g,r,rfl⟩
 ·exact mO r
def qr (u r:Int)(len:Nat):Bool:=decide (u-r>=if 6-(len:Int)+1<3 then 3 else 6-(len:Int)+1)
def kE (f:ah):ah:=(f.1,f.2.1,3,f.2.2.2)
def ip (n:aa)(d:bO):aa:=bif qr n.2.2.2.2.2.1 d.2.2.1 d.2.2.2.length then sayOf n (kE (aQ (aa.table n) d.1)) n.1 else n
def kk (n:aa):aa:=(aa.doubts n).foldl ip n
theorem due_s (K:Nat)(r:Int)(d:bO)(y:0<=d.2.2.1)(u:d.2.2.1<=r)(z:r<=1000000)(H:d.2.2.2.length<=1048576):Q185.f K (r,d,())=rb (qr r d.2.2.1 d.2.2.2.length):=by
 simp only[Q185.f];rw[aK (n:=6-(BB d.2.2.2:Int)) (by omega) (by omega),aK (n:=6-(BB d.2.2.2:Int)+1) (by omega) (by omega),aK (n:=r-d.2.2.1) (by omega) (by omega)];unfold qr;by_cases h:6-(BB d.2.2.2:Int)+1<3
 ·rw[decide_eq_true h,if_pos h];rfl
 ·rw[decide_eq_false h,if_neg h];rfl
structure pI (ds:List bO) (now:Int) (n:aa):Prop where
 ok:ct n
 key:∀ d∈ds,∃ f∈aa.table n,f.1=d.1
 now_:n.2.2.2.2.2.1=now
theorem uJ {f:ah}(h:bm f):bm (kE f):=⟨h.1,h.2.1,show (1:Int)<=3 by omega,show (3:Int)<=4 by omega⟩
theorem el {t:List ah}{r:Int}(y:aB t)(h:∃ f∈t,f.1=r):bm (aQ t r)/\(aQ t r).1=r/\aQ t r∈t:=by
 obtain⟨f,u,rfl⟩:=h;rw[jv y.2 u];exact⟨y.1 f u,rfl,u⟩
theorem uc {ds:List bO}{r:Int}{n:aa}{d:bO}(h:pI ds r n)(H:d∈ds):pI ds r (ip n d):=by
 unfold ip;cases qr n.2.2.2.2.2.1 d.2.2.1 d.2.2.2.length with
 |false=>exact h
 |true =>
  have O:=uJ (el h.ok.table (h.key d H)).1;refine⟨im h.ok O,λJ y=>?_,(iQ n _ _).2.2.2.2.2.1.trans h.now_⟩;obtain⟨g,M,e⟩:=h.key J y;obtain⟨I,u,z⟩:=jy (f:=kE (aQ (aa.table n) d.1)) (b:=n.1) M;exact⟨I,u,z.trans e⟩
theorem AC (K:Nat)(n:aa)(h:pI (aa.doubts n) n.2.2.2.2.2.1 n)(Z:∀ d∈aa.doubts n,0<=d.2.2.1/\d.2.2.1<=n.2.2.2.2.2.1/\d.2.2.2.length<=1048576)(z:n.2.2.2.2.2.1<=1000000)(R:1048577<K):Q186.f K (n,())=some ((kk n,()),()):=by
 have hl:=h.ok.ld;refine kD (step:=λrec a=>Q186.s0 K (n,()) rec a) (aa.doubts n) ip (pI (aa.doubts n) n.2.2.2.2.2.1) (λm i=>((i:Int),m.1,m.2.1,m.2.2.1,m.2.2.2.1,m.2.2.2.2.1,m.2.2.2.2.2.1,m.2.2.2.2.2.2.1,m.2.2.2.2.2.2.2.1,m.2.2.2.2.2.2.2.2.1,m.2.2.2.2.2.2.2.2.2.1,m.2.2.2.2.2.2.2.2.2.2.1.1,m.2.2.2.2.2.2.2.2.2.2.1.2.1,m.2.2.2.2.2.2.2.2.2.2.1.2.2.1,m.2.2.2.2.2.2.2.2.2.2.1.2.2.2,m.2.2.2.2.2.2.2.2.2.2.2.1,m.2.2.2.2.2.2.2.2.2.2.2.2.1.1,m.2.2.2.2.2.2.2.2.2.2.2.2.1.2.1,m.2.2.2.2.2.2.2.2.2.2.2.2.1.2.2.1,m.2.2.2.2.2.2.2.2.2.2.2.2.1.2.2.2,m.2.2.2.2.2.2.2.2.2.2.2.2.2.1,m.2.2.2.2.2.2.2.2.2.2.2.2.2.2)) (λm=>some ((m,()),())) n h ?_ ?_ (by omega)
 ·intro rec m i H u;refine⟨?_,uc u (BC H)⟩;simp only[Q186.s0,zc286a0,zc3ec45];obtain⟨O,I,J⟩:=Z _ (BC H);rw[show decide ((i:Int)<(BB n.2.2.2.2.2.2.2.2.2.2.2.1:Int))=true from bo (by omega:(i:Int)<(BB (aa.doubts n):Int)),show idx n.2.2.2.2.2.2.2.2.2.2.2.1 (i:Int)=some (aa.doubts n)[i] from ag H,au i (by omega)];simp only[cond_true,BA];rw[due_s K m.2.2.2.2.2.1 (aa.doubts n)[i] O (by rw[u.now_];exact I) (by rw[u.now_];exact z) J];simp only[BA];have r:=u.key _ (BC H);generalize (aa.doubts n)[i]=d at r O I J ⊢;unfold ip;cases qr m.2.2.2.2.2.1 d.2.2.1 d.2.2.2.length with
  |false=>rfl
  |true =>
   simp only[cond_true];have y:=el u.ok.table r;obtain⟨o,ho,X⟩:=fh K (aa.table m) d.1 u.ok.lt R;rw[show Q16.f K (m.2.2.2.2.2.2.2.2.1,d.1,())=_ from X];simp only[BA];cases ho with
   |no h=>exact absurd r (λ⟨f,Y,e⟩=>h f Y e)
   |at_ j M e =>
    simp only;rw[show idx m.2.2.2.2.2.2.2.2.1 ((j:Nat):Int)=some (aa.table m)[j] from ag M,ij u.ok.table.2 (BC M) y.2.2 (by rw[e,y.2.1])];simp only[BA];refine (congrArg (λo=>BS o _) (pG K m (kE (aQ (aa.table m) d.1)) m.1 u.ok R)).trans ?_;rfl
 ·intro rec m u;simp only[Q186.s0,zc286a0,zc3ec45];rw[show decide ((BB (aa.doubts n):Int)<(BB n.2.2.2.2.2.2.2.2.2.2.2.1:Int))=false from aS _];rfl
def setP (n:aa)(p:ah):aa:=(n.1,n.2.1,n.2.2.1,n.2.2.2.1,n.2.2.2.2.1,n.2.2.2.2.2.1,n.2.2.2.2.2.2.1,n.2.2.2.2.2.2.2.1,n.2.2.2.2.2.2.2.2.1,n.2.2.2.2.2.2.2.2.2.1,p,n.2.2.2.2.2.2.2.2.2.2.2)
def noP:ah:=(-1,0,0,false)
def pJ (f:ah):ah:=(f.1,f.2.1,2,f.2.2.2)
def vz (n:aa)(f:ah):Bool:=f.2.2.1==1&&f.1 != n.1&&f.1 != (aa.probe n).1
def fy (n:aa):List Int:=(((aa.table n).filter (vz n)).map (·.1)).take 2
def askW (n:aa)(to:Int):ak:=(1,3,n.1,to,(aa.probe n).2.2.1,(aa.probe n).1,aa.coord n,[])
def lw (n:aa):aa:=setP n ((aa.probe n).1,(aa.probe n).2.1,(aa.probe n).2.2.1,true)
def dl (n:aa):aa×List ak :=
 bif (aa.probe n).1==-1 then (n,[]) else
 bif !eA (aQ (aa.table n) (aa.probe n).1) then (setP n noP,[]) else
 bif decide (n.2.2.2.2.2.1-(aa.probe n).2.1>=4) then (bif (aQ (aa.table n) (aa.probe n).1).2.2.1==1 then sayOf (setP n noP) (pJ (aQ (aa.table n) (aa.probe n).1)) n.1 else setP n noP,[]) else
 bif decide (n.2.2.2.2.2.1-(aa.probe n).2.1>=2) then (bif !(aa.probe n).2.2.2 then (lw n,(fy n).map (askW n)) else (n,[])) else (n,[])
theorem ct.setP {n:aa}(h:ct n)(p:ah):ct (setP n p):=⟨h.table,h.cast,h.asc,h.inp,h.lt,h.lc,h.ld⟩
theorem zM {f:ah}(h:bm f):bm (pJ f):=⟨h.1,h.2.1,show (1:Int)<=2 by omega,show (2:Int)<=4 by omega⟩
theorem gX {t:List ah}{r:Int}(h:eA (aQ t r)=true):∃ f∈t,f.1=r:=by
 by_cases u:∃ f∈t,f.1=r
 ·exact u
 ·rw[jx (λg y e=>u ⟨g,y,e⟩)]at h;simp[eA]at h
theorem wT (K:Nat)(n:aa)(I:(aa.table n).length<=1048576)(J:1048577<K):Q188.f K (n,())=some ((fy n,()),()):=by
 have:=kS (step:=λrec a=>Q188.s0 K (n,()) rec a) (aa.table n) (vz n) (λf=>f.1) 2 (λH=>some ((H,()),())) ?_ ?_ ?_ (aa.table n).length 0 K [] (by omega) (by omega) (BR _) (by simp)
 ·exact this
 ·intro rec r i u y z;simp only[Q188.s0];rw[show decide ((i:Int)<(BB n.2.2.2.2.2.2.2.2.1:Int))=true from bo (by omega:(i:Int)<(BB (aa.table n):Int)),show idx n.2.2.2.2.2.2.2.2.1 (i:Int)=some (aa.table n)[i] from ag u,au i (by omega),decide_eq_true (by omega:(BB r:Int)<2)];simp only[cond_true,BA,vz];show (bif (aa.table n)[i].1 != n.1 then (bif (aa.table n)[i].1 != (aa.probe n).1 then (bif (aa.table n)[i].2.2.1==1 then (bif decide ((BB r+BB ([(aa.table n)[i].1]))*8<=ao) then (rec (r++([(aa.table n)[i].1]),((i+1:Nat):Int))) else none) else (rec (r,((i+1:Nat):Int)))) else (rec (r,((i+1:Nat):Int)))) else (rec (r,((i+1:Nat):Int))))=_;rw[szb _ _ _ (by omega) (by simp;omega)];cases (aa.table n)[i].1 != n.1 <;> cases (aa.table n)[i].1 != (aa.probe n).1 <;> cases (aa.table n)[i].2.2.1==1 <;> rfl
 ·intro rec r i u y z;simp only[Q188.s0];rw[show decide ((i:Int)<(BB n.2.2.2.2.2.2.2.2.1:Int))=true from bo (by omega:(i:Int)<(BB (aa.table n):Int)),decide_eq_false (by omega:¬ (BB r:Int)<2)];rfl
 ·intro rec r _;simp only[Q188.s0];rw[show decide ((BB (aa.table n):Int)<(BB n.2.2.2.2.2.2.2.2.1:Int))=false from aS _];rfl
theorem AD (K:Nat)(n:aa)(h:ct n)(X:(aa.probe n).1≠-1)(h0:0<=(aa.probe n).2.1)(h1:(aa.probe n).2.1<=1000000)(R:0<=n.2.2.2.2.2.1)(a0:n.2.2.2.2.2.1<=1000000)(y:1048577<K) :
  Q189.f K (n,())=some (((dl n).1,(dl n).2,()),()):=by
 simp only[Q189.f,Q189.pre,zcp8,dl];rw[show ((aa.probe n).1==-1)=false by simpa using X];simp only[cond_false];rw[show Q187.f K (n.2.2.2.2.2.2.2.2.1,n.2.2.2.2.2.2.2.2.2.2.1.1,())=_ from sN K (aa.table n) (aa.probe n).1 h.table h.lt y];simp only[BA];cases J:eA (aQ (aa.table n) (aa.probe n).1) with
 |false=>rfl
 |true =>
  have u:=el h.table (gX J);simp only[BI,cond_false];rw[aK (n:=n.2.2.2.2.2.1-n.2.2.2.2.2.2.2.2.2.2.1.2.1) (by show -9223372036854775808<=n.2.2.2.2.2.1-(aa.probe n).2.1;omega) (by show n.2.2.2.2.2.1-(aa.probe n).2.1<=9223372036854775807;omega)];show (bif decide (n.2.2.2.2.2.1-(aa.probe n).2.1>=4) then _ else _)=_;cases decide (n.2.2.2.2.2.1-(aa.probe n).2.1>=4) with
  |true =>
   simp only[cond_true];obtain⟨o,ho,Y⟩:=fh K (aa.table n) (aa.probe n).1 h.lt y;rw[show Q16.f K (n.2.2.2.2.2.2.2.2.1,n.2.2.2.2.2.2.2.2.2.2.1.1,())=_ from Y];simp only[BA];cases ho with
   |no z=>exact absurd (gX J) (λ⟨f,u,e⟩=>z f u e)
   |at_ j O e =>
    simp only;rw[show idx n.2.2.2.2.2.2.2.2.1 ((j:Nat):Int)=some (aa.table n)[j] from ag O,ij h.table.2 (BC O) u.2.2 (by rw[e,u.2.1])];simp only[BA];cases (aQ (aa.table n) (aa.probe n).1).2.2.1==1 with
    |true =>
     simp only[cond_true];refine (congrArg (λo=>BS o _) (pG K (setP n noP) (pJ (aQ (aa.table n) (aa.probe n).1)) n.1 (h.setP noP) y)).trans ?_;rfl
    |false=>rfl
  |false =>
   simp only[cond_false];show (bif decide (n.2.2.2.2.2.1-(aa.probe n).2.1>=2) then _ else _)=_;cases decide (n.2.2.2.2.2.1-(aa.probe n).2.1>=2) with
   |false=>rfl
   |true =>
    simp only[cond_true];show (bif !(aa.probe n).2.2.2 then _ else _)=_;cases M:(aa.probe n).2.2.2 with
    |true=>rfl
    |false =>
     simp only[Br,cond_true];refine (congrArg (λo=>BS o _) (wT K (lw n) h.lt y)).trans ?_;simp only[BA];rw[show fy (lw n)=fy n from rfl];have I:(fy n).length<=2:=CT _ _;refine Cm (qq (step:=λrec a=>Q189.s0 K (n,()) rec a) (fy n) (λ_=>true) (askW n) (λr i=>(r,fy n,(i:Int))) (λZ=>some ((lw n,Z,()),())) ?_ ?_ (by omega)) (by rw[BT.2 (λ_ _=>rfl)])
     ·intro rec r i H ha;simp only[Q189.s0,zcp8];rw[bo (by omega:(i:Int)<(BB (fy n):Int)),ag H,au i (by omega),BE,ag H];simp only[cond_true,BA,Q41.f];rw[szb _ _ _ (by omega) (by simp)];simp only[cond_true,BA];rw[szw _ _ _ (by omega) (by simp;omega)];rfl
     ·intro rec r ha;simp only[Q189.s0,zcp8,aS];rfl
def gr (n:aa)(i:Int):aa:=(n.1,n.2.1,n.2.2.1,n.2.2.2.1,i,n.2.2.2.2.2)
def eB (n:aa)(f:ah):aa:=bif decide (bI f (aQ (aa.table n) n.1))&&decide (f.2.1<999) then sayOf (gr n (f.2.1+1)) (n.1,f.2.1+1,1,n.2.2.2.1) n.1 else n
def dL (f:ah)(b:Int)(d:bO):bO:=bif d.1==f.1&&d.2.1==f.2.1&&f.2.2.1==2 then (d.1,d.2.1,d.2.2.1,bw (λx:Int=>x) b d.2.2.2) else d
def jz (n:aa)(f:ah)(b:Int):aa:=fV n (aa.table n) (aa.cast n) ((aa.doubts n).map (dL f b))
def dv (b:Int)(n:aa)(f:ah):aa:=bif f.1==n.1 then eB n f else jz (sayOf n f b) f b
def gM (n:aa)(t:List ah)(b:Int):aa:=t.foldl (dv b) n
def kU (l:List Int):Prop:=Asc (λx:Int=>x) l/\∀ x∈l,InP x 0 7
theorem kU.len {l:List Int}(h:kU l):l.length<=8:=iP h.1 h.2
theorem kU.put {l:List Int}{b:Int}(h:kU l)(u:InP b 0 7):kU (bw (λx:Int=>x) b l) :=
 ⟨e8 h.1,λx r=>by
  rcases aZ.1 r with rfl|⟨r,_⟩
  ·exact u
  ·exact h.2 x r⟩
structure dt (n:aa):Prop where
 say:ct n
 me:InP n.1 0 7
 has:∃ g∈aa.table n,g.1=n.1
 by_:∀ d∈aa.doubts n,kU d.2.2.2
theorem ct.inc {n:aa}(h:ct n)(i:Int):ct (gr n i):=⟨h.table,h.cast,h.asc,h.inp,h.lt,h.lc,h.ld⟩
theorem jT {n:aa}{f:ah}{b:Int}(z:InP b 0 7)(h:∀ d∈aa.doubts n,kU d.2.2.2):∀ d∈aa.doubts (sayOf n f b),kU d.2.2.2:=by
 obtain⟨t,c,u,e,_,_,y⟩:=iG n f b;rw[e];intro d r;have r:d∈u:=r;rcases y with rfl|rfl
 ·exact h d r
 ·rcases kj r with rfl|r
  ·exact⟨Cn _ _,λx H=>by rw[Bv.1 H];exact z⟩
  ·exact h d r
theorem qs {n:aa}{f:ah}(r:InP n.1 0 7)(u:bm f)(h:f.2.1<999):bm (n.1,f.2.1+1,1,n.2.2.2.1):=by
 obtain⟨_,⟨y,z⟩,_⟩:=u;exact⟨r,⟨show (0:Int)<=f.2.1+1 by omega,show f.2.1+1<=999 by omega⟩,show (1:Int)<=1 by omega,show (1:Int)<=4 by omega⟩
theorem dt.refute {n:aa}{f:ah}(h:dt n)(M:bm f):dt (eB n f):=by
 unfold eB;cases z:decide (bI f (aQ (aa.table n) n.1))&&decide (f.2.1<999) with
 |false=>exact h
 |true =>
  have I:f.2.1<999:=by
   rw[CA]at z;exact of_decide_eq_true z.2
  obtain⟨u,_⟩:=iQ (gr n (f.2.1+1)) (n.1,f.2.1+1,1,n.2.2.2.1) n.1;refine⟨im (h.say.inc _) (qs h.me M I),?_,?_,jT h.me h.by_⟩
  ·show InP (sayOf (gr n (f.2.1+1)) (n.1,f.2.1+1,1,n.2.2.2.1) n.1).1 0 7;rw[u];exact h.me
  ·obtain⟨g,J,e⟩:=h.has;obtain⟨y,r,H⟩:=jy (n:=gr n (f.2.1+1)) (f:=(n.1,f.2.1+1,1,n.2.2.2.1)) (b:=n.1) (g:=g) J;refine⟨y,r,?_⟩;show y.1=(sayOf (gr n (f.2.1+1)) (n.1,f.2.1+1,1,n.2.2.2.1) n.1).1;rw[u,H,e];rfl
theorem dt.confirm {n:aa}{f:ah}{b:Int}(h:dt n)(Y:bm f)(R:InP b 0 7):dt (jz (sayOf n f b) f b):=by
 have u:=im (b:=b) h.say Y;obtain⟨M,_⟩:=iQ n f b;have z:=jT (f:=f) R h.by_;obtain⟨g,Z,e⟩:=h.has;obtain⟨O,H,X⟩:=jy (n:=n) (f:=f) (b:=b) Z;have J:∀ d,(dL f b d).1=d.1:=λd=>by unfold dL;cases d.1==f.1&&d.2.1==f.2.1&&f.2.2.1==2 <;> rfl
 refine⟨⟨u.table,u.cast,?_,λd I=>?_,u.lt,u.lc,?_⟩,?_,⟨O,H,?_⟩,λd I=>?_⟩
 ·show Asc (λd:bO=>d.1) ((aa.doubts (sayOf n f b)).map (dL f b));unfold Asc;rw[Bu];exact u.asc.imp λ {a c} h=>by show (dL f b a).1<(dL f b c).1;rw[J,J];exact h
 ·obtain⟨y,r,rfl⟩:=BZ.1 I;rw[J];exact u.inp y r
 ·show ((aa.doubts (sayOf n f b)).map (dL f b)).length<=_;rw[BU];exact u.ld
 ·show InP (sayOf n f b).1 0 7;rw[M];exact h.me
 ·show O.1=(sayOf n f b).1;rw[M,X,e]
 ·obtain⟨y,r,rfl⟩:=BZ.1 I;unfold dL;cases y.1==f.1&&y.2.1==f.2.1&&f.2.2.1==2 with
  |false=>exact z y r
  |true=>exact (z y r).put R
theorem dt.step {n:aa}{f:ah}{b:Int}(h:dt n)(r:bm f)(u:InP b 0 7):dt (dv b n f):=by
 unfold dv;cases f.1==n.1 with
 |true=>exact h.refute r
 |false=>exact h.confirm r u
theorem sO {α A R:Type}(ds:List α)(g:α->α)(S:List α->Nat->A)(u:List α->Option R){step:(A->Option R)->A->Option R}
  (h:∀ (rec:A->Option R) (cur:List α) (i:Nat) (X:i<ds.length),cur.length=ds.length->cur[i]?=some ds[i]->step rec (S cur i)=rec (S (cur.set i (g ds[i])) (i+1)))
  (y:∀ (rec:A->Option R) (cur:List α),cur.length=ds.length->step rec (S cur ds.length)=u cur) {k:Nat} (J:ds.length<k):af step k (S ds 0)=u (ds.map g):=by
 have:∀ (d i k:Nat) (cur:List α),i+d=ds.length->d<k->cur.length=ds.length->(∀ j,(r:j<ds.length)->cur[j]?=some (if j<i then g ds[j] else ds[j]))->af step k (S cur i)=u (ds.map g):=by
  intro d;induction d with
  |zero =>
   intro i k cur X J I H;obtain⟨k,rfl⟩:∃ M,k=M+1:=⟨k-1,by omega⟩;have:i=ds.length:=by omega
   subst this;show step (af step k) _=_;rw[y _ _ I];congr 1;refine List.ext_getElem? λj=>?_
   rw[List.getElem?_map];by_cases r:j<ds.length
   ·rw[H j r,if_pos r,BK r];rfl
   ·rw[CK (by omega),CK (by omega)];rfl
  |succ d Y =>
   intro i k cur X J I H;obtain⟨k,rfl⟩:∃ M,k=M+1:=⟨k-1,by omega⟩;have z:i<ds.length:=by omega
   show step (af step k) _=_;rw[h (af step k) cur i z I (by rw[H i z,if_neg (by omega)])];refine Y (i+1) k _ (by omega) (by omega) (by rw[Cs,I]) λj r=>?_
   rw[List.getElem?_set];by_cases e:i=j
   ·subst e;rw[if_pos rfl,if_pos (by omega),if_pos (by omega)]
   ·rw[if_neg e,H j r];by_cases O:j<i
    ·rw[if_pos O,if_pos (by omega)]
    ·rw[if_neg O,if_neg (by omega)]
 exact this ds.length 0 k ds (by omega) J rfl (λj r=>by rw[if_neg (by omega),BK r])
theorem lZ {α:Type}{cur:List α}{i:Nat}{x:α}(h:cur[i]?=some x):cur.set i x=cur:=by
 obtain⟨r,e⟩:=List.getElem?_eq_some_iff.1 h;rw[<- e,List.set_getElem_self]
theorem sP {by_:List Int}{b:Int}{m:Nat}(r:m<=by_.length)(z:by_.length<=8){R:Type}(G:List Int->Option R) :
  (bif decide ((0:Int)<=0)&&decide ((0:Int)<=(m:Int))&&decide ((m:Int)<=(BB by_:Int))&&true then (bif decide ((BB ([]:List Int)+BB ((by_.take (BD (m:Int))).drop (BD 0)))*8<=ao) then (bif decide ((BB ([]++((by_.take (BD (m:Int))).drop (BD 0)))+BB ([b]))*8<=ao) then (bif decide ((0:Int)<=(m:Int))&&decide ((m:Int)<=(BB by_:Int))&&decide ((BB by_:Int)<=(BB by_:Int))&&true then (bif decide ((BB (([]++((by_.take (BD (m:Int))).drop (BD 0)))++([b]))+BB ((by_.take (BD (BB by_:Int))).drop (BD (m:Int))))*8<=ao) then G ((([]++((by_.take (BD (m:Int))).drop (BD 0)))++([b]))++((by_.take (BD (BB by_:Int))).drop (BD (m:Int)))) else none) else none) else none) else none) else none)=G (by_.take m++[b]++by_.drop m):=by
 rw[decide_eq_true (by omega:(0:Int)<=0),decide_eq_true (by omega:(0:Int)<=(m:Int)),decide_eq_true (by omega:(m:Int)<=(BB by_:Int)),decide_eq_true (by omega:(BB by_:Int)<=(BB by_:Int))];simp only[BE,CN,Bq,BO,CH,CJ,cond_true];have u:(by_.take m).length=m:=by rw[BW];omega
 have y:(by_.drop m).length=by_.length-m:=Bw;rw[szb _ _ _ (by omega) (by simp only[BM];omega),szb _ _ _ (by omega) (by simp only[BG,BM];omega),szb _ _ _ (by omega) (by simp only[BP,BG,BM];omega)];rfl
theorem wU (K:Nat)(n:aa)(f:ah)(b:Int)(hd:∀ d∈aa.doubts n,kU d.2.2.2)(hl:(aa.doubts n).length<=1048576)(hK:1048577<K):Q34.f K (n,f,b,())=some ((jz n f b,()),()):=by
 simp only[Q34.f,Q34.pre];refine sO (step:=λrec a=>Q34.s0 K (n,f,b,()) (Q34.l1 K (n,f,b,()) rec) rec a) (aa.doubts n) (dL f b) (λu i=>((i:Int),u)) (λu=>some ((fV n (aa.table n) (aa.cast n) u,()),())) ?_ ?_ (by omega)
 ·intro rec u i hi X I;have J:i<u.length:=by omega
  have a2:u[i]=(aa.doubts n)[i]:=by
   rw[BK J]at I;exact DB I
  have R:=hd _ (BC hi);simp only[Q34.s0,zcp8];rw[bo (by omega:(i:Int)<(BB u:Int)),ag J,au i (by omega),BE,ag J,a2];simp only[cond_true,BA];generalize a9:(aa.doubts n)[i]=d at R I ⊢;have y:rec (((i+1:Nat):Int),u)=rec (((i+1:Nat):Int),u.set i d):=by rw[lZ I]
  unfold dL;by_cases h1:d.1=f.1
  case neg =>
   rw[show (d.1 != f.1)=true by simpa using h1,show (d.1==f.1)=false by simpa using h1];exact y
  by_cases h2:d.2.1=f.2.1
  case neg =>
   rw[show (d.1 != f.1)=false by simpa using h1,show (d.2.1 != f.2.1)=true by simpa using h2,show (d.2.1==f.2.1)=false by simpa using h2,Cu];exact y
  by_cases h3:f.2.2.1=2
  case neg =>
   rw[show (d.1 != f.1)=false by simpa using h1,show (d.2.1 != f.2.1)=false by simpa using h2,show (f.2.2.1 != 2)=true by simpa using h3,show (f.2.2.1==2)=false by simpa using h3,Cu];exact y
  rw[show (d.1 != f.1)=false by simpa using h1,show (d.2.1 != f.2.1)=false by simpa using h2,show (f.2.2.1 != 2)=false by simpa using h3,show (d.1==f.1)=true by simpa using h1,show (d.2.1==f.2.1)=true by simpa using h2,show (f.2.2.1==2)=true by simpa using h3];simp only[cond_false,CJ,cond_true];have a1:=R.len;have a0:∀ m:Nat,m<=d.2.2.2.length->(∀ j,(M:j<d.2.2.2.length)->j<m->d.2.2.2[j]<b)->(∀ j,(M:j<d.2.2.2.length)->m<=j->b<d.2.2.2[j])->d.2.2.2.take m++[b]++d.2.2.2.drop m=bw (λx:Int=>x) b d.2.2.2:=λm Y lo hi=>gq (k:=λx:Int=>x) Y lo hi
  have:=cr (step:=λr a=>Q34.s1 K (n,f,b,()) rec r a) d.2.2.2.length (λj=>((i:Int),(j:Int),u,d.1,d.2.1,d.2.2.1,d.2.2.2)) (λj=>∃ h:j<d.2.2.2.length,¬ d.2.2.2[j]<b)
   (rec (((i+1:Nat):Int),u.set i (d.1,d.2.1,d.2.2.1,d.2.2.2.take d.2.2.2.length++[b]++d.2.2.2.drop d.2.2.2.length)))
   (λj=>if h:j<d.2.2.2.length then (if d.2.2.2[j]=b then rec (((i+1:Nat):Int),u) else rec (((i+1:Nat):Int),u.set i (d.1,d.2.1,d.2.2.1,d.2.2.2.take j++[b]++d.2.2.2.drop j))) else none) ?_ ?_ d.2.2.2.length K 0 (by omega) (by omega)
  ·rcases this with ⟨a3,he⟩|⟨j,_,M,⟨Z,ab⟩,a6,he⟩
   ·refine Cm he ?_;rw[a0 _ (BR _) (λj M _=>by
     by_cases O:d.2.2.2[j]<b
     ·exact O
     ·exact absurd ⟨M,O⟩ (a3 j (BX _) M)) (λj M Y=>by omega)]
   ·refine Cm he ?_;rw[dif_pos Z];have lo:∀ m,(Y:m<d.2.2.2.length)->m<j->d.2.2.2[m]<b:=λm Y a4=>by
     by_cases O:d.2.2.2[m]<b
     ·exact O
     ·exact absurd ⟨Y,O⟩ (a6 m (BX _) a4)
    by_cases H:d.2.2.2[j]=b
    ·rw[if_pos H,<- ik (k:=λx:Int=>x) R.1 Z H];rw[show d.2.2.2.set j b=d.2.2.2 from lZ (by rw[BK Z,H])];exact y
    ·rw[if_neg H,a0 j (by omega) lo (λm Y a5=>by
      rcases B4 a5 with h4|rfl
      ·have:=cD.1 R.1 j m (by omega) Y h4;omega
      ·omega)]
  ·intro r j M;simp only[Q34.s1];rw[bo (by omega:(j:Int)<(BB d.2.2.2:Int)),ag M,au j (by omega)];simp only[cond_true,BA];by_cases O:d.2.2.2[j]<b
   ·left;refine⟨λ⟨_,h⟩=>h O,?_⟩;rw[decide_eq_true O];rfl
   ·right;refine⟨⟨M,O⟩,?_⟩;rw[decide_eq_false O,show ((j:Int)==(BB d.2.2.2:Int))=false by simp;omega,dif_pos M];simp only[cond_false];by_cases H:d.2.2.2[j]=b
    ·rw[if_pos H,show (d.2.2.2[j] != b)=false by simpa using H,au i (by omega)];rfl
    ·rw[if_neg H,show (d.2.2.2[j] != b)=true by simpa using H];simp only[cond_true];refine (sP (m:=j) (b:=b) (Nat.le_of_lt M) a1 (λz=>(idx u (i:Int)).bind λ_=>(idx u (BD (i:Int):Nat)).bind λ_=>rec (wr .i64 ((i:Int)+1),u.set (BD (i:Int)) (d.1,(d.2.1,(d.2.2.1,z)))))).trans ?_;rw[BE,ag J,au i (by omega)];rfl
  ·intro r;simp only[Q34.s1];rw[aS];simp only[cond_false,beq_self_eq_true,cond_true];refine (sP (b:=b) (BR _) a1 (λz=>(idx u (i:Int)).bind λ_=>(idx u (BD (i:Int):Nat)).bind λ_=>rec (wr .i64 ((i:Int)+1),u.set (BD (i:Int)) (d.1,(d.2.1,(d.2.2.1,z)))))).trans ?_;rw[BE,ag J,au i (by omega)];rfl
 ·intro rec u X;simp only[Q34.s0,zcp8];rw[<- X,aS];rfl
theorem yl (K:Nat)(n:aa)(f:ah)(h:dt n)(J:bm f)(H:1048577<K):Q33.f K (n,f,())=some ((eB n f,()),()):=by
 simp only[Q33.f,zcp4];have r:=el h.say.table h.has;obtain⟨o,M,I⟩:=fh K (aa.table n) n.1 h.say.lt H;rw[show Q16.f K (n.2.2.2.2.2.2.2.2.1,n.1,())=_ from I];simp only[BA];cases M with
 |no u=>exact absurd h.has (λ⟨g,O,e⟩=>u g O e)
 |at_ j z e =>
  simp only;rw[show idx n.2.2.2.2.2.2.2.2.1 ((j:Nat):Int)=some (aa.table n)[j] from ag z,ij h.say.table.2 (BC z) r.2.2 (by rw[e,r.2.1])];simp only[BA];rw[pF];obtain⟨_,⟨X,R⟩,_⟩:=J;simp only[rb,BA,eB];cases decide (bI f (aQ (aa.table n) n.1)) with
  |false=>rfl
  |true =>
   simp only[BI,cond_false,B5];by_cases y:f.2.1<999
   ·rw[decide_eq_false (by omega:¬ f.2.1>=999),decide_eq_true y,aK (by omega) (by omega)];simp only[cond_false,cond_true];refine (congrArg (λo=>BS o _) (pG K (gr n (f.2.1+1)) (n.1,f.2.1+1,1,n.2.2.2.1) n.1 (h.say.inc _) H)).trans ?_;rfl
   ·rw[decide_eq_true (by omega:f.2.1>=999),decide_eq_false y];rfl
theorem uK (K:Nat)(n:aa)(t:List ah)(b:Int)(h:dt n)(I:∀ f∈t,bm f)(J:t.length<=1048576)(H:InP b 0 7)(y:1048577<K):Q35.f K (n,t,b,())=some ((gM n t b,()),()):=by
 refine kD (step:=λrec a=>Q35.s0 K (n,t,b,()) rec a) t (dv b) dt (λm i=>((i:Int),m.1,m.2.1,m.2.2.1,m.2.2.2.1,m.2.2.2.2.1,m.2.2.2.2.2.1,m.2.2.2.2.2.2.1,m.2.2.2.2.2.2.2.1,m.2.2.2.2.2.2.2.2.1,m.2.2.2.2.2.2.2.2.2.1,m.2.2.2.2.2.2.2.2.2.2.1.1,m.2.2.2.2.2.2.2.2.2.2.1.2.1,m.2.2.2.2.2.2.2.2.2.2.1.2.2.1,m.2.2.2.2.2.2.2.2.2.2.1.2.2.2,m.2.2.2.2.2.2.2.2.2.2.2.1,m.2.2.2.2.2.2.2.2.2.2.2.2.1.1,m.2.2.2.2.2.2.2.2.2.2.2.2.1.2.1,m.2.2.2.2.2.2.2.2.2.2.2.2.1.2.2.1,m.2.2.2.2.2.2.2.2.2.2.2.2.1.2.2.2,m.2.2.2.2.2.2.2.2.2.2.2.2.2.1,m.2.2.2.2.2.2.2.2.2.2.2.2.2.2)) (λm=>some ((m,()),())) n h ?_ ?_ (by omega)
 ·intro rec m i z r;have u:=I _ (BC z);refine⟨?_,r.step u H⟩;simp only[Q35.s0,zc286a0,zc3ec45];rw[bo (by omega:(i:Int)<(BB t:Int)),ag z,au i (by omega)];simp only[cond_true,BA];generalize t[i]=f at u ⊢;unfold dv;cases f.1==m.1 with
  |true =>
   simp only[cond_true];refine (congrArg (λo=>BS o _) (yl K m f r u y)).trans ?_;rfl
  |false =>
   simp only[cond_false];refine (congrArg (λo=>BS o _) (pG K m f b r.say y)).trans ?_;simp only[BA];rw[wU K (sayOf m f b) f b (jT H r.by_) (im r.say u).ld y];rfl
 ·intro rec m r;simp only[Q35.s0,zc286a0,zc3ec45];rw[aS];rfl
theorem zN (K:Nat)(l:List Int)(v:Int)(Y:l.length<=1048576)(R:Asc (λx:Int=>x) l)(hK:1048577<K) :
  ∃ m,m<=l.length/\(∀ i,(h:i<l.length)->i<m->l[i]<v)/\(∀ i,(h:i<l.length)->m<=i->v<=l[i])/\Q115.f K (l,v,())=some ((((m:Nat):Int),decide (∃ h:m<l.length,l[m]=v),()),()):=by
 let ks:Nat->Int:=λi=>if h:i<l.length then l[i] else 0
 have r:∀ i (h:i<l.length),ks i=l[i]:=λi h=>by simp[ks,h]
 let u:Nat->Option ((Int×Bool×Unit)×Unit):=λm=>some ((((m:Nat):Int),decide (∃ h:m<l.length,l[m]=v),()),())
 have:=pz (step:=λrec a=>Q115.s0 K (l,v,()) rec a) (ks:=ks) (n:=l.length) (t:=v) u Y
  (λi j z I=>by
   rw[r i (by omega),r j I];exact cD.1 R i j (by omega) I z) ?_ ?_ l.length K 0 l.length (by omega) (BX _) (BR _) (by omega) (λi y=>by omega) (λi y hn=>by omega)
 ·obtain⟨m,M,h2,O,h4⟩:=this;exact⟨m,M,λi h y=>by rw[<- r i h];exact h2 i y,λi h y=>by rw[<- r i h];exact O i y h,h4⟩
 ·intro rec a b X hb;have H:(a+b) / 2<l.length:=by omega
  simp only[Q115.s0];rw[decide_eq_true (by omega:(a:Int)<(b:Int)),nG (by omega)];simp only[cond_true];rw[ag H];simp only[BA,Q113.f,Q70.f,bne_self_eq_false,cond_false];rw[r _ H,au _ (by omega)];by_cases h:l[(a+b) / 2]<v
  ·rw[if_pos h,decide_eq_true h];rfl
  ·rw[if_neg h,decide_eq_false h];rfl
 ·intro rec a ha;simp only[Q115.s0];rw[decide_eq_false (by omega)];simp only[cond_false];by_cases h:a<l.length
  ·rw[decide_eq_true (by omega:(a:Int)<(BB l:Int)),ag h];simp only[cond_true,BA,Q114.f,bne_self_eq_false,cond_false];by_cases e:l[a]=v
   ·rw[show (l[a]==v)=true by simpa using e];simp only[cond_true,u];rw[decide_eq_true ⟨h,e⟩]
   ·rw[show (l[a]==v)=false by simpa using e];simp only[cond_false,u];rw[decide_eq_false (λ⟨_,J⟩=>e J)]
  ·rw[decide_eq_false (by omega:¬ (a:Int)<(BB l:Int))];simp only[cond_false,u];rw[decide_eq_false (λ⟨Z,_⟩=>h Z)]
abbrev flN {R:Type}(n:aa)(r:R):=(n.1,n.2.1,n.2.2.1,n.2.2.2.1,n.2.2.2.2.1,n.2.2.2.2.2.1,n.2.2.2.2.2.2.1,n.2.2.2.2.2.2.2.1,n.2.2.2.2.2.2.2.2.1,n.2.2.2.2.2.2.2.2.2.1,n.2.2.2.2.2.2.2.2.2.2.1.1,n.2.2.2.2.2.2.2.2.2.2.1.2.1,n.2.2.2.2.2.2.2.2.2.2.1.2.2.1,n.2.2.2.2.2.2.2.2.2.2.1.2.2.2,n.2.2.2.2.2.2.2.2.2.2.2.1,n.2.2.2.2.2.2.2.2.2.2.2.2.1.1,n.2.2.2.2.2.2.2.2.2.2.2.2.1.2.1,n.2.2.2.2.2.2.2.2.2.2.2.2.1.2.2.1,n.2.2.2.2.2.2.2.2.2.2.2.2.1.2.2.2,n.2.2.2.2.2.2.2.2.2.2.2.2.2.1,n.2.2.2.2.2.2.2.2.2.2.2.2.2.2,r)
abbrev flE (n:aa):=(n.1,n.2.1,n.2.2.1,n.2.2.2.1,n.2.2.2.2.1,n.2.2.2.2.2.1,n.2.2.2.2.2.2.1,n.2.2.2.2.2.2.2.1,n.2.2.2.2.2.2.2.2.1,n.2.2.2.2.2.2.2.2.2.1,n.2.2.2.2.2.2.2.2.2.2.1.1,n.2.2.2.2.2.2.2.2.2.2.1.2.1,n.2.2.2.2.2.2.2.2.2.2.1.2.2.1,n.2.2.2.2.2.2.2.2.2.2.1.2.2.2,n.2.2.2.2.2.2.2.2.2.2.2.1,n.2.2.2.2.2.2.2.2.2.2.2.2.1.1,n.2.2.2.2.2.2.2.2.2.2.2.2.1.2.1,n.2.2.2.2.2.2.2.2.2.2.2.2.1.2.2.1,n.2.2.2.2.2.2.2.2.2.2.2.2.1.2.2.2,n.2.2.2.2.2.2.2.2.2.2.2.2.2.1,n.2.2.2.2.2.2.2.2.2.2.2.2.2.2)
theorem wV (K:Nat)(n0:aa)(t:List ah)(n:aa)(f:ah)(b:Int)(i:Nat)(hi:i<=1048576)(hd:∀ d∈aa.doubts n,kU d.2.2.2)(hl:(aa.doubts n).length<=1048576)(hK:1048577<K)(H:Q116.A0->Option Q116.Res) :
  Q116.l1 K (n0,t,b,()) H ((i:Int),(BB (aa.doubts n):Int),0,flN n f)=H (((i+1:Nat):Int),flE (jz n f b)):=by
 refine sO (step:=λr a=>Q116.s1 K (n0,t,b,()) H r a) (aa.doubts n) (dL f b) (λu k=>((i:Int),(BB (aa.doubts n):Int),(k:Int),flN (fV n (aa.table n) (aa.cast n) u) f)) (λu=>H (((i+1:Nat):Int),flE (fV n (aa.table n) (aa.cast n) u))) ?_ ?_ (by omega)
 ·intro rec u k hk Y I;have M:k<u.length:=by omega
  have a0:u[k]=(aa.doubts n)[k]:=by
   rw[BK M]at I;exact DB I
  have J:=hd _ (BC hk);have z:idx u (k:Int)=some (aa.doubts n)[k]:=by rw[ag M,a0]
  simp only[Q116.s1,zcp4,zcp8];rw[bo (by omega:(k:Int)<(BB (aa.doubts n):Int)),au k (by omega),BE];simp only[cond_true];refine (congrArg (λo=>BS o _) z).trans ?_;simp only[BA];generalize a1:(aa.doubts n)[k]=d at J I z ⊢;have y:rec ((i:Int),(BB (aa.doubts n):Int),((k+1:Nat):Int),flN (fV n (aa.table n) (aa.cast n) u) f)=rec ((i:Int),(BB (aa.doubts n):Int),((k+1:Nat):Int),flN (fV n (aa.table n) (aa.cast n) (u.set k d)) f):=by rw[lZ I]
  unfold dL;by_cases h3:f.2.2.1=2
  case neg =>
   rw[show (f.2.2.1 != 2)=true by simpa using h3,show (f.2.2.1==2)=false by simpa using h3,Cu];exact y
  rw[show (f.2.2.1 != 2)=false by simpa using h3,show (f.2.2.1==2)=true by simpa using h3];simp only[cond_false,Ce];refine (congrArg (λo=>BS o _) z).trans ?_;simp only[BA];by_cases h1:d.1=f.1
  case neg =>
   rw[show (d.1 != f.1)=true by simpa using h1,show (d.1==f.1)=false by simpa using h1,CG];exact y
  rw[show (d.1 != f.1)=false by simpa using h1,show (d.1==f.1)=true by simpa using h1];simp only[cond_false,B5];refine (congrArg (λo=>BS o _) z).trans ?_;simp only[BA];by_cases h2:d.2.1=f.2.1
  case neg =>
   rw[show (d.2.1 != f.2.1)=true by simpa using h2,show (d.2.1==f.2.1)=false by simpa using h2];exact y
  rw[show (d.2.1 != f.2.1)=false by simpa using h2,show (d.2.1==f.2.1)=true by simpa using h2];simp only[cond_false,cond_true];refine (congrArg (λo=>BS o _) z).trans ?_;simp only[BA];have a2:=J.len;obtain⟨m,hm,lo,R,hs⟩:=zN K d.2.2.2 b (by omega) J.1 hK;refine (congrArg (λo=>BS o _) hs).trans ?_;simp only[BA];by_cases hb:∃ h:m<d.2.2.2.length,d.2.2.2[m]=b
  ·rw[decide_eq_true hb];obtain⟨Z,e⟩:=hb;rw[show bw (λx:Int=>x) b d.2.2.2=d.2.2.2 by rw[<- ik (k:=λx:Int=>x) J.1 Z e];exact lZ (by rw[BK Z,e])];exact y
  ·rw[decide_eq_false hb];simp only[Br,cond_true];refine (congrArg (λo=>BS o _) z).trans ?_;simp only[BA];refine (congrArg (λo=>BS o _) z).trans ?_;simp only[BA];have O:Q6.f K (d.2.2.2,(m:Int),[b],())=some ((d.2.2.2.take m++[b]++d.2.2.2.drop m,()),()):=ju hm (by decide) (by show d.2.2.2.length<=1048576;omega);refine (congrArg (λo=>BS o _) O).trans ?_;simp only[BA];refine (congrArg (λo=>BS o _) z).trans ?_;rw[<- gq (k:=λx:Int=>x) hm lo (λj hj X=>by
    rcases Int.lt_or_eq_of_le (R j hj X) with h|h
    ·exact h
    ·exfalso;rcases B4 X with h4|rfl
     ·have:=cD.1 J.1 m j (by omega) hj h4;have h5:=R m (by omega) (BR _);omega
     ·exact hb ⟨hj,h.symm⟩)]
   simp only[BA,Nat.beq_refl,cond_true];rfl
 ·intro rec u Y;simp only[Q116.s1,zcp4,zcp8];rw[aS,au i (by omega)];rfl
theorem ym {R:Type}(K:Nat)(n:aa)(f:ah)(h:dt n)(r:bm f)(e:f.1=n.1)(y:1048577<K)(G:aa->Option R) :
  ((Q74.f K (aa.table n,n.1,())).bind λM=>(Q88.f K (f,M.1.1,())).bind λY=>bif Y.1.1 then (bif decide (f.2.1<999) then ((Q112.f K (gr n (wr .i64 (f.2.1+1)),(n.1,wr .i64 (f.2.1+1),1,n.2.2.2.1),n.1,())).bind λI=>G I.2.1) else G n) else G n)=G (eB n f):=by
 obtain⟨b',z⟩:=mN K (aa.table n) n.1 h.say.table h.say.lt y;rw[z];simp only[BA];obtain⟨X,O,p3⟩:=el h.say.table h.has;obtain⟨c,Z,J⟩:=pA K f (aQ (aa.table n) n.1) y;rw[Z];have H:c=decide (bI f (aQ (aa.table n) n.1)):=by
  rw[CI,J,decide_eq_true_eq];exact⟨λh=>h.2.2.2,λh=>⟨r,X,e.trans O.symm,h⟩⟩
 subst H;obtain⟨_,⟨i0,i1⟩,_⟩:=id r;simp only[rb,BA,eB];cases decide (bI f (aQ (aa.table n) n.1)) with
 |false=>rfl
 |true =>
  simp only[cond_true,B5];by_cases u:f.2.1<999
  ·rw[decide_eq_true u,aK (by omega) (by omega)];simp only[cond_true];rw[zk K (gr n (f.2.1+1)) (n.1,f.2.1+1,1,n.2.2.2.1) n.1 (h.say.inc _) (qs h.me r u) y];rfl
  ·rw[decide_eq_false u];rfl
theorem uL (K:Nat)(n:aa)(t:List ah)(b:Int)(h:dt n)(J:∀ f∈t,bm f)(M:t.length<=1048576)(I:InP b 0 7)(y:1048577<K):Q116.f K (n,t,b,())=some ((),(gM n t b,())):=by
 refine kD (step:=λrec a=>Q116.s0 K (n,t,b,()) (Q116.l1 K (n,t,b,()) rec) rec a) t (dv b) dt (λm i=>((i:Int),flE m)) (λm=>some ((),(m,()))) n h ?_ ?_ (by omega)
 ·intro rec m i H r;have u:=J _ (BC H);refine⟨?_,r.step u I⟩;simp only[Q116.s0,zc286a0,zc3ec45,zcp4];rw[bo (by omega:(i:Int)<(BB t:Int)),ag H,au i (by omega)];simp only[cond_true,BA];generalize t[i]=f at u ⊢;unfold dv;by_cases e:f.1=m.1
  ·rw[show (f.1==m.1)=true by simpa using e];simp only[cond_true];exact ym K m f r u e y (λz=>rec (((i+1:Nat):Int),flE z))
  ·rw[show (f.1==m.1)=false by simpa using e];simp only[cond_false];refine (congrArg (λo=>BS o _) (zk K m f b r.say u y)).trans ?_;simp only[BA];exact wV K n t (sayOf m f b) f b i (by omega) (jT I r.by_) (im r.say u).ld y rec
 ·intro rec m r;simp only[Q116.s0,zc286a0,zc3ec45,zcp4];rw[aS];rfl
def dz {α:Type}(r:α->α->Bool)(x:α):List α->List α->List α
 |[],B=>x::B
 |y::A,B=>bif r x y then dz r x A (y::B) else (y::A).reverse++x::B
def cS {α:Type}(r:α->α->Bool):List α->List α->List α
 |done,[]=>done
 |done,x::u=>cS r (dz r x done.reverse []) u
theorem oV {α:Type}(r:α->α->Bool)(x:α):∀ (A B C:List α),dz r x A (B++C)=dz r x A B++C
 |[],B,C=>rfl
 |y::A,B,C=>by
  simp only[dz];cases r x y with
  |true=>exact oV r x A (y::B) C
  |false=>simp
theorem oW {α:Type}(r:α->α->Bool)(x:α):∀ (A B:List α),(dz r x A B).length=A.length+B.length+1
 |[],B=>by simp[dz]
 |y::A,B=>by
  simp only[dz];cases r x y with
  |true=>simp only[cond_true];rw[oW r x A (y::B)];simp;omega
  |false=>simp;omega
theorem mP {α:Type}(r:α->α->Bool)(x:α):∀ (A B:List α),(dz r x A B).Perm (x::(A.reverse++B))
 |[],B=>by simp[dz]
 |y::A,B=>by
  simp only[dz];cases r x y with
  |true=>exact (mP r x A (y::B)).trans (by simp)
  |false=>simp only[cond_false];exact C4
theorem l6 {α:Type}(r:α->α->Bool):∀ (xs done:List α),(cS r done xs).Perm (done++xs)
 |[],done=>by simp[cS]
 |x::xs,done=>by
  simp only[cS];refine (l6 r xs _).trans ?_;have:=mP r x done.reverse [];simp only[Bs,BN]at this;exact (this.append_right xs).trans (by simpa using (C4 (a:=x) (l₁:=done) (l₂:=xs)).symm)
def jF {α:Type}(r:α->α->Bool)(xs:List α):Prop:=xs.Pairwise λa b=>r b a=false
theorem kV {α:Type}(r:α->α->Bool)(I:∀ a b c,r a b=false->r b c=false->r a c=false)(x:α) :
  ∀ (A B:List α),jF r A.reverse->dz r x A B=(A.reverse.filter λy=>!r x y)++x::((A.reverse.filter λy=>r x y)++B)
 |[],B,_=>rfl
 |y::A,B,h=>by
  simp only[dz];have M:jF r A.reverse:=by
   unfold jF at h ⊢;rw[CF,CD]at h;exact h.1
  cases z:r x y with
  |true =>
   simp only[cond_true];rw[kV r I x A (y::B) M];simp[z,B3]
  |false =>
   have H:∀ a∈A.reverse,r x a=false:=λa u=>by
    unfold jF at h;rw[CF,CD]at h;exact I x y a z (h.2.2 a u y (by simp))
   simp only[cond_false];have J:(y::A).reverse.filter (λy=>!r x y)=(y::A).reverse:=BT.2 λa u=>by
    rw[CF,Bz,Bv]at u;rcases u with u|rfl
    ·rw[H a u];rfl
    ·rw[z];rfl
   have O:(y::A).reverse.filter (λy=>r x y)=[]:=BY.2 λa u=>by
    rw[CF,Bz,Bv]at u;rcases u with u|rfl
    ·rw[H a u];simp
    ·rw[z];simp
   rw[J,O];rfl
theorem vA {α:Type}(r:α->α->Bool)(H:∀ a b c,r a b=false->r b c=false->r a c=false)(u:∀ a b,r a b=true->r b a=false)(x:α)(A:List α)(h:jF r A):jF r (dz r x A.reverse []):=by
 rw[kV r H x A.reverse [] (by rwa [Bs])];unfold jF at h ⊢;simp only[Bs,BN];rw[CD];refine⟨h.filter _,?_,?_⟩
 ·rw[BQ];refine⟨λa z=>?_,h.filter _⟩;exact u _ _ (by simpa using (BH.1 z).2)
 ·intro a z b y;have I:r x a=false:=by simpa using (BH.1 z).2
  rcases B8.1 y with rfl|y
  ·exact I
  ·have J:r x b=true:=by simpa using (BH.1 y).2
   exact H b x a (u _ _ J) I
theorem mQ {α:Type}(r:α->α->Bool)(y:∀ a b c,r a b=false->r b c=false->r a c=false)(u:∀ a b,r a b=true->r b a=false):∀ (xs done:List α),jF r done->jF r (cS r done xs)
 |[],done,h=>h
 |x::xs,done,h=>mQ r y u xs _ (vA r y u x done h)
theorem oc {α:Type}(J:α->α->Bool):∀ {u H:List α},u.Perm H->jF J u->H.Pairwise (λa b=>J a b=true)->u=H
 |u,[],r,_,_=>r.eq_nil
 |[],z::H,r,_,_=>absurd r.symm.eq_nil (by simp)
 |y::u,z::H,r,I,O=>by
  unfold jF at I;rw[BQ]at I O;have e:y=z:=by
   rcases B8.1 (r.mem_iff.1 (Cy ..)) with h|h
   ·exact h
   ·have R:=O.1 y h;rcases B8.1 (r.symm.mem_iff.1 (Cy ..)) with M|M
    ·exact M.symm
    ·rw[I.1 z M]at R;cases R
  subst e;rw[oc J r.cons_inv I.2 O.2]
abbrev SoR (α:Type):=Unit×(List α×Unit)
theorem vB {α R:Type}(z:α->α->Bool)(i:Int)(r:List α×Int->Option R){step:(List α×Int×Int->Option R)->List α×Int×Int->Option R}
  (h:∀ (rec:List α×Int×Int->Option R) (A:List α) (y x:α) (B:List α),A.length+B.length<=1048576->step rec (A++y::x::B,i,((A.length+1:Nat):Int))=bif z x y then rec (A++x::y::B,i,(A.length:Int)) else r (A++y::x::B,wr .i64 (i+1)))
  (O:∀ (rec:List α×Int×Int->Option R) (M:List α),step rec (M,i,0)=r (M,wr .i64 (i+1))) :
  ∀ (A B:List α) (x:α) (k:Nat),A.length+B.length<=1048576->A.length<k->af step k (A.reverse++x::B,i,(A.length:Int))=r (dz z x A B,wr .i64 (i+1)):=by
 intro A;induction A with
 |nil =>
  intro B x k J u;obtain⟨k,rfl⟩:∃ H,k=H+1:=⟨k-1,by simp at u;omega⟩;exact O (af step k) (x::B)
 |cons y A X =>
  intro B x k J u;simp only[BG]at u J;obtain⟨k,rfl⟩:∃ H,k=H+1:=⟨k-1,by omega⟩;have I:=h (af step k) A.reverse y x B (by simp;omega);simp only[CU]at I;show step (af step k) _=_;rw[CF,B7];simp only[BG,C5,BO,dz];rw[I];cases z x y with
  |true=>exact X (y::B) x k (by simp;omega) (by omega)
  |false=>simp
theorem ud {α:Type}(r:α->α->Bool){step:(List α×Int->Option (SoR α))->List α×Int->Option (SoR α)}(n:Nat)(O:n<=1048576)
  (h:∀ (rec:List α×Int->Option (SoR α)) (done:List α) (x:α) (xs:List α),done.length+1+xs.length=n->step rec (done++x::xs,(done.length:Int))=rec (dz r x done.reverse xs,wr .i64 ((done.length:Int)+1)))
  (J:∀ (rec:List α×Int->Option (SoR α)) (H:List α) (i:Int),(n:Int)<=i->step rec (H,i)=some ((),(H,()))) :
  ∀ (xs done:List α) (k:Nat),done.length+xs.length=n->xs.length<k->af step k (done++xs,(done.length:Int))=some ((),(cS r done xs,())):=by
 intro xs;induction xs with
 |nil =>
  intro done k u I;obtain⟨k,rfl⟩:∃ y,k=y+1:=⟨k-1,by omega⟩;show step (af step k) _=_;rw[J _ _ _ (by simp at u;omega)];simp[cS]
 |cons x xs M =>
  intro done k u I;simp only[BG]at I u;obtain⟨k,rfl⟩:∃ y,k=y+1:=⟨k-1,by omega⟩;show step (af step k) _=_;rw[h _ _ _ _ (by omega),au _ (by omega)];have e:dz r x done.reverse xs=dz r x done.reverse []++xs:=oV r x done.reverse [] xs;have z:(dz r x done.reverse []).length=done.length+1:=by rw[oW];simp
  rw[e,<- z];exact M _ k (by rw[z];omega) (by omega)
theorem yn {α:Type}(u:α->α->Bool){step:(List α×Int->Option (SoR α))->List α×Int->Option (SoR α)}(xs:List α)(J:xs.length<=1048576)
  (h:∀ (rec:List α×Int->Option (SoR α)) (done:List α) (x:α) (r:List α),done.length+1+r.length=xs.length->step rec (done++x::r,(done.length:Int))=rec (dz u x done.reverse r,wr .i64 ((done.length:Int)+1)))
  (H:∀ (rec:List α×Int->Option (SoR α)) (y:List α) (i:Int),(xs.length:Int)<=i->step rec (y,i)=some ((),(y,()))) {k:Nat} (z:xs.length<k) :
  af step k (xs,1)=some ((),(cS u [] xs,())):=by
 cases xs with
 |nil =>
  obtain⟨k,rfl⟩:∃ I,k=I+1:=⟨k-1,by simp at z;omega⟩;exact H (af step k) [] 1 (by simp)
 |cons x xs =>
  simp only[BG]at z;have:=ud u (xs.length+1) (by simpa using J) h H xs [x] k (by simp;omega) (by omega);exact this
theorem uM {α:Type}(A B:List α)(x:α):idx (A++x::B) (A.length:Int)=some x:=by
 rw[qn];simp
theorem sQ {α:Type}(A B:List α)(y x:α):idx (A++y::x::B) ((A.length+1:Nat):Int)=some x:=by
 rw[qn];simp[List.getElem?_append_right]
theorem uN {α:Type}(A B:List α)(x v:α):(A++x::B).set A.length v=A++v::B:=by simp
theorem sR {α:Type}(A B:List α)(y x v:α):(A++y::x::B).set (A.length+1) v=A++y::v::B:=by
 simp[Ct]
theorem ue {α R:Type}(P:α->Prop)(J:α->α->Bool)(i:Int)(r:List α×Int->Option R){step:(List α×Int×Int->Option R)->List α×Int×Int->Option R}
  (h:∀ (rec:List α×Int×Int->Option R) (A:List α) (y x:α) (B:List α),P y->P x->A.length+B.length<=1048576->step rec (A++y::x::B,i,((A.length+1:Nat):Int))=bif J x y then rec (A++x::y::B,i,(A.length:Int)) else r (A++y::x::B,wr .i64 (i+1)))
  (Z:∀ (rec:List α×Int×Int->Option R) (Y:List α),step rec (Y,i,0)=r (Y,wr .i64 (i+1))) :
  ∀ (A B:List α) (x:α) (k:Nat),(∀ y∈A,P y)->P x->A.length+B.length<=1048576->A.length<k->af step k (A.reverse++x::B,i,(A.length:Int))=r (dz J x A B,wr .i64 (i+1)):=by
 intro A;induction A with
 |nil =>
  intro B x k u H X I;obtain⟨k,rfl⟩:∃ M,k=M+1:=⟨k-1,by simp at I;omega⟩;exact Z (af step k) (x::B)
 |cons y A ih =>
  intro B x k u H X I;simp only[BG]at I X;obtain⟨k,rfl⟩:∃ M,k=M+1:=⟨k-1,by omega⟩;have O:=h (af step k) A.reverse y x B (u y (by simp)) H (by simp;omega);simp only[CU]at O;show step (af step k) _=_;rw[CF,B7];simp only[BG,C5,BO,dz];rw[O];cases J x y with
  |true=>exact ih (y::B) x k (λz hz=>u z (by simp[hz])) H (by simp;omega) (by omega)
  |false=>simp
theorem sS {α:Type}(P:α->Prop)(r:α->α->Bool){step:(List α×Int->Option (SoR α))->List α×Int->Option (SoR α)}(n:Nat)(hn:n<=1048576)
  (h:∀ (rec:List α×Int->Option (SoR α)) (done:List α) (x:α) (xs:List α),(∀ y∈done,P y)->P x->done.length+1+xs.length=n->step rec (done++x::xs,(done.length:Int))=rec (dz r x done.reverse xs,wr .i64 ((done.length:Int)+1)))
  (Z:∀ (rec:List α×Int->Option (SoR α)) (X:List α) (i:Int),(n:Int)<=i->step rec (X,i)=some ((),(X,()))) :
  ∀ (xs done:List α) (k:Nat),(∀ y∈done,P y)->(∀ y∈xs,P y)->done.length+xs.length=n->xs.length<k->af step k (done++xs,(done.length:Int))=some ((),(cS r done xs,())):=by
 intro xs;induction xs with
 |nil =>
  intro done k I H J Y;obtain⟨k,rfl⟩:∃ M,k=M+1:=⟨k-1,by omega⟩;show step (af step k) _=_;rw[Z _ _ _ (by simp at J;omega)];simp[cS]
 |cons x xs ih =>
  intro done k I H J Y;simp only[BG]at Y J;obtain⟨k,rfl⟩:∃ M,k=M+1:=⟨k-1,by omega⟩;show step (af step k) _=_;rw[h _ _ _ _ I (H x (by simp)) (by omega),au _ (by omega)];have e:dz r x done.reverse xs=dz r x done.reverse []++xs:=oV r x done.reverse [] xs;have R:(dz r x done.reverse []).length=done.length+1:=by rw[oW];simp
  rw[e,<- R];refine ih _ k (λz O=>?_) (λz O=>H z (by simp[O])) (by rw[R];omega) (by omega);have u:=(mP r x done.reverse []).mem_iff.1 O;simp only[Bs,BN,B8]at u;rcases u with rfl|u
  ·exact H z (by simp)
  ·exact I z u
theorem wW {α:Type}(P:α->Prop)(z:α->α->Bool){step:(List α×Int->Option (SoR α))->List α×Int->Option (SoR α)}(xs:List α)(I:∀ y∈xs,P y)(R:xs.length<=1048576)
  (h:∀ (rec:List α×Int->Option (SoR α)) (done:List α) (x:α) (r:List α),(∀ y∈done,P y)->P x->done.length+1+r.length=xs.length->step rec (done++x::r,(done.length:Int))=rec (dz z x done.reverse r,wr .i64 ((done.length:Int)+1)))
  (H:∀ (rec:List α×Int->Option (SoR α)) (J:List α) (i:Int),(xs.length:Int)<=i->step rec (J,i)=some ((),(J,()))) {k:Nat} (M:xs.length<k) :
  af step k (xs,1)=some ((),(cS z [] xs,())):=by
 cases xs with
 |nil =>
  obtain⟨k,rfl⟩:∃ O,k=O+1:=⟨k-1,by simp at M;omega⟩;exact H (af step k) [] 1 (by simp)
 |cons x xs =>
  simp only[BG]at M;have:=sS P z (xs.length+1) (by simpa using R) h H xs [x] k (λy u=>I y (by simpa using .inl (by simpa using u))) (λy u=>I y (by simp[u])) (by simp;omega) (by omega);exact this
def ltZ (a b:Int):Bool:=decide (a<b)
theorem AE (K:Nat)(a b:Int):Q113.f K (a,b,())=some ((ltZ a b,()),()):=by
 simp only[Q113.f,Q70.f,ltZ];simp
theorem yp (K:Nat)(xs:List Int)(H:Int×Int×Unit->Option Int)(I:Int->Int->Bool)(P:Int->Prop)(Z:∀ y∈xs,P y)(hφ:∀ y z,P y->P z->∃ c,H (y,z,())=some c/\decide (c<0)=I y z)(hx:xs.length<=1048576)(hK:1048577<K) :
  Q123.f K (xs,0,(xs.length:Int),H,())=some ((),(cS I [] xs,())):=by
 refine wW P (step:=λrec a=>Q123.s0 K (xs,0,(xs.length:Int),H,()) (Q123.l1 K (xs,0,(xs.length:Int),H,()) rec) rec a) I xs Z hx ?_ ?_ (by omega)
 ·intro rec done x r M J hl;simp only[Q123.s0];rw[decide_eq_true (by omega:((done.length:Int))<(xs.length:Int))];simp only[cond_true];have:=ue P I (done.length:Int) rec (step:=λu a=>Q123.s1 K (xs,0,(xs.length:Int),H,()) rec u a) ?_ ?_ done.reverse r x K (λy O=>M y (by simpa using O)) J (by simp;omega) (by simp;omega)
  ·rw[Bs,CU]at this;exact this
  ·intro u A y z B O hz R;simp only[Q123.s1];have Y:wr .i64 (((A.length+1:Nat):Int)-1)=(A.length:Int):=(aK (by omega) (by omega)).trans (by omega);rw[decide_eq_true (by omega:((A.length+1:Nat):Int)>0)];obtain⟨c,X,M⟩:=hφ z y hz O;simp only[cond_true,Y,BE,sQ,uM,BA,X,M,sR,uN]
  ·intro u ys;simp only[Q123.s1];rw[decide_eq_false (by omega:¬ (0:Int)>0)];rfl
 ·intro rec ys i hi;simp only[Q123.s0];rw[decide_eq_false (by omega:¬ i<(xs.length:Int))];rfl
theorem yq (K:Nat)(xs:List Int)(u:Int×Int×Unit->Option Int)(H:Int->Int->Bool)(P:Int->Prop)(I:∀ y∈xs,P y)(hφ:∀ y z,P y->P z->∃ c,u (y,z,())=some c/\decide (c<0)=H y z)(R:xs.length<=19)(O:1048577<K) :
  Q125.f K (xs,u,())=some ((),(cS H [] xs,())):=by
 simp only[Q125.f];have:Q124.f K (xs,(xs.length:Int),u,())=some ((),(cS H [] xs,())):=by
  obtain⟨k,rfl⟩:∃ M,K=M+1:=⟨K-1,by omega⟩;show Q124.s0 _ _ _ _ _=_;simp only[Q124.s0];rw[decide_eq_false (by omega:¬ (20:Int)<=(xs.length:Int))];simp only[cond_false];rw[yp (k+1) xs u H P I hφ (by omega) O];simp only[BA];have J:∀ (r:Q124.A1->Option Q124.Res),Q124.s1 (k+1) (xs,(xs.length:Int),u,()) (Q124.l2 (k+1) (xs,(xs.length:Int),u,()) r) r (cS H [] xs,20)=some ((),(cS H [] xs,())):=by
   intro r;simp only[Q124.s1];rw[decide_eq_false (by omega:¬ (20:Int)<(xs.length:Int))];rfl
  exact J _
 rw[this];rfl
theorem yt (K:Nat)(xs:List Int)(J:xs.length<=1048576)(O:1048577<K) :
  Q129.f K (xs,0,(xs.length:Int),())=some ((),(cS ltZ [] xs,())):=by
 refine yn (step:=λrec a=>Q129.s0 K (xs,0,(xs.length:Int),()) (Q129.l1 K (xs,0,(xs.length:Int),()) rec) rec a) ltZ xs J ?_ ?_ (by omega)
 ·intro rec done x r X;simp only[Q129.s0];rw[decide_eq_true (by omega:((done.length:Int))<(xs.length:Int))];simp only[cond_true];have:=vB ltZ (done.length:Int) rec (step:=λu a=>Q129.s1 K (xs,0,(xs.length:Int),()) rec u a) ?_ ?_ done.reverse r x K (by simp;omega) (by simp;omega)
  ·rw[Bs,CU]at this;exact this
  ·intro u A y z B H;simp only[Q129.s1];have I:wr .i64 (((A.length+1:Nat):Int)-1)=(A.length:Int):=(aK (by omega) (by omega)).trans (by omega);rw[decide_eq_true (by omega:((A.length+1:Nat):Int)>0)];simp only[cond_true,I,BE,sQ,uM,BA,sR,uN];rw[show Q113.f K (z,y,())=_ from AE K z y];rfl
  ·intro u M;simp only[Q129.s1];rw[decide_eq_false (by omega:¬ (0:Int)>0)];rfl
 ·intro rec M i R;simp only[Q129.s0];rw[decide_eq_false (by omega:¬ i<(xs.length:Int))];rfl
theorem yu (K:Nat)(xs:List Int)(u:xs.length<=12)(I:1048577<K) :
  Q137.f K (xs,())=some ((),(cS ltZ [] xs,())):=by
 simp only[Q137.f,Q136.f];obtain⟨l,r⟩:∃ l:Int,Q135.f K (wr .u64 (xs.length:Int),())=some ((l,()),()):=by
  have e:wr .u64 (xs.length:Int)=(xs.length:Int):=by
   show IntKind.u64.wrap _=_;have y:IntKind.u64.wrap (xs.length:Int)=(xs.length:Int) % 18446744073709551616:=by simp[IntKind.wrap,IntKind.bits,IntKind.signed]
   rw[y];omega
  rw[e];generalize J:xs.length=n at u;have:n=0\/n=1\/n=2\/n=3\/n=4\/n=5\/n=6\/n=7\/n=8\/n=9\/n=10\/n=11\/n=12:=by omega
  rcases this with rfl|rfl|rfl|rfl|rfl|rfl|rfl|rfl|rfl|rfl|rfl|rfl|rfl
  ·exact⟨0,by kernel_rfl⟩
  ·exact⟨1,by kernel_rfl⟩
  ·exact⟨2,by kernel_rfl⟩
  ·exact⟨2,by kernel_rfl⟩
  ·exact⟨3,by kernel_rfl⟩
  ·exact⟨3,by kernel_rfl⟩
  ·exact⟨3,by kernel_rfl⟩
  ·exact⟨3,by kernel_rfl⟩
  ·exact⟨4,by kernel_rfl⟩
  ·exact⟨4,by kernel_rfl⟩
  ·exact⟨4,by kernel_rfl⟩
  ·exact⟨4,by kernel_rfl⟩
  ·exact⟨4,by kernel_rfl⟩
 rw[r];simp only[BA];have:Q134.f K (xs,0,(xs.length:Int),l,())=some ((),(cS ltZ [] xs,())):=by
  obtain⟨k,rfl⟩:∃ H,K=H+1:=⟨K-1,by omega⟩;have z:∀ (rec:Q134.A0->Option Q134.Res) (a:Q134.A0),Q134.s0 (k+1) (xs,0,(xs.length:Int),l,()) rec a=some ((),(cS ltZ [] xs,())):=by
   intro rec a;simp only[Q134.s0];have e:wr .i64 ((xs.length:Int)-0)=(xs.length:Int):=(aK (by omega) (by omega)).trans (by omega);rw[e,decide_eq_true (by omega:(xs.length:Int)<=12)];simp only[cond_true];rw[yt (k+1) xs (by omega) I];rfl
  exact z (λ_=>none) ()
 rw[this];rfl
def d6 (l:List aM)(i:Int):Int:=((l[i.toNat]?).map (·.2)).getD 0
def ltL (l:List aM)(a b:Int):Bool:=decide (d6 l b<d6 l a)
def lt2 (l:List aM)(a b:Int):Prop:=d6 l b<d6 l a\/(d6 l a=d6 l b/\a<b)
def cA (n:Nat):List Int:=(List.range n).map λ (i:Nat)=>(i:Int)
def bz (l:List aM):List Int:=cS (ltL l) [] (cA l.length)
theorem iq {n:Nat}{i:Int}:i∈cA n<->0<=i/\i<n:=by
 unfold cA;rw[BZ];constructor
 ·rintro⟨j,hj,rfl⟩;have:=DE.1 hj;omega
 ·rintro⟨h0,h1⟩;exact⟨i.toNat,DE.2 (by omega),by omega⟩
theorem jb (n:Nat):(cA n).Pairwise (·<·):=by
 unfold cA;rw[Bu];exact List.pairwise_lt_range.imp λh=>by omega
theorem dM {l:List aM}{i:Nat}(h:i<l.length):d6 l (i:Int)=l[i].2:=by
 unfold d6;rw[BE,BK h];rfl
theorem sU (l:List aM):∀ (xs done:List Int),done.Pairwise (lt2 l)->(∀ a∈done,∀ b∈xs,a<b)->xs.Pairwise (·<·)->(cS (ltL l) done xs).Pairwise (lt2 l)
 |[],done,h,_,_=>h
 |x::xs,done,h,H,J=>by
  have y:=BQ.1 J;have M:jF (ltL l) done:=h.imp λ {a b} O=>by
   unfold ltL;rw[decide_eq_false_iff_not];rcases O with z|⟨z,_⟩ <;> omega
  have e:=kV (ltL l) (λa b c z I=>by
   unfold ltL at z I ⊢;rw[decide_eq_false_iff_not]at z I ⊢;omega) x done.reverse [] (by rw[Bs];exact M)
  rw[Bs,BN]at e;simp only[cS];rw[e];refine sU l xs _ ?_ ?_ y.2
  ·rw[CD,BQ];refine⟨h.filter _,⟨λb u=>?_,h.filter _⟩,λa r b u=>?_⟩
   ·have z:ltL l x b=true:=by simpa using (BH.1 u).2
    exact .inl (by simpa[ltL]using z)
   ·have z:ltL l x a=false:=by simpa using (BH.1 r).2
    have X:¬ d6 l a<d6 l x:=by simpa[ltL]using z
    have R:=H a (BH.1 r).1 x (by simp);rcases B8.1 u with rfl|u
    ·by_cases I:d6 l b<d6 l a
     ·exact .inl I
     ·exact .inr ⟨by omega,R⟩
    ·have I:ltL l x b=true:=by simpa using (BH.1 u).2
     have Y:d6 l b<d6 l x:=by simpa[ltL]using I
     exact .inl (by omega)
  ·intro a r b u;rcases Bz.1 r with r|r
   ·exact H a (BH.1 r).1 b (by simp[u])
   ·rcases B8.1 r with rfl|r
    ·exact y.1 b u
    ·exact H a (BH.1 r).1 b (by simp[u])
theorem pK (l:List aM):(bz l).Pairwise (lt2 l):=sU l _ [] List.Pairwise.nil (by simp) (jb _)
theorem l7 (l:List aM):(bz l).Perm (cA l.length):=by
 unfold bz;simpa using l6 (ltL l) (cA l.length) []
theorem iH {l:List aM}{i:Int}:i∈bz l<->0<=i/\i<l.length:=by rw[(l7 l).mem_iff,iq]
theorem wX (l:List aM):(bz l).length=l.length:=by rw[(l7 l).length_eq];simp[cA]
theorem uf (l:List aM):(bz l).Nodup:=(l7 l).nodup_iff.2 ((jb _).imp λh=>by omega)
def dm (T:List Int)(n:Nat):List Bool:=(cA n).map λi=>decide (i∈T)
theorem eW (T:List Int)(n:Nat):(dm T n).length=n:=by simp[dm,cA]
theorem iI (T:List Int){n i:Nat}(h:i<n):(dm T n)[i]'(by rw[eW];exact h)=decide ((i:Int)∈T):=by
 simp[dm,cA]
theorem wY {T:List Int}{n b:Nat}(u:b<n):(dm T n).set b true=dm (T++[(b:Int)]) n:=by
 refine CR (by rw[Cs,eW,eW]) λi y r=>?_
 rw[eW]at r;rw[C6,iI _ r];by_cases h:b=i
 ·subst h;rw[if_pos rfl,iI _ r];simp
 ·rw[if_neg h,iI _ r];have:¬ (i:Int)=(b:Int):=by omega
  simp[this]
def pL (l:List aM)(T:List Int)(i:Nat)(r:Int):Prop :=
 (r=-1/\∀ j:Nat,j<i->(j:Int)∈T)\/(0<=r/\r<i/\r∉T/\∀ j:Nat,j<i->(j:Int)∉T->(j:Int)≠r->lt2 l r (j:Int))
theorem zO (K:Nat)(l:List aM)(T:List Int)(hl:l.length<=1048576):∀ (d i k:Nat) (r:Int),i+d=l.length->d<k->pL l T i r ->
  ∃ b:Int,af (λrec a=>Q43.s0 K (l,dm T l.length,()) rec a) k (r,(i:Int))=some ((b,()),())/\pL l T l.length b:=by
 intro d;induction d with
 |zero =>
  intro i k r hi hk Y;obtain⟨k,rfl⟩:∃ k',k=k'+1:=⟨k-1,by omega⟩;have:i=l.length:=by omega
  subst this;refine⟨r,?_,Y⟩;show Q43.s0 K (l,dm T l.length,()) _ _=_;simp only[Q43.s0,aS];rfl
 |succ d ih =>
  intro i k r hi hk Y;obtain⟨k,rfl⟩:∃ k',k=k'+1:=⟨k-1,by omega⟩;have y:i<l.length:=by omega
  have H:∀ r,pL l T (i+1) r->∃ b:Int,af (λrec a=>Q43.s0 K (l,dm T l.length,()) rec a) k (r,((i+1:Nat):Int))=some ((b,()),())/\pL l T l.length b:=λr h=>ih (i+1) k r (by omega) (by omega) h
  show ∃ b:Int,Q43.s0 K (l,dm T l.length,()) (af (λrec a=>Q43.s0 K (l,dm T l.length,()) rec a) k) (r,(i:Int))=_/\_;generalize af (λrec a=>Q43.s0 K (l,dm T l.length,()) rec a) k=REC at H ⊢;simp only[Q43.s0];rw[bo (by omega:(i:Int)<(BB l:Int)),ag (show i<(dm T l.length).length by rw[eW];exact y),iI T y,au i (by omega)];simp only[cond_true,BA];by_cases O:(i:Int)∈T
  ·rw[decide_eq_true O];simp only[BI,cond_false];refine H r ?_;rcases Y with ⟨rfl,h⟩|⟨h0,h1,h2,X⟩
   ·refine .inl ⟨rfl,λj Z=>?_⟩;by_cases z:j=i
    ·subst z;exact O
    ·exact h j (by omega)
   ·refine .inr ⟨h0,by omega,h2,λj Z u I=>?_⟩;by_cases z:j=i
    ·subst z;exact absurd O u
    ·exact X j (by omega) u I
  ·rw[decide_eq_false O];simp only[Br,cond_true];rcases Y with ⟨rfl,h⟩|⟨h0,h1,h2,X⟩
   ·rw[show decide ((-1:Int)<0)=true from rfl];refine H (i:Int) (.inr ⟨by omega,by omega,O,λj Z u I=>?_⟩);exact absurd (h j (by omega)) u
   ·rw[decide_eq_false (by omega:¬ r<0)];obtain⟨b,rfl⟩:=BF h0;have J:b<l.length:=by omega
    simp only[cond_false];rw[ag y,ag J];simp only[BA];by_cases M:l[i].2>l[b].2
    ·rw[decide_eq_true M];refine H (i:Int) (.inr ⟨by omega,by omega,O,λj Z u I=>?_⟩);have z:j<i:=by omega
     have a1:j<l.length:=by omega
     by_cases R:(j:Int)=(b:Int)
     ·rw[R];exact .inl (by rw[dM y,dM J];exact M)
     ·have:=X j z u R;rcases this with h4|⟨h4,_⟩
      ·exact .inl (by rw[dM J]at h4;rw[dM y];omega)
      ·exact .inl (by rw[dM J]at h4;rw[dM y];omega)
    ·rw[decide_eq_false M];refine H (b:Int) (.inr ⟨by omega,by omega,h2,λj Z u I=>?_⟩);by_cases z:j=i
     ·subst z;by_cases a0:d6 l (b:Int)=d6 l (j:Int)
      ·exact .inr ⟨a0,h1⟩
      ·refine .inl ?_;rw[dM y,dM J]at *;omega
     ·exact X j (by omega) u I
theorem AF (K:Nat)(l:List aM)(n:Nat)(hl:l.length<=1048576)(hK:1048577<K):Q43.f K (l,dm ((bz l).take n) l.length,())=some ((((bz l)[n]?).getD (-1),()),()):=by
  obtain⟨b,e,hb⟩:=zO K l ((bz l).take n) hl l.length 0 K (-1) (by omega) (by omega) (.inl ⟨rfl,λj H=>by omega⟩);have:b=((bz l)[n]?).getD (-1):=by
    by_cases I:n<(bz l).length
    · rw[BK I]
      show b=(bz l)[n];have Z:(bz l)[n]∉(bz l).take n:=λh=>by
        obtain⟨j,H,e⟩:=BJ h;rw[BW]at H;rw[CV]at e;have:=CC.1 (pK l) j n (by omega) I (by omega);rw[e]at this;rcases this with u|⟨_,u⟩ <;> omega
      have hr:=iH.1 (BC I);obtain⟨m,r⟩:=BF hr.1;rcases hb with ⟨rfl,h⟩|⟨M,J,z,h3⟩
      · have:=h m (by omega)
        rw[<- r]at this;exact absurd this Z
      · by_cases Y:b=(bz l)[n]
        · exact Y
        · exfalso
          have y:=h3 m (by omega) (by rw[<- r];exact Z) (by rw[<- r];exact λh=>Y h.symm);rw[<- r]at y;have R:b∈bz l:=iH.2 ⟨M,J⟩;obtain⟨j,H,X⟩:=BJ R;have O:n<j:=by
            rcases Ci j n with h|h|h
            · exact absurd (List.mem_take_iff_getElem.2 ⟨j,by omega,X⟩) z
            · subst h;exact absurd X.symm Y
            · exact h
          have u:=CC.1 (pK l) n j I H O;rw[X]at u;rcases y with y|⟨y,h6⟩ <;> rcases u with u|⟨u,h7⟩ <;> omega
    · rw[CK (by omega)]
      show b=-1;rcases hb with ⟨rfl,_⟩|⟨M,J,z,_⟩
      · rfl
      · exfalso
        rw[Bx (by omega)]at z;exact z (iH.2 ⟨M,J⟩)
  rw[<- this];exact e
def bX (l:List aM):List Int:=(bz l).take 3
def gu (l:List aM)(i:Int):aM:=(l[i.toNat]?).getD ((0,0,0,false),0)
def dN (l:List aM)(T:List Int)(i:Int):aM:=bif decide (i∈T) then ((gu l i).1,(gu l i).2-1) else gu l i
def eh (l:List aM)(T:List Int)(n:Nat):List ah:=((cA n).filter λi=>decide (i∈T)).map λi=>(gu l i).1
def fW (l:List aM)(T:List Int)(n:Nat):List aM:=(cA n).map (dN l T)
def dB (l:List aM)(T:List Int)(n:Nat):List aM:=(fW l T n).filter λx=>decide (x.2>0)
theorem cz {l:List aM}{i:Nat}(h:i<l.length):gu l (i:Int)=l[i]:=by
 unfold gu;rw[BE,BK h];rfl
theorem mR (n:Nat):cA (n+1)=cA n++[(n:Int)]:=by
 unfold cA;rw[List.range_succ,Cf];rfl
theorem vC (l:List aM)(T:List Int)(n:Nat):eh l T (n+1)=eh l T n++(bif decide ((n:Int)∈T) then [(gu l (n:Int)).1] else []):=by
 unfold eh;rw[mR,B3,Cf,BV];cases decide ((n:Int)∈T) <;> rfl
theorem vD (l:List aM)(T:List Int)(n:Nat):dB l T (n+1)=dB l T n++(bif decide ((dN l T (n:Int)).2>0) then [dN l T (n:Int)] else []):=by
 unfold dB fW;rw[mR,Cf,B3,Ck,BV];cases decide ((dN l T (n:Int)).2>0) <;> rfl
theorem wZ (l:List aM)(T:List Int)(n:Nat):(eh l T n).length<=n:=by
 unfold eh;rw[BU];refine Bt (CB _ _) ?_;simp[cA]
theorem w8 (l:List aM)(T:List Int)(n:Nat):(dB l T n).length<=n:=by
 unfold dB;refine Bt (CB _ _) ?_;simp[fW,cA]
theorem zP (K:Nat)(l:List aM)(m:Int)(T:List Int)(M:l.length<=1048576)(H:cR l)(X:1048577<K) :
  Q44.l1 K (l,m,()) (dm T l.length,[],[],0)=some ((eh l T l.length,dB l T l.length,()),()):=by
 refine fk (step:=λrec a=>Q44.s1 K (l,m,()) rec a) l.length (λi=>(dm T l.length,eh l T i,dB l T i,(i:Int))) (some ((eh l T l.length,dB l T l.length,()),())) ?_ ?_ (by omega)
 ·intro rec i r;simp only[Q44.s1];have u:i<(dm T l.length).length:=by rw[eW];exact r
  have I:=wZ l T i;have O:=w8 l T i;obtain⟨J,R⟩:=(H.1 l[i] (BC r)).2;rw[bo (by omega:(i:Int)<(BB l:Int)),ag r,ag u,au i (by omega),BE,ag u,iI T r,vC,vD,cz r];simp only[cond_true,BA];cases z:decide ((i:Int)∈T) with
  |true =>
   have y:dN l T (i:Int)=(l[i].1,l[i].2-1):=by unfold dN;rw[z,cz r];rfl
   rw[y];simp only[cond_true];rw[szb _ _ _ (by omega) (by simp;omega),aK (n:=l[i].2-1) (by omega) (by omega)];simp only[cond_true];cases decide (l[i].2-1>0) with
   |true =>
    simp only[cond_true];rw[szb _ _ _ (by omega) (by simp;omega)];rfl
   |false =>
    simp only[cond_false,BN]
  |false =>
   have y:dN l T (i:Int)=l[i]:=by unfold dN;rw[z,cz r];rfl
   rw[y];simp only[cond_false,BN];cases decide (l[i].2>0) with
   |true =>
    simp only[cond_true];rw[szb _ _ _ (by omega) (by simp;omega)];rfl
   |false =>
    simp only[cond_false,BN]
 ·intro rec;simp only[Q44.s1,aS];rfl
theorem AG (K:Nat)(l:List aM)(J:l.length<=1048576)(hC:cR l)(X:1048577<K):Q44.f K (l,3,())=some ((eh l (bX l) l.length,dB l (bX l) l.length,()),()):=by
 have u:∀ T,Q44.l1 K (l,3,()) (dm T l.length,[],[],0)=some ((eh l T l.length,dB l T l.length,()),()):=λT=>zP K l 3 T J hC X
 have go:∀ (d n k:Nat),n+d=3->d<k->af (λrec a=>Q44.s0 K (l,3,()) (Q44.l1 K (l,3,())) rec a) k (dm ((bz l).take n) l.length,(n:Int))=some ((eh l (bX l) l.length,dB l (bX l) l.length,()),()):=by
  intro d;induction d with
  |zero =>
   intro n k hn hk;obtain⟨k,rfl⟩:∃ I,k=I+1:=⟨k-1,by omega⟩;have:n=3:=by omega
   subst this;exact u _
  |succ d Z =>
   intro n k hn hk;obtain⟨k,rfl⟩:∃ I,k=I+1:=⟨k-1,by omega⟩;have y:=Z (n+1) k (by omega) (by omega);show Q44.s0 K (l,3,()) (Q44.l1 K (l,3,())) (af (λrec a=>Q44.s0 K (l,3,()) (Q44.l1 K (l,3,())) rec a) k) (dm ((bz l).take n) l.length,(n:Int))=_;generalize af (λrec a=>Q44.s0 K (l,3,()) (Q44.l1 K (l,3,())) rec a) k=REC at y ⊢;simp only[Q44.s0];rw[decide_eq_true (by omega:(n:Int)<3),AF K l n J X,au n (by omega)];simp only[cond_true,BA];by_cases r:n<(bz l).length
   ·rw[BK r];have O:=iH.1 (BC r);have H:(bz l).take (n+1)=(bz l).take n++[(bz l)[n]]:=CE r;rw[H]at y;simp only[C7];generalize (bz l)[n]=v at O y ⊢;obtain⟨b,rfl⟩:=BF O.1;have R:b<l.length:=by omega
    have z:b<(dm ((bz l).take n) l.length).length:=by rw[eW];exact R
    rw[decide_eq_false (by omega:¬ (b:Int)<0),ag z,BE,ag z,wY R];exact y
   ·rw[CK (by omega)];show Q44.l1 K (l,3,()) (dm ((bz l).take n) l.length,[],[],0)=_;rw[u,show (bz l).take n=bX l by unfold bX;rw[Bx (by omega),Bx (by omega)]]
 simp only[Q44.f,Q44.pre];rw[decide_eq_true (by omega:(0:Int)<=(BB l:Int)),show decide ((BB l:Int)*(1:Nat)<=ao)=true from decide_eq_true (by simp only[ao];omega),BE];simp only[decide_true,CJ,cond_true];have Y:CP l.length false=dm ((bz l).take 0) l.length:=by
  refine CR (by rw[Cb,eW]) λi h1 M=>?_
  rw[eW]at M;rw[List.getElem_replicate,iI _ M];simp
 have:=go 3 0 K (by omega) (by omega);rw[<- Y]at this;exact this
theorem rS {a b:List Int}(u:a.Nodup)(r:b.Nodup)(h:∀ x,x∈a<->x∈b):a.Perm b:=by
 rw[List.perm_iff_count];intro x;rw[u.count,r.count];simp[h]
def cW (l:List aM):List Int:=(cA l.length).filter λi=>decide (i∈bX l)
theorem ug (l:List aM):cS ltZ [] (bX l)=cW l:=by
 have r:(bX l).Nodup:=(uf l).sublist (List.take_sublist _ _);have u:((cA l.length).filter λi=>decide (i∈bX l)).Nodup:=((jb l.length).imp (λh=>by omega:∀ {a b:Int},a<b->a≠b)).filter _;refine oc ltZ ?_ (mQ ltZ (λa b c r u=>by
  unfold ltZ at r u ⊢;rw[decide_eq_false_iff_not]at r u ⊢;omega) (λa b h=>by
  unfold ltZ at h ⊢;rw[decide_eq_true_eq]at h;rw[decide_eq_false_iff_not];omega) (bX l) [] List.Pairwise.nil) ?_
 ·refine (by simpa using l6 ltZ (bX l) []:(cS ltZ [] (bX l)).Perm (bX l)).trans (rS r u λx=>?_);rw[cW,BH,decide_eq_true_eq,iq];exact⟨λh=>⟨iH.1 (Cv h),h⟩,λh=>h.2⟩
 ·exact ((jb l.length).filter _).imp λh=>by unfold ltZ;exact decide_eq_true h
theorem xa {l:List aM}{i:Int}:i∈cW l<->i∈bX l:=by
 unfold cW;rw[BH,decide_eq_true_eq,iq];exact⟨λh=>h.2,λh=>⟨iH.1 (Cv h),h⟩⟩
theorem xb (l:List aM):(cW l).Pairwise (·<·):=(jb l.length).filter _
theorem eC (l:List aM)(T:List Int)(n:Nat):(fW l T n).length=n:=by simp[fW,cA]
theorem e9 (l:List aM)(T:List Int){n i:Nat}(h:i<n):(fW l T n)[i]'(by rw[eC];exact h)=dN l T (i:Int):=by
 simp[fW,cA]
theorem yw (l:List aM):fW l [] l.length=l:=by
 refine CR (eC _ _ _) λi u r=>?_
 rw[e9 l [] r];unfold dN;rw[cz r];simp
theorem yx {l:List aM}{T:List Int}{b:Nat}(y:b<l.length):(fW l T l.length).set b ((gu l (b:Int)).1,(gu l (b:Int)).2-1)=fW l (T++[(b:Int)]) l.length:=by
 refine CR (by rw[Cs,eC,eC]) λi u r=>?_
 rw[eC]at r;rw[C6,e9 _ _ r];by_cases h:b=i
 ·subst h;rw[if_pos rfl,e9 _ _ r];unfold dN;rw[decide_eq_true (by simp:(b:Int)∈T++[(b:Int)])];rfl
 ·rw[if_neg h,e9 _ _ r];unfold dN;have:((i:Int)∈T++[(b:Int)])<->(i:Int)∈T:=by
   rw[Bz,Bv];exact⟨λu=>u.resolve_right (by omega),.inl⟩
  rw[show decide ((i:Int)∈T++[(b:Int)])=decide ((i:Int)∈T) by rw[decide_eq_decide];exact this]
theorem vE {l:List aM}{T T':List Int}(h:∀ i,i∈T<->i∈T')(n:Nat):fW l T n=fW l T' n:=by
 unfold fW;refine List.map_congr_left λi _=>?_
 unfold dN;rw[show decide (i∈T)=decide (i∈T') by rw[decide_eq_decide];exact h i]
theorem uh (K:Nat)(x:ac Q139.ps)(l:List aM)(hl:l.length<=1048576)(X:cR l)(hK:1048577<K) :
  Q139.l1 K x (l,cW l,[],(BB (cW l):Int),0)=some ((eh l (bX l) l.length,dB l (bX l) l.length,()),()):=by
 have Z:(cW l).length<=l.length:=by
  refine Bt (CB _ _) ?_;simp[cA]
 refine Cm ?_ (fk (step:=λrec a=>Q139.s1 K x rec a) (cW l).length (λi=>(fW l ((cW l).take i) l.length,cW l,((cW l).take i).map (λj=>(gu l j).1),(BB (cW l):Int),(i:Int))) (some ((eh l (bX l) l.length,dB l (bX l) l.length,()),())) ?_ ?_ (by omega:(cW l).length<K))
 ·simp only[List.take_zero,DG,yw];rfl
 ·intro rec i r;simp only[Q139.s1];have Y:=iq.1 ((BH.1 (BC r)).1);have u:(cW l)[i]∉(cW l).take i:=λh=>by
   obtain⟨j,hj,e⟩:=BJ h;rw[BW]at hj;rw[CV]at e;have:=CC.1 (xb l) j i (by omega) r (by omega);omega
  have O:(cW l).take (i+1)=(cW l).take i++[(cW l)[i]]:=CE r;rw[O,Cf];have H:(((cW l).take i).map (λj=>(gu l j).1)).length<=1048576:=by rw[BU,BW];omega
  rw[bo (by omega:(i:Int)<(BB (cW l):Int)),ag r,au i (by omega),BE,ag r];simp only[cond_true,BA];generalize (cW l)[i]=v at Y u ⊢;obtain⟨b,rfl⟩:=BF Y.1;have z:b<l.length:=by omega
  have I:b<(fW l ((cW l).take i) l.length).length:=by rw[eC];exact z
  have hd:dN l ((cW l).take i) (b:Int)=l[b]:=by
   unfold dN;rw[decide_eq_false u,cz z];rfl
  obtain⟨c0,c1⟩:=(X.1 l[b] (BC z)).2;rw[ag I,BE,ag I,e9 l _ z,hd];simp only[BA];rw[szb _ _ _ (by omega) (by simp only[BU,BG,BM]at H ⊢;omega),aK (n:=l[b].2-1) (by omega) (by omega),<- yx z,cz z];simp only[cond_true,Ck,DG,cz z]
 ·intro rec;simp only[Q139.s1,aS,cond_false,CH,Q9.f];have e:∀ J:List aM,J.length<=1048576->gJ t3 J (λR=>(Q138.f K (R.1,())).map λy=>y.1.1)=some ((J.filter (λx=>!(x.2==0)),()),()):=λJ M=>qX (e:=t3) (λx=>x.2==0) M (λx _=>rfl)
  rw[e _ (by rw[eC];exact hl)];simp only[BA];rw[vE (l:=l) (T:=cW l) (T':=bX l) (λi=>xa) l.length];have ef:(fW l (bX l) l.length).filter (λx=>!(x.2==0))=dB l (bX l) l.length:=by
   unfold dB;refine Cj λx hx=>?_
   have h0:0<=x.2:=by
    obtain⟨i,r,rfl⟩:=BJ hx;rw[eC]at r;rw[e9 l _ r];obtain⟨c0,c1⟩:=(X.1 l[i] (BC r)).2;unfold dN;rw[cz r];cases decide ((i:Int)∈bX l) with
    |true=>show 0<=l[i].2-1;omega
    |false=>show 0<=l[i].2;omega
   rw[CI];simp;omega
  rw[ef];rfl
theorem vF (K:Nat)(l:List aM)(hl:l.length<=8)(H:cR l)(I:1048577<K):Q139.f K (l,3,())=some ((eh l (bX l) l.length,dB l (bX l) l.length,()),()):=by
 simp only[Q139.f,Q139.pre];obtain⟨b1,e1,e2⟩:=oR K l (by omega) I;have X:=e2.2 H;subst X;rw[e1];simp only[BA,BI,cond_false];rw[decide_eq_true (by omega:(0:Int)<=(BB l:Int)),show decide ((BB l:Int)*(8:Nat)<=ao)=true from decide_eq_true (by simp only[ao];omega),BE];simp only[decide_true,CJ,cond_true];have Y:(cA l.length).length=l.length:=by simp[cA]
 have hS:∀ i,i<=l.length->(cA i++CP (l.length-i) (0:Int)).length=l.length:=λi hi=>by simp[cA];omega
 refine Cm ?_ (fk (step:=λrec a=>Q139.s0 K (l,3,()) (Q139.l1 K (l,3,())) rec a) l.length (λi=>(cA i++CP (l.length-i) (0:Int),(i:Int))) (some ((eh l (bX l) l.length,dB l (bX l) l.length,()),())) ?_ ?_ (by omega:l.length<K))
 ·rfl
 ·intro rec i hi;simp only[Q139.s0];have u:i<(cA i++CP (l.length-i) (0:Int)).length:=by rw[hS i (by omega)];exact hi
  rw[decide_eq_true (by rw[Cb];show (i:Int)<((BD (BB l:Int):Nat):Int);omega),ag u,au i (by omega),BE,ag u];simp only[cond_true,BA];have e:(cA i++CP (l.length-i) (0:Int)).set i (i:Int)=cA (i+1)++CP (l.length-(i+1)) (0:Int):=by
   obtain⟨m,hm⟩:∃ m,l.length-i=m+1:=⟨l.length-i-1,by omega⟩;have J:(cA i).length=i:=by simp[cA]
   rw[hm,show l.length-(i+1)=m by omega,mR,Ct _ _ (by omega),J,Nat.sub_self,List.replicate_succ,List.set_cons_zero,B7];rfl
  rw[e]
 ·intro rec;simp only[Q139.s0];rw[decide_eq_false (by rw[Cb];show ¬ (BB l:Int)<((BD (BB l:Int):Nat):Int);omega),Nat.sub_self,List.replicate_zero,BN];simp only[cond_false,Q2.f];have r:=yq K (cA l.length) (λZ=>(Q126.f K (Z.1,Z.2.1,l,())).map λy=>y.1.1) (ltL l) (λi=>0<=i/\i<l.length) (λy M=>iq.1 M) (λy z M hz=>by
   obtain⟨a,rfl⟩:=BF M.1;obtain⟨b,rfl⟩:=BF hz.1;have O:a<l.length:=by omega
   have R:b<l.length:=by omega
   obtain⟨c0,c1⟩:=(H.1 l[a] (BC O)).2;obtain⟨c2,c3⟩:=(H.1 l[b] (BC R)).2;refine⟨l[b].2-l[a].2,?_,?_⟩
   ·simp only[Q126.f];rw[ag O,ag R];simp only[BA];rw[aK (n:=l[b].2-l[a].2) (by omega) (by omega)];rfl
   ·unfold ltL;rw[dM O,dM R,decide_eq_decide];omega) (by rw[Y];omega) I
  rw[r];simp only[BA];rw[dY (by omega)];simp only[BA];rw[show Q128.f K (cS (ltL l) [] (cA l.length),3,())=some ((bX l,()),()) from zE K (bz l) 3 (by rw[wX];omega)];simp only[BA];rw[yu K (bX l) (Bt (CT _ _) (by omega)) I,ug];simp only[BA];exact uh K (l,3,()) l (by omega) H I
theorem AH {a b:Int}(u:0<=a)(y:a<4611686018427387904)(r:0<=b)(z:b<4611686018427387904):0<=ql .i64 a b:=by
 obtain⟨m,rfl⟩:=BF u;obtain⟨n,rfl⟩:=BF r;have h:(BitVec.ofInt 64 (m:Int) ^^^ BitVec.ofInt 64 (n:Int)).toNat=m ^^^ n:=by
  rw[BitVec.toNat_xor,BitVec.toNat_ofInt,BitVec.toNat_ofInt];congr 1
  ·omega
  ·omega
 have H:m ^^^ n<2 ^ 62:=Nat.xor_lt_two_pow (by omega) (by omega);show 0<=IntKind.i64.wrap (((BitVec.ofInt 64 (m:Int) ^^^ BitVec.ofInt 64 (n:Int)).toNat:Nat):Int);rw[h,C8];omega
structure fG (b:List Int):Prop where
 byte:∀ y∈b,0<=y/\y<=255
 len:b.length<=2000
theorem zQ (K:Nat)(b:List Int)(q:Nat)(n:Int)(h:fG b)(hq:q<=100000)(hn:1<=n):∃ v:Int,Q150.f K ((b,(q:Int)),n,())=some ((v,()),((b,((q+1:Nat):Int)),()))/\0<=v/\v<n:=by
 have w1:wr .i64 ((q:Int)+1)=((q+1:Nat):Int):=au q (by omega);have w2:wr .i64 (((q+1:Nat):Int)-1)=(q:Int):=by rw[aK (n:=((q+1:Nat):Int)-1) (by omega) (by omega)];omega
 have hl:=h.len;have I:decide (n=0)=false:=decide_eq_false (by omega);have r:∀ x:Int,0<=x->0<=CQ x n/\CQ x n<n:=λx u=>⟨DC _ u,Cz _ (by omega)⟩
 simp only[Q150.f];rw[decide_eq_false (by omega:¬ n<1)];simp only[cond_false,w1,w2,I];by_cases M:b.length=0
 ·rw[show ((b.length:Int)==0)=true by simpa using M];exact⟨0,rfl,by omega,by omega⟩
 ·rw[show ((b.length:Int)==0)=false by simpa using M];simp only[cond_false];by_cases H:q<b.length
  ·rw[decide_eq_true (by omega:(q:Int)<(b.length:Int)),ag H];simp only[cond_true,BA];obtain⟨J,R⟩:=h.byte b[q] (BC H);rw[aK (n:=b[q]) (by omega) (by omega)];exact⟨_,rfl,r _ J⟩
  ·rw[decide_eq_false (by omega:¬ (q:Int)<(b.length:Int)),decide_eq_false (by omega:¬ (b.length:Int)=0)];simp only[cond_false];have t1:CQ (q:Int) (b.length:Int)=((q % b.length:Nat):Int):=by rw[Ch (by omega)];rfl
   have t2:wr .i64 (wr .i64 ((q:Int)*7)+3)=((q*7+3:Nat):Int):=by rw[aK (n:=(q:Int)*7) (by omega) (by omega),aK (n:=(q:Int)*7+3) (by omega) (by omega)];omega
   have t3:CQ (((q*7+3:Nat)):Int) (b.length:Int)=(((q*7+3) % b.length:Nat):Int):=by rw[Ch (by omega)];rfl
   have Y:q % b.length<b.length:=Nat.mod_lt _ (by omega);have O:(q*7+3) % b.length<b.length:=Nat.mod_lt _ (by omega);rw[t1,t2,t3,ag Y,ag O];simp only[BA];obtain⟨J,R⟩:=h.byte b[q % b.length] (BC Y);obtain⟨Z,z1⟩:=h.byte b[(q*7+3) % b.length] (BC O);generalize b[q % b.length]=y at J R ⊢;generalize b[(q*7+3) % b.length]=z at Z z1 ⊢;have d1:0<=CX (q:Int) (b.length:Int)/\CX (q:Int) (b.length:Int)<=q:=⟨DD (by omega) (by omega),C9 _ (by omega)⟩;generalize CX (q:Int) (b.length:Int)=e at d1 ⊢;have x1:wr .i64 (wr .i64 (wr .i64 (wr .i64 (wr .i64 y*131)+wr .i64 (wr .i64 z*1117))+wr .i64 ((q:Int)*29))+wr .i64 (wr .i64 e*53))=y*131+z*1117+q*29+e*53:=by
    rw[aK (n:=y) (by omega) (by omega),aK (n:=z) (by omega) (by omega),aK (n:=e) (by omega) (by omega),aK (n:=y*131) (by omega) (by omega),aK (n:=z*1117) (by omega) (by omega),aK (n:=(q:Int)*29) (by omega) (by omega),aK (n:=e*53) (by omega) (by omega),
     aK (n:=y*131+z*1117) (by omega) (by omega),aK (n:=y*131+z*1117+(q:Int)*29) (by omega) (by omega),aK (n:=y*131+z*1117+(q:Int)*29+e*53) (by omega) (by omega)]
   rw[x1];have u:0<=y*131+z*1117+q*29+e*53/\y*131+z*1117+q*29+e*53<=10000000:=by omega
   generalize y*131+z*1117+(q:Int)*29+e*53=X at u ⊢;have d2:0<=CX X 64/\CX X 64<=X:=⟨DD u.1 (by omega),C9 _ u.1⟩;rw[aK (n:=CX X 64) (by omega) (by omega)];exact⟨_,rfl,r _ (AH u.1 (by omega) d2.1 (by omega))⟩
theorem vG (K:Nat)(t:List ah)(f:ah)(ht:t.length<=1048576)(O:Asc (λg:ah=>g.1) t)(hK:1048577<K):Q36.f K (t,f,())=some (((bS t f).1,(bS t f).2,()),()):=by
 simp only[Q36.f,Q36.pre];obtain⟨o,H,I⟩:=fh K t f.1 ht hK;rw[I];simp only[BA];cases H with
 |at_ i r e =>
  simp only;rw[kh O r e,decide_eq_true (by omega:((i:Nat):Int)>=0),ag r];simp only[cond_true,BA,BE,ag r];rw[show Q19.f K (f,t[i],())=_ from pF K f t[i]];simp only[BA];by_cases H:bI f t[i]
  ·rw[decide_eq_true H,if_pos H];simp only[BI,cond_false];rw[szb _ _ _ (by omega) (by show (BB ([]:List ah))+t.length<=_;simp;omega)];simp only[cond_true,BO,ag r,BA,BE];rw[ik (k:=λg:ah=>g.1) O r e]
  ·rw[decide_eq_false H,if_neg H];rfl
 |no h =>
  simp only;rw[il h,decide_eq_false (by omega:¬ (-1:Int)>=0)];simp only[cond_false];have J:∀ m:Nat,m<=t.length->(bif decide ((0:Int)<=0)&&decide ((0:Int)<=(m:Int))&&decide ((m:Int)<=(BB t:Int))&&true then (bif decide ((BB ([]:List ah)+BB ((t.take (BD (m:Int))).drop (BD 0)))*32<=ao) then (bif decide ((BB ([]++((t.take (BD (m:Int))).drop (BD 0)))+BB ([f]))*32<=ao) then (bif decide ((0:Int)<=(m:Int))&&decide ((m:Int)<=(BB t:Int))&&decide ((BB t:Int)<=(BB t:Int))&&true then (bif decide ((BB (([]++((t.take (BD (m:Int))).drop (BD 0)))++([f]))+BB ((t.take (BD (BB t:Int))).drop (BD (m:Int))))*32<=ao) then (some (((([]++((t.take (BD (m:Int))).drop (BD 0)))++([f]))++((t.take (BD (BB t:Int))).drop (BD (m:Int))),true,()),())) else none) else none) else none) else none) else (none:Option ((List ah×Bool×Unit)×Unit)))=some ((t.take m++[f]++t.drop m,true,()),()):=by
   intro m X;rw[decide_eq_true (by omega:(0:Int)<=0),decide_eq_true (by omega:(0:Int)<=(m:Int)),decide_eq_true (by omega:(m:Int)<=(BB t:Int)),decide_eq_true (by omega:(BB t:Int)<=(BB t:Int))];simp only[BE,CN,Bq,BO,CH,CJ,cond_true];have I:(t.take m).length=m:=by rw[BW];omega
   have z:(t.drop m).length=t.length-m:=Bw;rw[szb _ _ _ (by omega) (by simp only[BM];omega),szb _ _ _ (by omega) (by simp only[BG,BM];omega),szb _ _ _ (by omega) (by simp only[BP,BG,BM];omega)];rfl
  have:=cr (step:=λrec a=>Q36.s0 K (t,f,()) rec a) t.length (λi=>(i:Int)) (λj=>∃ h:j<t.length,¬ t[j].1<f.1) (some ((t.take t.length++[f]++t.drop t.length,true,()),())) (λj=>some ((t.take j++[f]++t.drop j,true,()),())) ?_ ?_ t.length K 0 (by omega) (by omega)
  ·have M:∀ m,m<=t.length->(∀ i,(r:i<t.length)->i<m->t[i].1<f.1)->(∀ i,(r:i<t.length)->m<=i->f.1<t[i].1)->t.take m++[f]++t.drop m=bw (λg=>g.1) f t:=λm X lo r=>gq (k:=λg:ah=>g.1) X lo r
   rcases this with ⟨I,z⟩|⟨j,_,I,⟨Y,h4⟩,h5,z⟩
   ·rw[M t.length (BR _) (λi r _=>by
     have:=I i (BX _) r;exact CM.1 λh=>this ⟨r,h⟩) (λi r h=>by omega)]at z
    exact z
   ·rw[M j (by omega) (λi r y=>by
     have:=h5 i (BX _) y;exact CM.1 λh=>this ⟨r,h⟩) (λi r y=>by
     have Z:=h t[i] (BC r);rcases B4 y with R|R
     ·have:=cD.1 O j i Y r R;omega
     ·subst R;omega)]at z
    exact z
  ·intro rec i r;simp only[Q36.s0];rw[bo (by omega:(i:Int)<(BB t:Int)),ag r,au i (by omega)];simp only[cond_true,BA];rw[show idx t ((BD (i:Int):Nat):Int)=some t[i] by rw[BE];exact ag r];simp only[BA];by_cases u:t[i].1<f.1
   ·exact .inl ⟨λ⟨_,h⟩=>h u,by rw[decide_eq_true u];rfl⟩
   ·exact .inr ⟨⟨r,u⟩,by rw[decide_eq_false u];exact J i (by omega)⟩
  ·intro rec;simp only[Q36.s0,aS,cond_false];exact J t.length (BR _)
def eX (t:List ah)(fs:List ah):List ah:=fs.foldl (λt f=>(bS t f).1) t
theorem qY:∀ {fs t:List ah},aB t->(∀ f∈fs,bm f)->aB (eX t fs)
 |[],_,h,_=>h
 |f::fs,t,h,r=>qY (fs:=fs) (ki h (r f (by simp))) (λg u=>r g (by simp[u]))
theorem bY {t:List ah}(h:aB t):t.length<=1048576:=Bt (iP h.2 (λg r=>(h.1 g r).1)) (by decide)
theorem od {R:Type}(a fs:List ah)(X:aB a)(M:∀ f∈fs,bm f)(r:List ah->Option R){step:(List ah×Int->Option R)->List ah×Int->Option R}
  (h:∀ (rec:List ah×Int->Option R) (t:List ah) (i:Nat) (I:i<fs.length),aB t->step rec (t,(i:Int))=rec ((bS t fs[i]).1,((i+1:Nat):Int)))
  (y:∀ (rec:List ah×Int->Option R) (t:List ah),step rec (t,(fs.length:Int))=r t) {k:Nat} (z:fs.length<k):af step k (a,0)=r (eX a fs):=by
 have:∀ (d i k:Nat) (t:List ah),i+d=fs.length->d<k->aB t->af step k (t,(i:Int))=r (eX t (fs.drop i)):=by
  intro d;induction d with
  |zero =>
   intro i k t I z _;obtain⟨k,rfl⟩:∃ H,k=H+1:=⟨k-1,by omega⟩;have:i=fs.length:=by omega
   subst this;show step (af step k) _=_;rw[y,Cc];rfl
  |succ d O =>
   intro i k t I z J;obtain⟨k,rfl⟩:∃ H,k=H+1:=⟨k-1,by omega⟩;have u:i<fs.length:=by omega
   show step (af step k) _=_;rw[h _ _ _ u J,BL u];exact O (i+1) k _ (by omega) (by omega) (ki J (M _ (BC u)))
 have:=this fs.length 0 k a (by omega) z X
 rwa [Bq]at this
theorem AI (K:Nat)(a b:List ah)(r:aB a)(u:aB b)(y:1048577<K):Q106.f K (a,b,())=some ((eX a b,()),()):=by
 simp only[Q106.f,Q106.pre,Q0.f];obtain⟨Z,R,X⟩:=gp K a (bY r) y;obtain⟨b2,J,H⟩:=gp K b (bY u) y;have I:=X.2 r;have M:=H.2 u;subst I M;have Y:=bY u;rw[R,J];simp only[BA,BI,cond_false];rw[dY (by have:=bY r;omega)];simp only[BA];refine od a b r u.1 (step:=λrec x=>Q106.s0 K (a,b,()) rec x) (λt=>some ((t,()),())) ?_ ?_ (by omega)
 ·intro rec t i O z;simp only[Q106.s0];rw[bo (by omega:(i:Int)<(BB b:Int)),ag O,au i (by omega)];simp only[cond_true,BA];rw[vv K t _ (bY z) z.2 y];rfl
 ·intro rec t;simp only[Q106.s0,aS];rfl
theorem xc (f:ah):¬ bI f f:=by
 unfold bI;simp
theorem kl (K:Nat)(xs:List ah)(y:xs.length<=1048576)(z:1048577<K):Q223.f K (xs,xs,())=rb true:=by
 have u:Q223.l0 K (xs,xs,()) 0=rb true:=by
  refine fk (step:=λrec a=>Q223.s0 K (xs,xs,()) rec a) xs.length (λi=>(i:Int)) (rb true) ?_ ?_ (by omega)
  ·intro rec i r;simp only[Q223.s0];rw[decide_eq_true (by omega:(i:Int)<(BB xs:Int)),ag r,au i (by omega)];simp only[cond_true,BA];rw[show Ty.eqv t2 xs[i] xs[i]=decide (xs[i]=xs[i]) from gV _ _,decide_eq_true rfl];rfl
  ·intro rec;simp only[Q223.s0,aS];rfl
 simp only[Q223.f,Q223.pre,bne_self_eq_false,cond_false];exact u
theorem oX {l:List aM}(J:cR l)(T:List Int):aB (eh l T l.length):=by
 unfold eh;constructor
 ·intro f Z;obtain⟨i,H,rfl⟩:=BZ.1 Z;obtain⟨X,h1⟩:=iq.1 (BH.1 H).1;obtain⟨b,rfl⟩:=BF X;have M:b<l.length:=by omega
  rw[cz M];exact (J.1 l[b] (BC M)).1
 ·unfold Asc;rw[Bu];have Y:((cA l.length).filter λi=>decide (i∈T)).Pairwise λ (a b:Int)=>(0<=a/\a<l.length)/\(0<=b/\b<l.length)/\a<b:=by
   refine CO _ ?_;have:∀ u:List Int,(∀ x∈u,0<=x/\x<l.length)->u.Pairwise (·<·)->u.Pairwise λ (a b:Int)=>(0<=a/\a<l.length)/\(0<=b/\b<l.length)/\a<b:=by
    intro u z r;induction u with
    |nil=>exact List.Pairwise.nil
    |cons x u ih =>
     rw[BQ]at r ⊢;exact⟨λy I=>⟨z x (by simp),z y (by simp[I]),r.1 y I⟩,ih (λy I=>z y (by simp[I])) r.2⟩
   exact this _ (λx z=>iq.1 z) (jb _)
  refine Y.imp λ {a b} h=>?_
  obtain⟨⟨a0,a1⟩,⟨R,b1⟩,a2⟩:=h;obtain⟨i,rfl⟩:=BF a0;obtain⟨j,rfl⟩:=BF R;have H:i<l.length:=by omega
  have O:j<l.length:=by omega
  rw[cz H,cz O];exact cD.1 J.2 i j H O (by omega)
theorem yy {l:List aM}(J:cR l)(T:List Int):cR (dB l T l.length):=by
 have r:∀ i (h:i<l.length),(dN l T (i:Int)).1=l[i].1:=λi h=>by
  unfold dN;rw[cz h];cases decide ((i:Int)∈T) <;> rfl
 have z:∀ i (h:i<l.length),(dN l T (i:Int)).2<=l[i].2:=λi h=>by
  unfold dN;rw[cz h];cases decide ((i:Int)∈T) with
  |true=>show l[i].2-1<=l[i].2;omega
  |false=>exact B9 _
 unfold dB;constructor
 ·intro x O;obtain⟨M,H⟩:=BH.1 O;have H:x.2>0:=by simpa using H
  obtain⟨i,u,rfl⟩:=BJ M;rw[eC]at u;rw[e9 l T u]at H ⊢;have:=(J.1 l[i] (BC u));refine⟨by rw[r i u];exact this.1,?_,?_⟩
  ·omega
  ·have R:=z i u;have X:=this.2.2;omega
 ·unfold Asc;refine CO _ ?_;rw[CC];intro i j u y I;rw[eC]at u y;show (fW l T l.length)[i].1.1<(fW l T l.length)[j].1.1;rw[e9 l T u,e9 l T y,r i u,r j y];exact cD.1 J.2 i j u y I
def gv (n:aa)(to:Int):List ah :=
 bif (aQ (aa.table n) to).2.2.1==2 then (bS (eh (aa.cast n) (bX (aa.cast n)) (aa.cast n).length) (aQ (aa.table n) to)).1 else eh (aa.cast n) (bX (aa.cast n)) (aa.cast n).length
def ir (n:aa):aa:=fV n (aa.table n) (dB (aa.cast n) (bX (aa.cast n)) (aa.cast n).length) (aa.doubts n)
theorem nN {n:aa}(h:ct n)(to:Int):aB (gv n to):=by
 have u:=oX h.cast (bX (aa.cast n));unfold gv;cases r:(aQ (aa.table n) to).2.2.1==2 with
 |false=>exact u
 |true =>
  refine ki u (el h.table ?_).1;by_cases y:∃ f∈aa.table n,f.1=to
  ·exact y
  ·rw[jx (λg z e=>y ⟨g,z,e⟩)]at r;simp at r
theorem clen {n:aa}(h:ct n):(aa.cast n).length<=8:=iP h.cast.2 (λx r=>(h.cast.1 x r).1.1)
theorem uO (K:Nat)(n:aa)(to:Int)(h:ct n)(y:1048577<K):Q190.f K (n,to,())=some ((gv n to,ir n,()),()):=by
 have M:=clen h;simp only[Q190.f,zcp8];rw[show Q44.f K (n.2.2.2.2.2.2.2.2.2.1,3,())=_ from AG K (aa.cast n) (by omega) h.cast y];simp only[BA];obtain⟨o,J,I⟩:=fh K (aa.table n) to h.lt y;rw[show Q16.f K (n.2.2.2.2.2.2.2.2.1,to,())=_ from I];simp only[BA,gv];have H:=oX h.cast (bX (aa.cast n));cases J with
 |no r =>
  rw[jx r];rfl
 |at_ j z e =>
  have u:aQ (aa.table n) to=(aa.table n)[j]:=by rw[<- e];exact jv h.table.2 (BC z)
  rw[u];simp only;rw[decide_eq_true (by omega:((j:Nat):Int)>=0),show idx n.2.2.2.2.2.2.2.2.1 ((j:Nat):Int)=some (aa.table n)[j] from ag z];simp only[cond_true,BA];cases (aa.table n)[j].2.2.1==2 with
  |false=>rfl
  |true =>
   simp only[cond_true];rw[vG K _ _ (bY H) H.2 y];rfl
theorem vH (K:Nat)(n:aa)(to:Int)(h:ct n)(r:1048577<K):Q140.f K (n,to,())=some ((gv n to,()),(ir n,())):=by
 simp only[Q140.f,zcp8];rw[show Q139.f K (n.2.2.2.2.2.2.2.2.2.1,3,())=_ from vF K (aa.cast n) (clen h) h.cast r];simp only[BA];obtain⟨b,y⟩:=mN K (aa.table n) to h.table h.lt r;rw[show Q74.f K (n.2.2.2.2.2.2.2.2.1,to,())=_ from y];simp only[BA,gv];have u:=oX h.cast (bX (aa.cast n));cases (aQ (aa.table n) to).2.2.1==2 with
 |false=>rfl
 |true =>
  simp only[cond_true];rw[vv K _ _ (bY u) u.2 r];rfl
def cI (n:aa)(k:Nat):Int:=CQ (n.2.2.2.2.2.2.2.1+(k:Int)) 8
def hI (n:aa)(k:Nat):Prop:=cI n k≠n.1/\eA (aQ (aa.table n) (cI n k))=true
def askN (n:aa)(to:Int):aa :=
 let m:=ir n
 (m.1,m.2.1,m.2.2.1,m.2.2.2.1,m.2.2.2.2.1,m.2.2.2.2.2.1,m.2.2.2.2.2.2.1+1,to+1,m.2.2.2.2.2.2.2.2.1,m.2.2.2.2.2.2.2.2.2.1,(to,m.2.2.2.2.2.1,m.2.2.2.2.2.2.1+1,false),m.2.2.2.2.2.2.2.2.2.2.2)
def pingW (n:aa)(to:Int):ak:=(1,1,n.1,to,n.2.2.2.2.2.2.1+1,n.1,aa.coord n,gv n to)
theorem zR (K:Nat)(n:aa)(h:ct n)(O:0<=n.2.2.2.2.2.2.2.1)(Z:n.2.2.2.2.2.2.2.1<=8)(hK:1048577<K) :
  ∃ to:Int,Q191.f K (n,())=some ((to,()),())/\((to=-1/\∀ k,k<8->¬ hI n k)\/∃ k,k<8/\hI n k/\(∀ j,j<k->¬ hI n j)/\to=cI n k):=by
 have u:∀ k:Nat,k<8->wr .i64 (n.2.2.2.2.2.2.2.1+(k:Int))=n.2.2.2.2.2.2.2.1+(k:Int):=λk M=>aK (by omega) (by omega)
 have:=cr (step:=λrec a=>Q191.s0 K (n,()) rec a) 8 (λi=>(i:Int)) (hI n) (some ((-1,()),())) (λj=>some ((cI n j,()),())) ?_ ?_ 8 K 0 (by omega) (by omega)
 ·rcases this with ⟨y,J⟩|⟨j,_,y,R,h4,J⟩
  ·exact⟨-1,J,.inl ⟨rfl,λk M=>y k (BX _) M⟩⟩
  ·exact⟨_,J,.inr ⟨j,y,R,λm X=>h4 m (BX _) X,rfl⟩⟩
 ·intro rec i Y;simp only[Q191.s0];rw[decide_eq_true (by omega:(i:Int)<=7),u i Y,au i (by omega)];simp only[cond_true];show (¬ hI n i/\(bif cI n i != n.1 then ((Q187.f K (aa.table n,cI n i,())).bind λI=>bif I.1.1 then (some ((cI n i,()),())) else (rec ((i+1:Nat):Int))) else (rec ((i+1:Nat):Int)))=rec ((i+1:Nat):Int))\/(hI n i/\(bif cI n i != n.1 then ((Q187.f K (aa.table n,cI n i,())).bind λI=>bif I.1.1 then (some ((cI n i,()),())) else (rec ((i+1:Nat):Int))) else (rec ((i+1:Nat):Int)))=some ((cI n i,()),()));rw[sN K (aa.table n) (cI n i) h.table h.lt hK];by_cases r:cI n i=n.1
  ·exact .inl ⟨λz=>z.1 r,by rw[show (cI n i != n.1)=false by simpa using r];rfl⟩
  ·rw[show (cI n i != n.1)=true by simpa using r];cases H:eA (aQ (aa.table n) (cI n i)) with
   |true=>exact .inr ⟨⟨r,H⟩,rfl⟩
   |false=>exact .inl ⟨λz=>(by rw[z.2]at H;cases H),rfl⟩
 ·intro rec;simp only[Q191.s0];rfl
abbrev lx:=Int×ByteArray×Bool
abbrev bR:=List aa×List lx×List Int×List ah
abbrev bR.radio (w:bR):List lx:=w.2.1
abbrev bR.sides (w:bR):List Int:=w.2.2.1
abbrev bR.born (w:bR):List ah:=w.2.2.2
theorem fH {n:Int}(h:InP n 0 7):am n=n / 4:=by
 obtain⟨r,u⟩:=h;unfold am;rw[By r,aK (by omega) (by omega)]
theorem zS {α:Type}{k:α->Int}{xs:List α}(h:Asc k xs):∀ i (r:i<xs.length),k (xs[0]'(by omega))+i<=k xs[i]:=by
 rw[gL]at h;intro i;induction i with
 |zero=>intro r;simp
 |succ i u =>
  intro r;have z:=u (by omega);have y:=h (i+1) r (by omega);simp only[Nat.add_sub_cancel]at y;omega
theorem ui {t:List ah}{s:Int}(u:aB t)(z:cd t s):t.length<=4:=by
 cases h:t.length with
 |zero=>omega
 |succ m =>
  have r:m<t.length:=by omega
  have y:0<t.length:=by omega
  have O:=zS u.2 m r;have J:=z _ (BC r);have M:=z _ (BC y);have H:=(u.1 _ (BC r)).1;have I:=(u.1 _ (BC y)).1;rw[fH H]at J;rw[fH I]at M;omega
theorem sW {z:Int}{l:List bZ}(u:InP z 0 7)(h:c7 z l):l=[]\/∃ x,l=[x]:=by
 match l,h with
 |[],_=>exact .inl rfl
 |[x],_=>exact .inr ⟨x,rfl⟩
 |x::y::r,h =>
  exfalso;have H:=h.1 x (by simp);have M:=h.1 y (by simp);have O:x.1<y.1:=by
   have:=h.2;unfold Asc at this;rw[BQ]at this;exact this.1 y (by simp)
  have e:=fH u;obtain⟨⟨a1,Z⟩,J,_⟩:=H;obtain⟨⟨R,X⟩,I,_⟩:=M;obtain⟨Y,m2⟩:=u;rw[e]at J I;omega
theorem ly {a:Int}{m:Nat}(u:m<4611686018427387904):0<=bB .i64 a (m:Int)/\bB .i64 a (m:Int)<=m:=by
 have h:(BitVec.ofInt 64 a &&& BitVec.ofInt 64 (m:Int)).toNat<=m:=by
  rw[BitVec.toNat_and];refine Bt Nat.and_le_right ?_;rw[BitVec.toNat_ofInt];omega
 show 0<=IntKind.i64.wrap (((BitVec.ofInt 64 a &&& BitVec.ofInt 64 (m:Int)).toNat:Nat):Int)/\IntKind.i64.wrap (((BitVec.ofInt 64 a &&& BitVec.ofInt 64 (m:Int)).toNat:Nat):Int)<=m;generalize (BitVec.ofInt 64 a &&& BitVec.ofInt 64 (m:Int)).toNat=r at h ⊢;rw[C8];omega
def gN (g:List Int)(d:Int):Int:=g.getD (BD (CQ (bB .i64 d 255) (g.length:Int))) 0
theorem is {g:List Int}{d:Int}(h:g≠[]):idx g (CQ (bB .i64 d 255) (g.length:Int))=some (gN g d)/\idx g ((BD (CQ (bB .i64 d 255) (g.length:Int)):Nat):Int)=some (gN g d)/\gN g d∈g:=by
 have I:0<g.length:=Cg.2 h;have y:=(ly (a:=d) (m:=255) (by omega)).1;have u:0<=CQ (bB .i64 d 255) (g.length:Int):=DC _ y;have z:CQ (bB .i64 d 255) (g.length:Int)<g.length:=Cz _ (by omega);unfold gN;obtain⟨v,H⟩:=BF u;rw[H]at z ⊢;have r:v<g.length:=by omega
 rw[BE,ag r,List.getD_eq_getElem?_getD,BK r];exact⟨rfl,rfl,BC r⟩
def l8 (n:aa)(r d:Int):Int :=
 bif decide (fF (eG (aa.others n) r)≠[])&&bB .i64 d 4==0 then gN (fF (eG (aa.others n) r)) (B6 d (2 ^ 3)) else r*4+bB .i64 (B6 d (2 ^ 3)) 3
structure nO (n:aa):Prop where
 short:(aa.others n).length<=1
 table:∀ x∈aa.others n,aB x.2/\x.2.length<=1048576
theorem AJ {r d:Int}(H:0<=r)(z:r<=1):wr .i64 (wr .i64 (r*4)+bB .i64 (B6 d (2 ^ 3)) 3)=r*4+bB .i64 (B6 d (2 ^ 3)) 3:=by
 obtain⟨u,y⟩:=ly (a:=B6 d (2 ^ 3)) (m:=3) (by omega);have u:0<=bB .i64 (B6 d (2 ^ 3)) 3:=u;have y:bB .i64 (B6 d (2 ^ 3)) 3<=3:=y;rw[aK (n:=r*4) (by omega) (by omega),aK (by omega) (by omega)]
theorem far_s (K:Nat)(n:aa)(r d:Int)(h:nO n)(M:0<=r)(J:r<=1)(X:1048577<K):Q196.f K (n,r,d,())=some ((l8 n r d,()),()):=by
 obtain⟨k,rfl⟩:∃ k,K=k+2:=⟨K-2,by omega⟩;show Q196.s0 (k+2) (n,r,d,()) (af (λrec a=>Q196.s0 (k+2) (n,r,d,()) rec a) (k+1)) 0=_;have y:∀ (rec:Int->Option ((Int×Unit)×Unit)) (a:Int),¬ a<(aa.others n).length->Q196.s0 (k+2) (n,r,d,()) rec a=some ((r*4+bB .i64 (B6 d (2 ^ 3)) 3,()),()):=by
  intro rec a R;simp only[Q196.s0];rw[show decide (a<(BB n.2.2.2.2.2.2.2.2.2.2.2.2.2.2:Int))=false from decide_eq_false R,AJ M J];rfl
 match z:aa.others n with
 |[] =>
  rw[y _ _ (by rw[z];simp),l8,z];rfl
 |[x] =>
  have O:=h.table x (by rw[z];simp);have u:af (λrec a=>Q196.s0 (k+2) (n,r,d,()) rec a) (k+1) 1=some ((r*4+bB .i64 (B6 d (2 ^ 3)) 3,()),()):=y _ _ (by rw[z];simp);generalize af (λrec a=>Q196.s0 (k+2) (n,r,d,()) rec a) (k+1)=rec at u ⊢;simp only[Q196.s0];rw[show decide ((0:Int)<(BB n.2.2.2.2.2.2.2.2.2.2.2.2.2.2:Int))=true from decide_eq_true (by show (0:Int)<((aa.others n).length:Int);rw[z];simp),show idx n.2.2.2.2.2.2.2.2.2.2.2.2.2.2 (0:Int)=some x by show idx (aa.others n) (0:Int)=some x;rw[z];rfl,show wr .i64 ((0:Int)+1)=1 from rfl];simp only[cond_true,BA,u];rw[l8,z];cases I:x.1==r with
  |false =>
   simp only[cond_false,eG,Cq,I,List.find?_nil];rfl
  |true =>
   simp only[cond_true,eG,Cq,I,DA,C7];rw[uH (k+2) x.2 O.2 X];simp only[BA];by_cases H:fF x.2=[]
   ·rw[H];rfl
   ·have Y:0<(fF x.2).length:=Cg.2 H;rw[decide_eq_true H,decide_eq_true (by omega:((fF x.2).length:Int)>0)];simp only[cond_true,B5];cases bB .i64 d 4==0 with
    |false=>rfl
    |true =>
     simp only[cond_true];rw[decide_eq_false (by omega:¬ ((fF x.2).length:Int)=0),(is H).1,(is H).2.1];rfl
 |_::_::_=>exact absurd h.short (by rw[z];simp)
def lz (n:aa):Bool:=decide (n.1∈fF (aa.table n))
theorem yz (K:Nat)(n:aa)(O:(aa.table n).length<=1048576)(R:1048577<K):Q195.f K (n,())=rb (lz n):=by
 simp only[Q195.f,Q195.pre];rw[show Q194.f K (n.2.2.2.2.2.2.2.2.1,2,())=_ from uH K (aa.table n) O R];simp only[BA];have I:=wR (aa.table n);unfold lz;generalize fF (aa.table n)=g at I ⊢;have:=cr (step:=λrec a=>Q195.s0 K (n,()) rec a) g.length (λi=>(g,(i:Int))) (λj=>∃ h:j<g.length,g[j]=n.1) (rb false) (λ_=>rb true) ?_ ?_ g.length K 0 (by omega) (by omega)
 ·rcases this with ⟨y,u⟩|⟨j,_,y,⟨z,M⟩,_,u⟩
  ·rw[decide_eq_false (λH=>by
    obtain⟨i,r,e⟩:=BJ H;exact y i (BX _) r ⟨r,e⟩)]
   exact u
  ·rw[decide_eq_true (M ▸ BC z:n.1∈g)];exact u
 ·intro rec i r;simp only[Q195.s0];rw[bo (by omega:(i:Int)<(BB g:Int)),ag r,au i (by omega),BE,ag r];simp only[cond_true,BA];by_cases h:g[i]=n.1
  ·exact .inr ⟨⟨r,h⟩,by rw[show (g[i]==n.1)=true by simpa using h];rfl⟩
  ·exact .inl ⟨λ⟨_,J⟩=>h J,by rw[show (g[i]==n.1)=false by simpa using h];rfl⟩
 ·intro rec;simp only[Q195.s0,aS];rfl
def wanW (n:aa)(d r:Int):ak:=(2,(nL 6 n (l8 n r d)).2)
def l9 (n:aa)(d:Int):List ak:=bif lz n then (([0,1]:List Int).filter (λs=>s != am n.1)).map (wanW n d) else []
theorem wan_s (K:Nat)(n:aa)(d:Int)(h:nO n)(u:(aa.table n).length<=1048576)(y:1048577<K):Q197.f K (n,d,())=some ((l9 n d,()),()):=by
 simp only[Q197.f,Q197.pre];rw[yz K n u y];simp only[BA,l9];cases lz n with
 |false=>rfl
 |true =>
  simp only[BI,cond_false,cond_true];refine qq (step:=λrec a=>Q197.s0 K (n,d,()) rec a) ([0,1]:List Int) (λs=>s != am n.1) (wanW n d) (λr i=>(r,(i:Int))) (λH=>some ((H,()),())) ?_ ?_ (by simp;omega)
  ·intro rec r i z J;have M:i<2:=z;have I:([0,1]:List Int)[i]=(i:Int):=by
    have:i=0\/i=1:=by omega
    rcases this with rfl|rfl <;> rfl
   simp only[Q197.s0,I];rw[decide_eq_true (by omega:(i:Int)<=1),au i (by omega),dk K n.1];simp only[cond_true,BA];cases (i:Int) != am n.1 with
   |false=>rfl
   |true =>
    simp only[cond_true];rw[far_s K n (i:Int) d h (by omega) (by omega) y];simp only[BA];refine (congrArg (λo=>BS o _) (nM K n 6 (l8 n (i:Int) d) u)).trans ?_;simp only[BA];rw[szw _ _ _ (by omega) (by simp;omega)];rfl
  ·intro rec r J;simp only[Q197.s0];rfl
def sX (n:aa)(f:ah):Bool:=f.2.2.1 != 4&&f.1 != n.1
def fm (n:aa):List Int:=((aa.table n).filter (sX n)).map (·.1)
def sY (n:aa)(to:Int):List ak:=match aa.others n with
 |[]=>[]
 |x::_=>[(1,6,n.1,to,0,n.1,aa.coord n,x.2)]
def j9 (n:aa)(r:Int):List ak :=
 bif bB .i64 r 3==1 then l9 n (B6 r (2 ^ 2)) else
 bif bB .i64 r 3==3||decide (fm n=[]) then [] else
 bif bB .i64 r 3==0 then [nL 4 n (gN (fm n) (B6 r (2 ^ 2)))] else sY n (gN (fm n) (B6 r (2 ^ 2)))
theorem and3 (a:Int):bB .i64 a 3=0\/bB .i64 a 3=1\/bB .i64 a 3=2\/bB .i64 a 3=3:=by
 obtain⟨u,r⟩:=ly (a:=a) (m:=3) (by omega);have u:0<=bB .i64 a 3:=u;have r:bB .i64 a 3<=3:=r;omega
theorem xd {n:aa}(r:aB (aa.table n)){v:Int}(u:v∈fm n):0<=v:=by
 obtain⟨f,y,rfl⟩:=BZ.1 u;exact (r.1 f (BH.1 y).1).1.1
theorem AK (K:Nat)(n:aa)(d:Int)(H:(aa.table n).length<=1048576)(M:1048577<K):Q193.f K (n,d,())=some ((bif decide (fm n=[]) then -1 else gN (fm n) d,()),()):=by
 refine (vu (step:=λrec a=>Q193.s0 K (n,d,()) rec a) (aa.table n) (sX n) (λf=>f.1) (λy=>some ((bif decide (y=[]) then -1 else gN y d,()),())) ?_ ?_ (by omega)).trans rfl
 ·intro rec r i z I;simp only[Q193.s0];rw[show decide ((i:Int)<(BB n.2.2.2.2.2.2.2.2.1:Int))=true from bo (by omega:(i:Int)<(BB (aa.table n):Int)),show idx n.2.2.2.2.2.2.2.2.1 (i:Int)=some (aa.table n)[i] from ag z,au i (by omega)];simp only[cond_true,BA,sX];rw[szb _ _ _ (by omega) (by simp;omega)];cases (aa.table n)[i].1 != n.1 <;> cases (aa.table n)[i].2.2.1 != 4 <;> rfl
 ·intro rec r _;simp only[Q193.s0];rw[show decide ((BB (aa.table n):Int)<(BB n.2.2.2.2.2.2.2.2.1:Int))=false from aS _];simp only[cond_false];by_cases u:r=[]
  ·subst u;rfl
  ·have J:0<r.length:=Cg.2 u;rw[show ((r.length:Int)==0)=false by simp;exact u,decide_eq_false (by omega:¬ (r.length:Int)=0),decide_eq_false u,(is u).1,(is u).2.1];rfl
theorem AL (K:Nat)(n:aa)(r:Int)(h:nO n)(M:aB (aa.table n))(z:(aa.table n).length<=1048576)(I:1048577<K):Q198.f K (n,r,())=some ((j9 n r,()),()):=by
 simp only[Q198.f];rw[AK K n _ z I];simp only[BA];rw[wan_s K n _ h z I];simp only[BA,j9];by_cases u:fm n=[]
 ·rw[decide_eq_true u];simp only[cond_true,DF,show decide ((-1:Int)>=0)=false from rfl,cond_false];rcases and3 r with e|e|e|e <;> rw[e] <;> rfl
 ·have O:=xd M (is (d:=B6 r (2 ^ 2)) u).2.2;rw[decide_eq_false u];simp only[cond_false,Bool.or_false];rw[decide_eq_true (by omega:gN (fm n) (B6 r (2 ^ 2))>=0)];simp only[cond_true];rw[show Q41.f K (n,4,gN (fm n) (B6 r (2 ^ 2)),0,n.1,n.2.2.2.2.2.2.2.2.1,())=_ from nM K n 4 _ z];simp only[BA];rcases and3 r with e|e|e|e
  ·rw[e];rfl
  ·rw[e];rfl
  ·rw[e];simp only[show ((2:Int)==0)=false from rfl,show ((2:Int)==1)=false from rfl,show ((2:Int)==2)=true from rfl,show ((2:Int)==3)=false from rfl,cond_false,cond_true];unfold sY
   match y:aa.others n with
   |[] =>
    rw[show decide ((BB n.2.2.2.2.2.2.2.2.2.2.2.2.2.2:Int)>0)=false by show decide (((aa.others n).length:Int)>0)=false;rw[y];rfl];rfl
   |[x] =>
    have J:=h.table x (by rw[y];simp);have H:(aa.others n).length=1:=by rw[y];rfl
    rw[show decide ((BB n.2.2.2.2.2.2.2.2.2.2.2.2.2.2:Int)>0)=true by show decide (((aa.others n).length:Int)>0)=true;rw[H];rfl,show decide ((BB n.2.2.2.2.2.2.2.2.2.2.2.2.2.2:Int)=0)=false by show decide (((aa.others n).length:Int)=0)=false;rw[H];rfl];simp only[cond_true,cond_false];rw[show idx n.2.2.2.2.2.2.2.2.2.2.2.2.2.2 (CQ (bB .i64 (B6 r (2 ^ 10)) 255) (BB n.2.2.2.2.2.2.2.2.2.2.2.2.2.2:Int))=some x by
     show idx (aa.others n) (CQ (bB .i64 (B6 r (2 ^ 10)) 255) ((aa.others n).length:Int))=some x;rw[H,y,show ((1:Nat):Int)=1 from rfl,Int.tmod_one];rfl]
    simp only[BA,Q41.f];rw[szb _ _ _ (by omega) (by have:=J.2;simp;omega)];rfl
   |_::_::_=>exact absurd h.short (by rw[y];simp)
  ·rw[e];rfl
def rk (f:ah):Int:=f.2.1*16+f.2.2.1*2+(if f.2.2.2=true then 1 else 0)
theorem qt {f g:ah}(u:bm f)(r:bm g):bI f g<->rk g<rk f:=by
 obtain⟨_,_,H,I⟩:=u;obtain⟨_,_,y,z⟩:=r;unfold bI rk;by_cases a:f.2.1=g.2.1
 ·rw[if_neg (by simpa using a)];by_cases c:f.2.2.1=g.2.2.1
  ·rw[if_neg (by simpa using c),a,c];cases f.2.2.2 <;> cases g.2.2.2 <;> simp <;> omega
  ·rw[if_pos c];cases f.2.2.2 <;> cases g.2.2.2 <;> simp <;> omega
 ·rw[if_pos a];cases f.2.2.2 <;> cases g.2.2.2 <;> simp <;> omega
theorem oe {t:List ah}(z:Asc (λg:ah=>g.1) t)(f:ah):bS t f=(t,false)\/(bS t f=(bw (λg=>g.1) f t,true)/\∀ g∈t,g.1=f.1->bI f g):=by
 by_cases h:∃ g∈t,g.1=f.1
 ·obtain⟨g,r,e⟩:=h;obtain⟨i,J,rfl⟩:=BJ r;rw[kh z J e];by_cases y:bI f t[i]
  ·rw[if_pos y];refine .inr ⟨rfl,λM u I=>?_⟩;rw[ij z u r (by rw[e,I])];exact y
  ·rw[if_neg y];exact .inl rfl
 ·have H:∀ g∈t,g.1≠f.1:=λg r e=>h ⟨g,r,e⟩
  exact .inr ⟨il H,λg r e=>absurd e (H g r)⟩
theorem oh {n:aa}(Y:aB (aa.table n)):iE n<->(∀ d∈aa.doubts n,lu n d)/\Asc (λd:bO=>d.1) (aa.doubts n)/\∀ f∈aa.table n,f.2.2.1=2->∃ d∈aa.doubts n,d.1=f.1:=by
 have J:((aU (aa.table n)).map (λf:ah=>f.1)).Pairwise (·<·):=by
  rw[Bu];exact CO _ Y.2
 constructor
 ·rintro⟨h1,h2,h3⟩;refine⟨h1,h2,λf z u=>?_⟩;have r:((aa.doubts n).map (λd:bO=>d.1)).Pairwise (·<·):=by rw[Bu];exact h2
  have:=(i9 _ _ r J (λx y=>by
   obtain⟨d,r,rfl⟩:=BZ.1 y;obtain⟨⟨g,M,e,I,_⟩,_⟩:=h1 d r;exact BZ.2 ⟨g,BH.2 ⟨M,by simpa using I⟩,e⟩)).2 (by rw[BU,BU,h3])
  have O:f.1∈(aU (aa.table n)).map (λf:ah=>f.1):=BZ.2 ⟨f,BH.2 ⟨z,by simpa using u⟩,rfl⟩;rw[<- this]at O;obtain⟨d,r,e⟩:=BZ.1 O;exact⟨d,r,e⟩
 ·rintro⟨h1,h2,h3⟩;refine⟨h1,h2,?_⟩;have r:((aa.doubts n).map (λd:bO=>d.1)).Pairwise (·<·):=by rw[Bu];exact h2
  have X:=(i9 _ _ r J (λx y=>by
   obtain⟨d,r,rfl⟩:=BZ.1 y;obtain⟨⟨g,M,e,I,_⟩,_⟩:=h1 d r;exact BZ.2 ⟨g,BH.2 ⟨M,by simpa using I⟩,e⟩)).1
  have R:=(i9 _ _ J r (λx y=>by
   obtain⟨f,z,rfl⟩:=BZ.1 y;obtain⟨H,u⟩:=BH.1 z;obtain⟨d,r,e⟩:=h3 f H (by simpa using u);exact BZ.2 ⟨d,r,e⟩)).1
  rw[BU,BU]at X R;omega
def ch (n:aa):Int:=n.2.2.2.2.2.1
def fp (n:aa)(b:Int):Prop:=InP b 0 7/\am b=am n.1
theorem oi {n:aa}(r:Asc (λg:ah=>g.1) (aa.table n))(f:ah)(b:Int):sayOf n f b=n \/
  (sayOf n f b=fV n (bw (λg=>g.1) f (aa.table n)) (dr (aa.cast n) f) (bif jS n f then aa.doubts n else cO (ch n) (aa.doubts n) f b)/\∀ g∈aa.table n,g.1=f.1->bI f g):=by
 rcases oe r f with h|⟨h,u⟩
 ·left;unfold sayOf;rw[h];rfl
 ·right;refine⟨?_,u⟩;unfold sayOf;rw[h];rfl
theorem vI {n:aa}{f:ah}{b:Int}(X:aB (aa.table n))(hD:iE n)(hf:bm f)(hb:fp n b)(hn:0<=ch n)(c:List aM) :
  iE (fV n (bw (λg=>g.1) f (aa.table n)) c (bif jS n f then aa.doubts n else cO (ch n) (aa.doubts n) f b)):=by
 obtain⟨h1,h2,h3⟩:=(oh X).1 hD;have a1:aB (bw (λg:ah=>g.1) f (aa.table n)):=⟨λg y=>by
  rcases aZ.1 y with rfl|⟨y,_⟩
  ·exact hf
  ·exact X.1 g y,e8 X.2⟩
 refine (oh (n:=fV n _ c _) a1).2 ?_;have I:∀ d∈aa.doubts n,d.1≠f.1->∀ ds,lu (fV n (bw (λg:ah=>g.1) f (aa.table n)) c ds) d:=λd z u ds=>by
  obtain⟨⟨g,y,O,R,Y⟩,r⟩:=h1 d z;exact⟨⟨g,aZ.2 (.inr ⟨y,by rw[O];exact u⟩),O,R,Y⟩,r⟩
 have J:∀ g∈bw (λg:ah=>g.1) f (aa.table n),g.1≠f.1->g.2.2.1=2->∃ d∈aa.doubts n,d.1=g.1:=λg y u h=>by
  rcases aZ.1 y with rfl|⟨y,_⟩
  ·exact absurd rfl u
  ·exact h3 g y h
 cases hs:jS n f with
 |true =>
  obtain⟨g0,M,s1,s2,s3⟩:=of_decide_eq_true hs;refine⟨λd z=>?_,h2,λg y h=>?_⟩
  ·by_cases u:d.1=f.1
   ·obtain⟨⟨g,y,O,R,Y⟩,r⟩:=h1 d z;rw[ij X.2 y M (by rw[O,s1,u])]at R Y;exact⟨⟨f,aZ.2 (.inl rfl),u.symm,by rw[<- s3];exact R,by rw[<- s2];exact Y⟩,r⟩
   ·exact I d z u _
  ·by_cases u:g.1=f.1
   ·have a0:g=f:=by
     rcases aZ.1 y with h|⟨_,h⟩
     ·exact h
     ·exact absurd u h
    rw[a0]at h ⊢;obtain⟨d,z,e⟩:=h3 g0 M (by rw[s3];exact h);exact⟨d,z,by rw[e,s1]⟩
   ·exact J g y u h
 |false =>
  by_cases H:f.2.2.1=2
  ·have e:cO (ch n) (aa.doubts n) f b=bw (λd=>d.1) (mkD (ch n) f b) (aa.doubts n):=by unfold cO;rw[if_pos H]
   simp only[cond_false];rw[e];refine⟨λd z=>?_,e8 h2,λg y h=>?_⟩
   ·rcases aZ.1 z with rfl|⟨z,u⟩
    ·exact⟨⟨f,aZ.2 (.inl rfl),rfl,H,rfl⟩,⟨hn,B9 _⟩,List.cons_ne_nil _ _,λx hx=>by rw[Bv.1 hx];exact hb,Cn _ _⟩
    ·exact I d z u _
   ·by_cases u:g.1=f.1
    ·exact⟨mkD (ch n) f b,aZ.2 (.inl rfl),u.symm⟩
    ·obtain⟨d,z,e⟩:=J g y u h;exact⟨d,aZ.2 (.inr ⟨z,λe'=>u (e.symm.trans e')⟩),e⟩
  ·have e:cO (ch n) (aa.doubts n) f b=(aa.doubts n).filter (λd=>!(d.1==f.1)):=by unfold cO;rw[if_neg H]
   simp only[cond_false];rw[e];refine⟨λd z=>?_,lX h2 _,λg y h=>?_⟩
   ·obtain⟨z,u⟩:=BH.1 z;exact I d z (by simpa using u) _
   ·have u:g.1≠f.1:=λu=>by
     rcases aZ.1 y with Z|⟨_,Z⟩
     ·rw[Z]at h;exact H h
     ·exact Z u
    obtain⟨d,z,e⟩:=J g y u h;exact⟨d,BH.2 ⟨z,by rw[e];simpa using u⟩,e⟩
theorem vJ {n:aa}{f:ah}(X:aB (aa.table n))(O:cR (aa.cast n))(R:gU (aa.table n) (aa.cast n))(M:bm f)(Y:∀ g∈aa.table n,g.1=f.1->bI f g) :
  gU (bw (λg=>g.1) f (aa.table n)) (dr (aa.cast n) f):=by
 have I:∀ x∈aa.cast n,∃ g∈bw (λg:ah=>g.1) f (aa.table n),g.1=x.1.1/\¬ bI x.1 g:=λx r=>by
  obtain⟨g,J,e,z⟩:=R x r;by_cases u:g.1=f.1
  ·refine⟨f,aZ.2 (.inl rfl),by rw[<- e,u],λh=>z ?_⟩;have H:=(O.1 x r).1;have y:=X.1 g J;have:=Y g J u;rw[qt M y]at this;rw[qt H M]at h;rw[qt H y];omega
  ·exact⟨g,aZ.2 (.inr ⟨J,u⟩),e,z⟩
 intro x r;unfold dr at r;split at r
 ·exact I x r
 ·rcases aZ.1 r with rfl|⟨r,_⟩
  ·exact⟨f,aZ.2 (.inl rfl),rfl,xc f⟩
  ·exact I x r
structure UpX (n:aa):Prop where
 me:InP n.1 0 7
 now0:0<=ch n
 table:aB (aa.table n)
 site:cd (aa.table n) (am n.1)
 cast:cR (aa.cast n)
 vs:gU (aa.table n) (aa.cast n)
 probe:cZ n
 doubts:iE n
 coord:cH (aa.coord n)
 places:eu n.1 (aa.places n)
 others:c7 n.1 (aa.others n)
theorem UpX.of {n:aa}(h:UpP n)(z:InP n.1 0 7)(O:0<=ch n):UpX n:=by
 obtain⟨H,R,_,⟨I,M⟩,J,X,y,r,u⟩:=h;exact⟨z,O,H,R,I,M,J,X,y,r,u⟩
theorem UpX.up {n:aa}(h:UpX n)(r:db n):UpP n:=⟨h.table,h.site,r,⟨h.cast,h.vs⟩,h.probe,h.doubts,h.coord,h.places,h.others⟩
theorem UpX.say {n:aa}(h:UpX n):ct n:=by
 refine ct.mk' h.table h.cast h.doubts.2.1 λd r=>?_
 obtain⟨f,u,e,_⟩:=(h.doubts.1 d r).1;rw[<- e];exact (h.table.1 f u).1
theorem fp.me {n:aa}(h:InP n.1 0 7):fp n n.1:=⟨h,rfl⟩
theorem qZ {n m:aa}(h:cZ n)(J:m.1=n.1)(H:aa.probe m=aa.probe n)(Z:∀ g∈aa.table n,∃ y∈aa.table m,y.1=g.1)(hn:ch n<=ch m)(hs:n.2.2.2.2.2.2.1<=m.2.2.2.2.2.2.1):cZ m:=by
 unfold cZ at h ⊢;rw[H,J];split at h
 ·rename_i u;rw[if_pos u];exact h
 ·rename_i u;rw[if_neg u];obtain⟨R,⟨g,hg,Y⟩,⟨M,I⟩,⟨O,X⟩⟩:=h;obtain⟨y,r,z⟩:=Z g hg;exact⟨R,⟨y,r,z.trans Y⟩,⟨M,CY I hn⟩,⟨O,CY X hs⟩⟩
theorem UpX.said {n:aa}{f:ah}{b:Int}(h:UpX n)(u:bm f)(H:am f.1=am n.1)(z:fp n b):UpX (sayOf n f b):=by
 rcases oi h.table.2 f b with e|⟨e,I⟩
 ·rw[e];exact h
 ·have y:=λg r=>jy (n:=n) (f:=f) (b:=b) (g:=g) r
  rw[e]at y ⊢;refine⟨h.me,h.now0,⟨λg r=>?_,e8 h.table.2⟩,λg r=>?_,pH h.cast u,vJ h.table h.cast h.vs u I,qZ h.probe rfl rfl y (B9 _) (B9 _),vI h.table h.doubts u z h.now0 _,h.coord,h.places,h.others⟩
  ·rcases aZ.1 r with rfl|⟨r,_⟩
   ·exact u
   ·exact h.table.1 g r
  ·rcases aZ.1 r with rfl|⟨r,_⟩
   ·exact H
   ·exact h.site g r
theorem xe {n:aa}(u:Asc (λg:ah=>g.1) (aa.table n)){f g:ah}{b:Int}(r:g.1≠f.1):g∈aa.table (sayOf n f b)<->g∈aa.table n:=by
 rcases oi u f b with e|⟨e,_⟩
 ·rw[e]
 ·rw[e];exact aZ.trans ⟨λh=>h.elim (λh=>absurd (by rw[h]) r) (·.1),λh=>.inr ⟨h,r⟩⟩
theorem q8 {n:aa}(u:Asc (λg:ah=>g.1) (aa.table n)){f:ah}{b:Int}(h:∀ g∈aa.table n,g.1=f.1->bI f g):f∈aa.table (sayOf n f b):=by
 have I:bS (aa.table n) f=(bw (λg=>g.1) f (aa.table n),true):=by
  rcases oe u f with e|⟨e,_⟩
  ·by_cases y:∃ g∈aa.table n,g.1=f.1
   ·obtain⟨g,r,z⟩:=y;obtain⟨i,H,rfl⟩:=BJ r;rw[kh u H z,if_pos (h _ r z)]
   ·exact il λg r e=>y ⟨g,r,e⟩
  ·exact e
 unfold Go.Proofs.YtaelpfghkndliaaGreatEv.sayOf;rw[I];exact aZ.2 (.inl rfl)
def OnN (n m:aa):Prop:=∃ t c r,m=fV n t c r
theorem OnN.refl (n:aa):OnN n n:=⟨_,_,_,rfl⟩
theorem OnN.say {n m:aa}(h:OnN n m)(f:ah)(b:Int):OnN n (Go.Proofs.YtaelpfghkndliaaGreatEv.sayOf m f b):=by
 obtain⟨t,c,u,rfl⟩:=h;obtain⟨z,y,r,e,_⟩:=iG (fV n t c u) f b;exact⟨z,y,r,e⟩
def ma (n:aa):ah:=(n.1,n.2.2.2.2.1,(if n.2.2.1=true then 4 else 1),n.2.2.2.1)
theorem oY {n m:aa}(I:Asc (λg:ah=>g.1) (aa.table m))(y:OnN n m){f:ah}{b:Int}(r:f.1≠n.1)(h:db m):db (sayOf m f b):=by
 obtain⟨t,c,R,e⟩:=y.say f b;obtain⟨M,O,J,z⟩:=y;have H:ma n∈aa.table m:=by rw[z]at h ⊢;exact h
 have u:=(xe I (f:=f) (b:=b) (g:=ma n) (λh=>r h.symm)).2 H;rw[e]at u ⊢;exact u
theorem yA {n:aa}(h:UpX n)(u:db n){d:bO}(y:d∈aa.doubts n):d.1≠n.1:=by
 obtain⟨⟨g,I,e,r,_⟩,_⟩:=h.doubts.1 d y;intro H;have z:ma n∈aa.table n:=u;have:=ij h.table.2 I z (by rw[e,H];rfl);rw[this]at r;revert r;show (if n.2.2.1=true then (4:Int) else 1)=2->False;split <;> omega
theorem mS {n:aa}(h:UpX n)(hs:db n):UpX (kk n)/\db (kk n)/\OnN n (kk n):=by
 have:=lY (st:=ip) (Inv:=λm=>(UpX m/\db m/\OnN n m)/\∀ g∈aa.table n,∃ O∈aa.table m,O.1=g.1) (ds:=aa.doubts n) (n:=n) ⟨⟨h,hs,OnN.refl n⟩,λg y=>⟨g,y,rfl⟩⟩ ?_
 ·exact this.1
 ·rintro m d Z ⟨⟨r,u,Y⟩,X⟩;have R:=yA h hs Z;unfold ip;cases qr m.2.2.2.2.2.1 d.2.2.1 d.2.2.2.length with
  |false=>exact⟨⟨r,u,Y⟩,X⟩
  |true =>
   obtain⟨⟨g,y,e,_⟩,_⟩:=h.doubts.1 d Z;obtain⟨O,z,e'⟩:=X g y;obtain⟨h1,h2,h3⟩:=el r.table ⟨O,z,e'.trans e⟩;have I:am (kE (aQ (aa.table m) d.1)).1=am m.1:=by
    show am (aQ (aa.table m) d.1).1=am m.1;exact r.site _ h3
   have H:(kE (aQ (aa.table m) d.1)).1≠n.1:=by rw[show (kE (aQ (aa.table m) d.1)).1=_ from h2];exact R
   refine⟨⟨r.said (uJ h1) I (fp.me r.me),oY r.table.2 Y H u,Y.say _ _⟩,λg y=>?_⟩;obtain⟨g1,J,e1⟩:=X g y;obtain⟨g2,M,e2⟩:=jy (f:=kE (aQ (aa.table m) d.1)) (b:=m.1) J;exact⟨g2,M,e2.trans e1⟩
theorem UpX.setProbe {n:aa}(h:UpX n){p:ah}(r:cZ (setP n p)):UpX (setP n p):=⟨h.me,h.now0,h.table,h.site,h.cast,h.vs,r,h.doubts,h.coord,h.places,h.others⟩
theorem xf (n:aa):cZ (setP n noP):=by
 unfold cZ;exact (if_pos rfl).mpr rfl
theorem xg {n:aa}(h:UpX n)(z:db n):UpX (dl n).1/\db (dl n).1/\∃ p,OnN (setP n p) (dl n).1:=by
 have r:UpX n/\db n/\∃ p,OnN (setP n p) n:=⟨h,z,aa.probe n,OnN.refl n⟩;have y:UpX (setP n noP):=h.setProbe (xf n);unfold dl;cases R:(aa.probe n).1==-1 with
 |true=>exact r
 |false =>
  have H:(aa.probe n).1≠-1:=by simpa using R
  have u:=h.probe;unfold cZ at u;rw[if_neg H]at u;simp only[cond_false];cases X:eA (aQ (aa.table n) (aa.probe n).1) with
  |false=>exact⟨y,z,_,OnN.refl _⟩
  |true =>
   obtain⟨M,O,J⟩:=el h.table (gX X);simp only[BI,cond_false];cases decide (n.2.2.2.2.2.1-(aa.probe n).2.1>=4) with
   |true =>
    simp only[cond_true];cases (aQ (aa.table n) (aa.probe n).1).2.2.1==1 with
    |true =>
     have I:am (pJ (aQ (aa.table n) (aa.probe n).1)).1=am (setP n noP).1:=by
      show am (aQ (aa.table n) (aa.probe n).1).1=am n.1;exact h.site _ J
     refine⟨y.said (zM M) I (fp.me (n:=setP n noP) h.me),oY (n:=setP n noP) (m:=setP n noP) h.table.2 (OnN.refl (setP n noP)) ?_ z,noP,(OnN.refl (setP n noP)).say _ _⟩;rw[show (pJ (aQ (aa.table n) (aa.probe n).1)).1=_ from O];exact u.1
    |false=>exact⟨y,z,_,OnN.refl _⟩
   |false =>
    simp only[cond_false];cases decide (n.2.2.2.2.2.1-(aa.probe n).2.1>=2) with
    |false=>exact r
    |true =>
     simp only[cond_true];cases (aa.probe n).2.2.2 with
     |true=>exact r
     |false =>
      refine⟨h.setProbe ?_,z,_,OnN.refl _⟩;show cZ (lw n);unfold cZ;rw[if_neg (show ¬ (aa.probe (lw n)).1=-1 from H)];exact u
def iR (n:aa):Option Int:=((List.range 8).map (cI n)).find? λx=>x != n.1&&eA (aQ (aa.table n) x)
def jG (n:aa):Int:=n.2.2.2.2.2.2.1
def dR (n:aa):aa×List ak:=bif decide (jG n>=999999) then (n,[]) else match iR n with
 |some to=>(askN n to,[pingW n to])
 |none=>(n,[])
theorem q9 {n:aa}{to:Int}(h:iR n=some to):to≠n.1/\eA (aQ (aa.table n) to)=true:=by
 have:=Cr h;simpa using this
theorem xh {l:List aM}{T:List Int}{x:aM}(h:x∈dB l T l.length):∃ y∈l,x.1=y.1:=by
 unfold dB at h;obtain⟨u,_⟩:=BH.1 h;obtain⟨i,r,rfl⟩:=BJ u;rw[eC]at r;rw[e9 l T r];refine⟨l[i],BC r,?_⟩;unfold dN;rw[cz r];cases decide ((i:Int)∈T) <;> rfl
theorem UpX.way {n:aa}(h:UpX n):UpX (ir n):=⟨h.me,h.now0,h.table,h.site,yy h.cast _,λx I=>by
 obtain⟨y,H,e⟩:=xh I;obtain⟨g,u,r,z⟩:=h.vs y H;exact⟨g,u,by rw[e,r],by rw[e];exact z⟩,h.probe,h.doubts,h.coord,h.places,h.others⟩
structure sZ (n:aa):Prop where
 seq:InP (jG n) 0 999999
 turn:InP n.2.2.2.2.2.2.2.1 0 8
theorem AM {n:aa}(h:UpX n)(u:db n)(z:sZ n):UpX (dR n).1/\db (dR n).1/\sZ (dR n).1/\(dR n).1.1=n.1/\ch (dR n).1=ch n/\(dR n).1.2.2.2.2.1=n.2.2.2.2.1:=by
 unfold dR;by_cases H:jG n>=999999
 ·rw[decide_eq_true H];exact⟨h,u,z,rfl,rfl,rfl⟩
 ·rw[decide_eq_false H];simp only[cond_false];cases X:iR n with
  |none=>exact⟨h,u,z,rfl,rfl,rfl⟩
  |some to =>
   obtain⟨y,R⟩:=q9 X;obtain⟨O,I,M⟩:=el h.table (gX R);obtain⟨⟨Z,Y⟩,_⟩:=z;have r:InP to 0 7:=I ▸ O.1;have J:=h.way;refine⟨⟨h.me,h.now0,h.table,h.site,J.cast,J.vs,?_,h.doubts,h.coord,h.places,h.others⟩,u,⟨⟨show 0<=jG n+1 by omega,show jG n+1<=999999 by omega⟩,show 0<=to+1 by have:=r.1;omega,show to+1<=8 by have:=r.2;omega⟩,rfl,rfl,rfl⟩;show cZ (askN n to);unfold cZ;rw[if_neg (show ¬ (aa.probe (askN n to)).1=-1 by have:=r.1;show ¬ to=-1;omega)];exact⟨y,⟨_,M,I⟩,⟨h.now0,B9 _⟩,show 1<=jG n+1 by omega,B9 _⟩
def d7 (n:aa):aa:=(n.1,n.2.1,n.2.2.1,n.2.2.2.1,n.2.2.2.2.1,n.2.2.2.2.2.1+1,n.2.2.2.2.2.2)
def fq (m:aa):aa×List ak:=bif (aa.probe m).1==-1 then dR m else (m,[])
def ft (n:aa):aa×List ak:=dl (kk (d7 n))
def kF (n:aa):aa:=(fq (ft n).1).1
def pM (n:aa)(r:Int):List ak:=(ft n).2++(fq (ft n).1).2++j9 (kF n) r
theorem UpX.later {n:aa}(h:UpX n):UpX (d7 n):=by
 have J:ch (d7 n)=ch n+1:=rfl;have M:=h.now0;refine⟨h.me,by omega,h.table,h.site,h.cast,h.vs,qZ h.probe rfl rfl (λg I=>⟨g,I,rfl⟩) (by omega) (B9 _),⟨λd u=>?_,h.doubts.2⟩,h.coord,h.places,h.others⟩;obtain⟨z,⟨H,r⟩,y⟩:=h.doubts.1 d u;exact⟨z,⟨H,CY r (show ch n<=ch (d7 n) by omega)⟩,y⟩
structure UpN (n:aa):Prop where
 x:UpX n
 self:db n
 now1:ch n<=999999
 seq:sZ n
 inc:InP n.2.2.2.2.1 0 999
 up:n.2.1=true
theorem UpN.of {n:aa}(h:fE n)(u:n.2.1=true):UpN n:=by
 obtain⟨I,y,z,H,J,r⟩:=h;rw[if_pos u]at r;exact⟨UpX.of r I y.1,r.2.2.1,y.2,⟨z,H⟩,J,u⟩
theorem UpN.ok {n:aa}(h:UpN n):fE n:=⟨h.x.me,⟨h.x.now0,h.now1⟩,h.seq.seq,h.seq.turn,h.inc,by rw[if_pos h.up];exact h.x.up h.self⟩
theorem pN {n:aa}(h:UpN n)(X:ch n<999999):UpN (ft n).1/\(ft n).1.1=n.1/\(ft n).1.2.2.1=n.2.2.1:=by
 have O:db (d7 n):=h.self;obtain⟨H,J,u⟩:=mS h.x.later O;obtain⟨r,I,p,M⟩:=xg H J;obtain⟨t,c,ds,y⟩:=u;obtain⟨Y,Z,R,z⟩:=M;have e:(ft n).1=_:=z;rw[y]at e;refine⟨⟨r,I,?_,⟨?_,?_⟩,?_,?_⟩,?_,?_⟩
 ·show ch (ft n).1<=999999;rw[e];show ch n+1<=999999;omega
 ·show InP (jG (ft n).1) 0 999999;rw[e];exact h.seq.seq
 ·show InP (ft n).1.2.2.2.2.2.2.2.1 0 8;rw[e];exact h.seq.turn
 ·show InP (ft n).1.2.2.2.2.1 0 999;rw[e];exact h.inc
 ·show (ft n).1.2.1=true;rw[e];exact h.up
 ·rw[e];rfl
 ·rw[e];rfl
theorem ta {m:aa}:(dR m).1.2.1=m.2.1/\(dR m).1.2.2.1=m.2.2.1:=by
 unfold dR;cases decide (jG m>=999999) with
 |true=>exact⟨rfl,rfl⟩
 |false =>
  cases iR m with
  |none=>exact⟨rfl,rfl⟩
  |some to=>exact⟨rfl,rfl⟩
theorem vK {m:aa}(h:UpN m):UpN (fq m).1/\(fq m).1.1=m.1/\(fq m).1.2.2.1=m.2.2.1:=by
 unfold fq;cases (aa.probe m).1==-1 with
 |false=>exact⟨h,rfl,rfl⟩
 |true =>
  obtain⟨H,I,r,y,u,z⟩:=AM h.x h.self h.seq;refine⟨⟨H,I,?_,r,?_,?_⟩,y,ta.2⟩
  ·show ch (dR m).1<=999999;rw[u];exact h.now1
  ·show InP (dR m).1.2.2.2.2.1 0 999;rw[z];exact h.inc
  ·show (dR m).1.2.1=true;rw[ta.1];exact h.up
theorem qu {n:aa}(h:UpN n)(y:ch n<999999):UpN (kF n)/\(kF n).1=n.1/\(kF n).2.2.1=n.2.2.1:=by
 obtain⟨H,I,u⟩:=pN h y;obtain⟨z,J,r⟩:=vK H;exact⟨z,J.trans I,r.trans u⟩
theorem yB {f g:ah}(h:g.2.1<f.2.1):bI f g:=by
 unfold bI;rw[if_pos (by omega)];exact h
theorem zT {f g:ah}(h:bI f g):g.2.1<=f.2.1:=by
 unfold bI at h;split at h <;> omega
theorem UpX.inc {n:aa}(h:UpX n)(i:Int):UpX (gr n i):=⟨h.me,h.now0,h.table,h.site,h.cast,h.vs,h.probe,h.doubts,h.coord,h.places,h.others⟩
theorem ra {n:aa}(h:UpX n)(r:db n){g:ah}(u:g∈aa.table n)(e:g.1=n.1):g=ma n:=ij h.table.2 u r (by rw[e];rfl)
theorem xi {n:aa}(h:UpX n)(r:db n):aQ (aa.table n) n.1=ma n:=jv h.table.2 (f:=ma n) r
theorem yC {n:aa}(h:UpN n)(z:n.2.2.1=false):UpN (mM n)/\(mM n).1=n.1:=by
 have H:bm (n.1,n.2.2.2.2.1,4,n.2.2.2.1):=⟨h.x.me,h.inc,show (1:Int)<=4 by omega,show (4:Int)<=4 by omega⟩;have r:=h.x.said H rfl (fp.me h.x.me);have y:(n.1,n.2.2.2.2.1,(4:Int),n.2.2.2.1)∈aa.table (sayOf n (n.1,n.2.2.2.2.1,4,n.2.2.2.1) n.1):=q8 h.x.table.2 λg u e=>by
  rw[ra h.x h.self u e];unfold bI ma;rw[z];simp
 obtain⟨t,c,I,e⟩:=(OnN.refl n).say (n.1,n.2.2.2.2.1,4,n.2.2.2.1) n.1;unfold mM;rw[e]at r y ⊢;exact⟨⟨⟨r.me,r.now0,r.table,r.site,r.cast,r.vs,r.probe,r.doubts,r.coord,r.places,r.others⟩,y,h.now1,⟨h.seq.seq,h.seq.turn⟩,h.inc,h.up⟩,rfl⟩
theorem xj {n:aa}{f:ah}(h:UpN n)(y:n.2.2.1=false)(X:bm f):UpN (eB n f)/\(eB n f).1=n.1/\(eB n f).2.2.1=false:=by
 unfold eB;cases H:decide (bI f (aQ (aa.table n) n.1))&&decide (f.2.1<999) with
 |false=>exact⟨h,rfl,y⟩
 |true =>
  rw[CA,decide_eq_true_eq,decide_eq_true_eq,xi h.x h.self]at H;obtain⟨M,R⟩:=H;have O:n.2.2.2.2.1<=f.2.1:=zT M;have r:=qs (n:=n) h.x.me X R;have z:UpX (sayOf (gr n (f.2.1+1)) (n.1,f.2.1+1,1,n.2.2.2.1) n.1):=(h.x.inc (f.2.1+1)).said r rfl (fp.me (n:=gr n (f.2.1+1)) h.x.me);have I:(n.1,f.2.1+1,(1:Int),n.2.2.2.1)∈aa.table (sayOf (gr n (f.2.1+1)) (n.1,f.2.1+1,1,n.2.2.2.1) n.1):=q8 (n:=gr n (f.2.1+1)) h.x.table.2 λg u e=>by
   rw[ra h.x h.self u e];exact yB (show n.2.2.2.2.1<f.2.1+1 by omega)
  obtain⟨t,c,J,e⟩:=(OnN.refl (gr n (f.2.1+1))).say (n.1,f.2.1+1,1,n.2.2.2.1) n.1;simp only[cond_true];rw[show sayOf (gr n (f.2.1+1)) (n.1,f.2.1+1,1,n.2.2.2.1) n.1=fV (gr n (f.2.1+1)) t c J from e]at z I ⊢;refine⟨⟨z,?_,h.now1,⟨h.seq.seq,h.seq.turn⟩,r.2.1,h.up⟩,rfl,y⟩;show (n.1,f.2.1+1,(if n.2.2.1=true then (4:Int) else 1),n.2.2.2.1)∈_;rw[y];exact I
theorem mT (f:ah)(b:Int)(d:bO):(dL f b d).1=d.1/\(dL f b d).2.1=d.2.1/\(dL f b d).2.2.1=d.2.2.1:=by
 unfold dL;cases d.1==f.1&&d.2.1==f.2.1&&f.2.2.1==2 <;> exact⟨rfl,rfl,rfl⟩
theorem UpX.conf {n:aa}(h:UpX n)(f:ah){b:Int}(Z:fp n b):UpX (jz n f b):=by
 refine⟨h.me,h.now0,h.table,h.site,h.cast,h.vs,h.probe,⟨λd M=>?_,?_,?_⟩,h.coord,h.places,h.others⟩
 ·obtain⟨r,u,rfl⟩:=BZ.1 M;obtain⟨H,Y,R⟩:=mT f b r;obtain⟨⟨g,hg,I,O,e3⟩,X,J,z⟩:=h.doubts.1 r u;refine⟨⟨g,hg,by rw[H];exact I,O,by rw[Y];exact e3⟩,by rw[R];exact X,?_⟩;unfold dL;cases r.1==f.1&&r.2.1==f.2.1&&f.2.2.1==2 with
  |false=>exact⟨J,z⟩
  |true =>
   refine⟨List.ne_nil_of_mem (aZ.2 (.inl rfl)),λx y=>?_,e8 z.2⟩;rcases aZ.1 y with rfl|⟨y,_⟩
   ·exact Z
   ·exact z.1 x y
 ·show Asc _ ((aa.doubts n).map (dL f b));unfold Asc;rw[Bu];exact h.doubts.2.1.imp λ {a c} h=>by show (dL f b a).1<(dL f b c).1;rw[(mT f b a).1,(mT f b c).1];exact h
 ·show _=((aa.doubts n).map (dL f b)).length;rw[BU];exact h.doubts.2.2
theorem tc {n:aa}{f:ah}{b:Int}(h:UpN n)(H:n.2.2.1=false)(I:bm f)(M:am f.1=am n.1)(y:fp n b):UpN (dv b n f)/\(dv b n f).1=n.1/\(dv b n f).2.2.1=false:=by
 unfold dv;by_cases r:f.1=n.1
 ·rw[show (f.1==n.1)=true by simpa using r];exact xj h H I
 ·rw[show (f.1==n.1)=false by simpa using r];have z:=h.x.said I M y;have u:=oY h.x.table.2 (OnN.refl n) (b:=b) r h.self;obtain⟨t,c,J,e⟩:=(OnN.refl n).say f b;simp only[cond_false];rw[show sayOf n f b=fV n t c J from e]at z u ⊢;exact⟨⟨z.conf f y,u,h.now1,⟨h.seq.seq,h.seq.turn⟩,h.inc,h.up⟩,rfl,H⟩
theorem km {n:aa}{t:List ah}{b:Int}(h:UpN n)(M:n.2.2.1=false)(z:aB t)(H:cd t (am n.1))(u:fp n b):UpN (gM n t b)/\(gM n t b).1=n.1/\(gM n t b).2.2.1=false:=by
 refine lY (st:=dv b) (Inv:=λm=>UpN m/\m.1=n.1/\m.2.2.1=false) (ds:=t) (n:=n) ⟨h,rfl,M⟩ λm f y ⟨J,r,I⟩=>?_
 have:=tc (b:=b) J I (z.1 f y) (by rw[r];exact H f y) ⟨u.1,by rw[r];exact u.2⟩;exact⟨this.1,this.2.1.trans r,this.2.2⟩
theorem UpN.learns {n:aa}(h:UpN n):dt n:=⟨h.x.say,h.x.me,⟨_,h.self,rfl⟩,λd u=>by
 obtain⟨_,_,_,r⟩:=h.x.doubts.1 d u;exact⟨r.2,λx y=>(r.1 x y).1⟩⟩
def mU (n:aa)(o:List bZ):aa:=(n.1,n.2.1,n.2.2.1,n.2.2.2.1,n.2.2.2.2.1,n.2.2.2.2.2.1,n.2.2.2.2.2.2.1,n.2.2.2.2.2.2.2.1,n.2.2.2.2.2.2.2.2.1,n.2.2.2.2.2.2.2.2.2.1,n.2.2.2.2.2.2.2.2.2.2.1,n.2.2.2.2.2.2.2.2.2.2.2.1,n.2.2.2.2.2.2.2.2.2.2.2.2.1,n.2.2.2.2.2.2.2.2.2.2.2.2.2.1,o)
theorem UpN.setOthers {n:aa}(h:UpN n){o:List bZ}(r:c7 n.1 o):UpN (mU n o):=⟨⟨h.x.me,h.x.now0,h.x.table,h.x.site,h.x.cast,h.x.vs,h.x.probe,h.x.doubts,h.x.coord,h.x.places,r⟩,h.self,h.now1,⟨h.seq.seq,h.seq.turn⟩,h.inc,h.up⟩
theorem vL {u s:Int}{r:List ah}{o:List bZ}(I:c7 u o)(M:InP s 0 1)(H:s≠am u)(O:r≠[])(J:aB r)(y:cd r s):c7 u (bw (λx:bZ=>x.1) (s,r) o) :=
 ⟨λx z=>by
  rcases aZ.1 z with rfl|⟨z,_⟩
  ·exact⟨M,H,O,J,y⟩
  ·exact I.1 x z,e8 I.2⟩
def gY (l:List Int)(t:Int):List Int:=(l++[t]).drop ((l++[t]).length-3)
def dG (l:List dJ)(r:Int):List Int:=((l.find? λp=>p.1==r).map (·.2.2)).getD []
def oZ (l:List dJ)(r:Int)(c:dA)(t:Int):List dJ:=bw (λp=>p.1) (r,c,gY (dG l r) t) l
def pO (n:aa)(c:dA)(p:List dJ):aa:=(n.1,n.2.1,n.2.2.1,n.2.2.2.1,n.2.2.2.2.1,n.2.2.2.2.2.1,n.2.2.2.2.2.2.1,n.2.2.2.2.2.2.2.1,n.2.2.2.2.2.2.2.2.1,n.2.2.2.2.2.2.2.2.2.1,noP,n.2.2.2.2.2.2.2.2.2.2.2.1,c,p,n.2.2.2.2.2.2.2.2.2.2.2.2.2.2)
theorem uj {l:List dJ}{r:Int}{t:Int}(h:t∈dG l r):∃ p∈l,t∈p.2.2:=by
 unfold dG at h;cases u:l.find? λp=>p.1==r with
 |none=>rw[u]at h;simp at h
 |some p =>
  rw[u]at h;exact⟨p,CS u,h⟩
theorem xk {l:List Int}{t:Int}(u:∀ x∈l,InP x 1 60000)(r:InP t 1 60000):InP ((gY l t).length:Int) 1 3/\∀ x∈gY l t,InP x 1 60000:=by
 unfold gY;constructor
 ·simp only[Bw,BP,BG,BM];constructor <;> omega
 ·intro x y;have:=List.mem_of_mem_drop y;rcases Bz.1 this with h|h
  ·exact u x h
  ·rw[Bv.1 h];exact r
theorem vM {y r:Int}{l:List dJ}{c:dA}{t:Int}(h:eu y l)(O:InP r 0 7)(J:am r=am y)(R:r≠y)(M:cH c)(I:InP t 1 60000):eu y (oZ l r c t):=by
 have H:=xk (l:=dG l r) (t:=t) (λx z=>by
  obtain⟨p,u,z⟩:=uj z;exact (h.1 p u).2.2.2.2.2 x z) I
 exact⟨λp u=>by
  rcases aZ.1 u with rfl|⟨u,_⟩
  ·exact⟨O,J,R,M,H.1,H.2⟩
  ·exact h.1 p u,e8 h.2⟩
theorem UpN.heard {n:aa}(h:UpN n){c:dA}{p:List dJ}(r:cH c)(u:eu n.1 p):UpN (pO n c p):=⟨⟨h.x.me,h.x.now0,h.x.table,h.x.site,h.x.cast,h.x.vs,xf n,h.x.doubts,r,u,h.x.others⟩,h.self,h.now1,⟨h.seq.seq,h.seq.turn⟩,h.inc,h.up⟩
theorem UpN.way {n:aa}(h:UpN n):UpN (ir n):=⟨h.x.way,h.self,h.now1,⟨h.seq.seq,h.seq.turn⟩,h.inc,h.up⟩
def Tot {α:Type}(o:Option α)(P:α->Prop):Prop:=∃ v,o=some v/\P v
section
variable {α β:Type} {P:α->Prop} {Q:β->Prop}
theorem Tot.ret {v:α}(h:P v):Tot (some v) P:=⟨v,rfl,h⟩
theorem Tot.mono {o:Option α}{r:α->Prop}(h:Tot o P)(k:∀ v,P v->r v):Tot o r:=by obtain⟨v,e,u⟩:=h;exact⟨v,e,k v u⟩
theorem Tot.bind {o:Option α}{g:α->Option β}(h:Tot o P)(k:∀ v,P v->Tot (g v) Q):Tot (o.bind g) Q:=by obtain⟨v,e,r⟩:=h;rw[e];exact k v r
theorem Tot.vl {o:Option α}{v:α}{g:α->Option β}(e:o=some v)(k:Tot (g v) Q):Tot (o.bind g) Q:=by rw[e];exact k
theorem Tot.cnd {b:Bool}{x y:Option α}(r:b=true->Tot x P)(u:b=false->Tot y P):Tot (bif b then x else y) P:=by
 cases b
 ·exact u rfl
 ·exact r rfl
theorem Tot.must {b:Bool}{x y:Option α}(r:b=true)(h:Tot x P):Tot (bif b then x else y) P:=by rw[r];exact h
theorem Tot.not {b:Bool}{x y:Option α}(r:b=false)(h:Tot x P):Tot (bif b then y else x) P:=by rw[r];exact h
theorem Tot.ix {xs:List α}{i:Int}{g:α->Option β}(u:0<=i)(z:i<xs.length)(k:∀ y∈xs,idx xs i=some y->Tot (g y) Q):Tot ((idx xs i).bind g) Q:=by
 obtain⟨n,rfl⟩:=BF u;have r:n<xs.length:=by omega
 have:=ag r;rw[this];exact k _ (BC r) this
theorem Tot.iter {A:Type}{step:(A->Option β)->A->Option β}(Inv:A->Prop)(m:A->Nat)(h:∀ (rec:A->Option β) (a:A),Inv a->(∀ r,Inv r->m r<m a->Tot (rec r) Q)->Tot (step rec a) Q):∀ (k:Nat) (a:A),m a<k->Inv a->Tot (af step k a) Q:=by
 intro k;induction k with
 |zero=>intro a I;omega
 |succ k y =>
  intro a I H;exact h (af step k) a H λr u z=>y r (by omega) u
end
theorem Ret.tot {o:Option RB}{P:Prop}(h:Ret o P):Tot o λv=>(v.1.1=true<->P):=by
 obtain⟨b,e,r⟩:=h;exact⟨_,e,r⟩
section
variable {α β:Type} {Q:β->Prop}
theorem Tot.cat {x y:ByteArray}{k:ByteArray->Option β}{a b:Nat}(H:x.size<=a)(u:y.size<=b)(h:∀ z:ByteArray,z.size<=a+b->Tot (k z) Q)(r:a+b<=4611686018427387904:=by omega):Tot (aV x y k) Q:=by
 unfold aV;rw[decide_eq_true (by omega)];exact h _ (by rw[ByteArray.size_append];omega)
theorem Tot.fit {a b c:Nat}{x y:Option β}(h:Tot x Q)(u:c<=1000:=by omega)(r:a+b<=2097152:=by omega):Tot (bif decide ((a+b)*c<=ao) then x else y) Q:=by
 have:=CW r u;rw[decide_eq_true (by unfold ao;omega)];exact h
theorem Tot.ix2 {xs:List α}{i:Int}{g:α->Option β}(r:0<=i)(u:i<xs.length)(k:∀ y∈xs,idx xs i=some y->Tot (g y) Q):Tot ((idx xs i).bind λ_=>(idx xs ((BD i:Nat):Int)).bind g) Q :=
 Tot.ix r u λy z e=>by rw[Int.toNat_of_nonneg r,e];exact k y z e
end
theorem fI (s:ByteArray):s.data.toList.length=s.size:=Array.length_toList
theorem iS (xs:List Int):(gH xs).size=xs.length:=by
 unfold gH;show (List.toArray _).size=_;rw[List.size_toArray,BU]
theorem re (s:ByteArray):(er s).length=s.size:=by
 unfold er;rw[BU];exact fI s
theorem dec_t:∀ (d k:Nat) (n:Int),0<=n->n<10 ^ (d+1)->n<=1000000000->d<=100->d<k->Tot (Q10.f k (n,())) λr=>r.1.1.size<=d+1:=by
 intro d;induction d with
 |zero =>
  intro k n H u O J X;obtain⟨k,rfl⟩:∃ m,k=m+1:=⟨k-1,by omega⟩;show Tot (Q10.step (Q10.f k) (n,())) _;simp only[Q10.step];refine Tot.not (decide_eq_false (show ¬ n< -9223372036854775807 by omega)) (Tot.not (decide_eq_false (show ¬ n<0 by omega)) (Tot.must (decide_eq_true (show n<10 by exact u)) (Tot.ret ?_)));show (gH _).size<=1;rw[iS];exact BR _
 |succ d M =>
  intro k n H u O J X;obtain⟨k,rfl⟩:∃ m,k=m+1:=⟨k-1,by omega⟩;show Tot (Q10.step (Q10.f k) (n,())) _;simp only[Q10.step];refine Tot.not (decide_eq_false (show ¬ n< -9223372036854775807 by omega)) (Tot.not (decide_eq_false (show ¬ n<0 by omega)) (Tot.cnd (λ_=>Tot.ret ?_) λh=>?_))
  ·show (gH _).size<=_;rw[iS];exact Nat.succ_le_succ (BX _)
  ·have h:¬ n<10:=of_decide_eq_false h;have e:CX n 10=n / 10:=by rw[By H]
   have y:(10:Int) ^ (d+1+1)=10 ^ (d+1)*10:=Int.pow_succ ..;have I:n / 10<10 ^ (d+1):=Int.ediv_lt_of_lt_mul (by omega) (by rw[<- y];exact u);rw[e,aK (by omega) (by omega)];refine Tot.bind (M k (n / 10) (by omega) I (by omega) (by omega) (by omega)) λv R=>Tot.cat R (b:=1) (by rw[iS];exact BR _) (λz Y=>Tot.ret Y) (by omega)
theorem kW (K:Nat)(n:Int)(u:0<=n)(y:n<=999999)(z:1048577<K):Tot (Q10.f K (n,())) λr=>r.1.1.size<=6 :=
 dec_t 5 K n u (by show n<1000000;omega) (by omega) (by omega) (by omega)
theorem td (K:Nat)(i:Int)(y:0<=i)(u:i<=4):Tot (Q159.f K (i,())) λr=>r.1.1.size<=7:=by
 have:i=0\/i=1\/i=2\/i=3\/i=4:=by omega
 rcases this with rfl|rfl|rfl|rfl|rfl <;> exact⟨_,rfl,by decide⟩
theorem te (K:Nat)(i:Int)(y:0<=i)(u:i<=6):Tot (Q156.f K (i,())) λr=>r.1.1.size<=4:=by
 have:i=0\/i=1\/i=2\/i=3\/i=4\/i=5\/i=6:=by omega
 rcases this with rfl|rfl|rfl|rfl|rfl|rfl|rfl <;> exact⟨_,rfl,by decide⟩
theorem yD (K:Nat)(t:List ah)(Y:aB t)(hK:1048577<K):Tot (Q162.f K (t,())) λr=>r.1.1.size<=240:=by
 have hl:=iP Y.2 (λg hg=>(Y.1 g hg).1);refine Tot.iter (step:=λrec a=>Q162.s0 K (t,()) rec a) (λa=>0<=a.2/\a.2<=t.length/\(a.1.size:Int)<=30*a.2) (λa=>t.length-a.2.toNat) ?_ K _ (by show t.length-BD 0<K;omega) ⟨by show (0:Int)<=0;omega,by show (0:Int)<=_;omega,by show (0:Int)<=30*0;omega⟩;rintro rec ⟨s,i⟩ ⟨h0,h1,h2⟩ ih;simp only at h0 h1 h2 ih ⊢;simp only[Q162.s0];refine Tot.cnd (λh=>?_) λh=>?_
 ·have h:=of_decide_eq_true h;obtain⟨n,rfl⟩:=BF h0;have hn:n<t.length:=by omega
  obtain⟨⟨f1,f2⟩,⟨f3,f4⟩,f5,f6⟩:=Y.1 t[n] (BC hn);rw[ag hn,au n (by omega)];simp only[BA];have go:∀ z:ByteArray,z.size<=s.size+29->Tot (rec (z,((n+1:Nat):Int))) λr=>r.1.1.size<=240:=λz hz=>ih _ ⟨by show (0:Int)<=((n+1:Nat):Int);omega,by show ((n+1:Nat):Int)<=_;omega,by show (z.size:Int)<=30*((n+1:Nat):Int);omega⟩ (by show t.length-BD ((n+1:Nat):Int)<t.length-BD (n:Int);omega)
  have body:∀ y:ByteArray,y.size<=s.size+1->Tot ((Q10.f K (t[n].1,())).bind λy3=>aV y y3.1.1 λy4=>aV y4 (ByteArray.mk #[58]) λy5=>(Q10.f K (t[n].2.1,())).bind λy7=>aV y5 y7.1.1 λy8=>aV y8 (ByteArray.mk #[58]) λy9=>(Q159.f K (t[n].2.2.1,())).bind λZ=>aV y9 Z.1.1 λu=>bif t[n].2.2.2 then (aV u (ByteArray.mk #[42]) λH=>rec (H,((n+1:Nat):Int))) else (rec (u,((n+1:Nat):Int)))) λr=>r.1.1.size<=240:=λy R =>
   Tot.bind (kW K _ f1 (by omega) hK) λv1 s1=>Tot.cat R s1 λz1 I=>Tot.cat I (b:=1) (by decide) λz2 J =>
   Tot.bind (kW K _ f3 (by omega) hK) λv2 s2=>Tot.cat J s2 λz3 O=>Tot.cat O (b:=1) (by decide) λz4 X =>
   Tot.bind (td K _ (by omega) f6) λv3 s3=>Tot.cat X s3 λz5 M =>
   Tot.cnd (λ_=>Tot.cat M (b:=1) (by decide) λz6 a0=>go z6 (by omega)) λ_=>go z5 (by omega)
  exact Tot.cnd (λ_=>Tot.cat (BR _) (b:=1) (by decide) λz hz=>body z hz) λ_=>body s (by omega)
 ·have h:=of_decide_eq_false h;exact Tot.ret (by show s.size<=240;omega)
theorem oj (K:Nat)(t:List ah)(y:t.length<=1048576)(u:1048577<K):Tot (Q163.f K (t,())) λr=>r.1.1.size<=240:=by
 simp only[Q163.f];refine Tot.bind (gn K t y u).tot λv H=>Tot.cnd (λ_=>Tot.ret (by show (0:Nat)<=240;omega)) λh=>?_
 have z:=H.1 (by simpa using h);exact Tot.cnd (λ_=>Tot.ret (by show (1:Nat)<=240;omega)) λ_=>Tot.bind (yD K t z u) λv h=>Tot.ret h
theorem pP (K:Nat)(n:Int)(I:-999999<=n)(H:n<=999999)(y:1048577<K):Tot (Q165.f K (n,())) λr=>r.1.1.size<=7:=by
 simp only[Q165.f];refine Tot.cnd (λh=>?_) λh=>?_
 ·have h:n<0:=of_decide_eq_true h;rw[aK (by omega) (by omega)];exact Tot.bind (kW K _ (by omega) (by omega) y) λv s=>Tot.cat (a:=1) (by decide) s λz u=>Tot.ret u
 ·have h:¬ n<0:=of_decide_eq_false h;exact Tot.bind (kW K _ (by omega) (by omega) y) λv s=>Tot.cat (a:=1) (by decide) s λz u=>Tot.ret u
theorem yE (K:Nat)(w:ak)(M:dK w)(y:1048577<K):Tot (Q166.f K (w,())) λr=>r.1.1.size<=400:=by
 obtain⟨_,⟨a1,O⟩,⟨H,b2⟩,⟨Y,c2⟩,⟨J,d2⟩,⟨z,e2⟩,⟨⟨x1,x2⟩,⟨y1,y2⟩,⟨I,z2⟩,⟨u1,Z⟩⟩,X,_⟩:=M;have R:=bY X;simp only[Q166.f];have u:(ByteArray.mk #[32]).size<=1:=by decide
 refine Tot.cnd (λ_=>?_) λ_=>?_ <;>
 exact Tot.cat (a:=3) (by decide) u λ_ h=>Tot.bind (te K _ (by omega) O) λ_ s=>Tot.cat h s λ_ h=>Tot.cat h u λ_ h =>
  Tot.bind (kW K _ H (by omega) y) λ_ s=>Tot.cat h s λ_ h=>Tot.cat h u λ_ h =>
  Tot.bind (kW K _ Y (by omega) y) λ_ s=>Tot.cat h s λ_ h=>Tot.cat h u λ_ h =>
  Tot.bind (kW K _ J (by omega) y) λ_ s=>Tot.cat h s λ_ h=>Tot.cat h u λ_ h =>
  Tot.bind (kW K _ z (by omega) y) λ_ s=>Tot.cat h s λ_ h=>Tot.cat h u λ_ h =>
  Tot.bind (pP K _ (by show -999999<=(ak.coord w).1;omega) (by show (ak.coord w).1<=999999;omega) y) λ_ s=>Tot.cat h s λ_ h=>Tot.cat h u λ_ h =>
  Tot.bind (pP K _ (by show -999999<=(ak.coord w).2.1;omega) (by show (ak.coord w).2.1<=999999;omega) y) λ_ s=>Tot.cat h s λ_ h=>Tot.cat h u λ_ h =>
  Tot.bind (kW K _ I (by show (ak.coord w).2.2.1<=999999;omega) y) λ_ s=>Tot.cat h s λ_ h=>Tot.cat h u λ_ h =>
  Tot.bind (kW K _ (by show 0<=(ak.coord w).2.2.2;omega) (by show (ak.coord w).2.2.2<=999999;omega) y) λ_ s=>Tot.cat h s λ_ h=>Tot.cat h u λ_ h =>
  Tot.bind (oj K _ R y) λ_ s=>Tot.cat h s λ_ h=>Tot.ret (Bt h (by decide))
theorem yF (K:Nat)(n:Int)(I:1048577<K):Tot (Q168.f K (n,())) λ_=>True:=by
 refine Tot.iter (step:=λrec a=>Q168.s0 K (n,()) rec a) (λa=>0<=a.2/\a.2<=8) (λa=>8-a.2.toNat) ?_ K _ (by show 8-BD 0<K;omega) ⟨by show (0:Int)<=0;omega,by show (0:Int)<=8;omega⟩;rintro rec ⟨s,i⟩ ⟨u,H⟩ r;simp only at u H r ⊢;simp only[Q168.s0];obtain⟨i,rfl⟩:=BF u;refine Tot.cnd (λh=>?_) λ_=>Tot.ret trivial
 have h:=of_decide_eq_true h;rw[au i (by omega)];have y:∀ z:Int,Tot (rec (z,((i+1:Nat):Int))) λ_=>True:=λz=>r _ ⟨by show (0:Int)<=((i+1:Nat):Int);omega,by show ((i+1:Nat):Int)<=8;omega⟩ (by show 8-BD ((i+1:Nat):Int)<8-BD (i:Int);omega)
 exact Tot.cnd (λ_=>y _) λ_=>y _
theorem zU (K:Nat)(s:ByteArray)(J:s.size<=1000000)(I:1048577<K):Tot (Q169.f K (s,())) λ_=>True:=by
 refine Tot.iter (step:=λrec a=>Q169.s0 K (s,()) rec a) (λa=>0<=a.2/\a.2<=s.size) (λa=>s.size-a.2.toNat) ?_ K _ (by show s.size-BD 0<K;omega) ⟨by show (0:Int)<=0;omega,by show (0:Int)<=_;omega⟩;rintro rec ⟨z,i⟩ ⟨r,H⟩ u;simp only at r H u ⊢;simp only[Q169.s0];obtain⟨i,rfl⟩:=BF r;refine Tot.cnd (λh=>?_) λ_=>Tot.ret trivial
 have h:=of_decide_eq_true h;rw[au i (by omega)];exact Tot.ix r (by rw[fI];exact h) λy _ _=>Tot.bind (yF K _ I) λv _=>u _ ⟨by show (0:Int)<=((i+1:Nat):Int);omega,by show ((i+1:Nat):Int)<=_;omega⟩ (by show s.size-BD ((i+1:Nat):Int)<s.size-BD (i:Int);omega)
theorem hex_t (K:Nat)(n:Int)(R:1048577<K):Tot (Q167.f K (n,())) λr=>r.1.1.size<=8:=by
 refine Tot.iter (step:=λrec a=>Q167.s0 K (n,()) rec a) (λa=>-1<=a.2/\a.2<=7/\a.1.length=7-a.2) (λa=>(a.2+1).toNat) ?_ K _ (by show BD 8<K;omega) ⟨by show (-1:Int)<=7;omega,by show (7:Int)<=7;omega,by show (0:Int)=7-7;omega⟩;rintro rec ⟨z,i⟩ ⟨M,J,O⟩ u;simp only at M J O u ⊢;simp only[Q167.s0];refine Tot.cnd (λh=>?_) λh=>?_
 ·have h:=of_decide_eq_true h;rw[aK (n:=4*i) (by omega) (by omega),aK (n:=i-1) (by omega) (by omega)];obtain⟨H,I⟩:=ly (a:=B6 n (2 ^ min (BD (4*i)) 64)) (m:=15) (by omega);refine Tot.not (decide_eq_false (by omega)) (Tot.ix H (Int.lt_of_le_of_lt I (by decide)) λy _ _=>Tot.fit ?_ (by omega) (by simp only[BG,BM];omega));exact u _ ⟨by show -1<=i-1;omega,by show i-1<=7;omega,by show ((z++[_]).length:Int)=7-(i-1);rw[BP,CL];omega⟩ (by show BD (i-1+1)<BD (i+1);omega)
 ·have h:=of_decide_eq_false h;refine Tot.ret ?_;show (gH z).size<=8;rw[iS];omega
theorem ol (K:Nat)(w:ak)(M:(ak.table w).length<=1048576)(u:1048577<K):Tot (Q170.f K (w,())) λr=>r.1.1.size<=409/\(¬ dK w->r.1.1=ByteArray.mk #[]):=by
 simp only[Q170.f];refine Tot.bind (lW K w M u).tot λv O=>Tot.cnd (λ_=>Tot.ret ⟨by show (0:Nat)<=409;omega,λ_=>rfl⟩) λh=>?_
 have H:=O.1 (by simpa using h);exact Tot.bind (yE K w H u) λb I=>Tot.cat I (b:=1) (by decide) λz y=>Tot.bind (zU K _ (by omega) u) λs _=>Tot.bind (hex_t K _ u) λx J=>Tot.cat y J λz y=>Tot.ret ⟨y,λh=>absurd H h⟩
theorem vN (K:Nat)(s:ByteArray)(c:Int)(hs:s.size<=100000)(hK:1048577<K):Tot (Q155.f K (s,c,())) λr=>r.1.1.length<=s.size+1/\∀ p∈r.1.1,p.size<=s.size:=by
 have I:∀ i j:Nat,(s.extract i j).size<=s.size:=λi j=>by rw[CZ];omega
 refine Tot.iter (step:=λrec a=>Q155.s0 K (s,c,()) rec a) (λa=>0<=a.2.1/\a.2.1<=a.2.2/\a.2.2<=s.size/\a.1.length<=a.2.2/\∀ p∈a.1,p.size<=s.size) (λa=>s.size-a.2.2.toNat) ?_ K _ (by show s.size-BD 0<K;omega) ⟨by show (0:Int)<=0;omega,by show (0:Int)<=0;omega,by show (0:Int)<=_;omega,by show (0:Int)<=0;omega,λp M=>by cases M⟩;rintro rec ⟨u,from_,i⟩ ⟨z,J,X,Y,R⟩ O;simp only at z J X Y R O ⊢;simp only[Q155.s0];obtain⟨i,rfl⟩:=BF (CY z J);have H:∀ x:ByteArray,x.size<=s.size->∀ p∈u++[x],p.size<=s.size:=λx Z p M=>by
  rcases Bz.1 M with h|h
  ·exact R p h
  ·rw[Bv.1 h];exact Z
 refine Tot.cnd (λh=>?_) λh=>?_
 ·have h:=of_decide_eq_true h;rw[au i (by omega)];refine Tot.ix (CY z J) (by rw[fI];exact h) λy _ _=>Tot.cnd (λ_=>Tot.must (by rw[decide_eq_true z,decide_eq_true J,decide_eq_true X];rfl) (Tot.fit (O _ ⟨?_,?_,?_,?_,H _ (I _ _)⟩ ?_) (by omega) (by simp only[BG,BM];omega))) λ_=>O _ ⟨z,?_,?_,?_,R⟩ ?_
  ·show (0:Int)<=((i+1:Nat):Int);omega
  ·show ((i+1:Nat):Int)<=((i+1:Nat):Int);omega
  ·show ((i+1:Nat):Int)<=s.size;omega
  ·show ((u++[_]).length:Int)<=((i+1:Nat):Int);rw[BP,CL];omega
  ·show s.size-BD ((i+1:Nat):Int)<s.size-BD (i:Int);omega
  ·show from_<=((i+1:Nat):Int);omega
  ·show ((i+1:Nat):Int)<=s.size;omega
  ·show (u.length:Int)<=((i+1:Nat):Int);omega
  ·show s.size-BD ((i+1:Nat):Int)<s.size-BD (i:Int);omega
 ·refine Tot.must (by rw[decide_eq_true z,decide_eq_true (by omega),decide_eq_true (B9 _)];rfl) (Tot.fit (Tot.ret ⟨?_,H _ (I _ _)⟩) (by omega) (by simp only[BG,BM];omega));show (u++[_]).length<=_;rw[BP,CL];omega
theorem jU (K:Nat)(s:ByteArray)(X:s.size<=100000)(Y:1048577<K):Tot (Q157.f K (s,())) λ_=>True:=by
 simp only[Q157.f,Q157.pre];have r:((s.size:Int)<=6)->Tot (Q157.l0 K (s,()) (0,0)) λ_=>True:=λR=>by
  refine Tot.iter (step:=λrec a=>Q157.s0 K (s,()) rec a) (λa=>0<=a.2/\a.2<=s.size) (λa=>s.size-a.2.toNat) ?_ K _ (by show s.size-BD 0<K;omega) ⟨by show (0:Int)<=0;omega,by show (0:Int)<=_;omega⟩;rintro rec ⟨z,i⟩ ⟨u,M⟩ J;simp only at u M J ⊢;simp only[Q157.s0];obtain⟨i,rfl⟩:=BF u;refine Tot.cnd (λh=>?_) λ_=>Tot.ret trivial
  have h:=of_decide_eq_true h;have I:((i:Nat):Int)<s.data.toList.length:=by rw[fI];exact h
  rw[au i (by omega)];exact Tot.ix u I λy _ _=>Tot.cnd (λ_=>Tot.ret trivial) λ_=>Tot.ix u I λy _ _=>Tot.cnd (λ_=>Tot.ret trivial) λ_=>Tot.ix u I λy _ _=>J _ ⟨by show (0:Int)<=((i+1:Nat):Int);omega,by show ((i+1:Nat):Int)<=_;omega⟩ (by show s.size-BD ((i+1:Nat):Int)<s.size-BD (i:Int);omega)
 refine Tot.bind (cG K _ _ _).tot λv O=>Tot.cnd (λ_=>Tot.ret trivial) λh=>?_
 have H:=O.1 (by simpa using h);exact Tot.cnd (λh=>Tot.ix (by omega) (by rw[fI];have:=of_decide_eq_true h;omega) λy _ _=>Tot.cnd (λ_=>Tot.ret trivial) λ_=>r H.2) λ_=>r H.2
theorem uP (K:Nat)(s:ByteArray)(J:s.size<=100000)(I:1048577<K):Tot (Q158.f K (s,())) λ_=>True:=by
 simp only[Q158.f];refine Tot.cnd (λ_=>Tot.ret trivial) λh=>?_
 have h:=of_decide_eq_false h;have z:(0:Int)<s.data.toList.length:=by rw[fI];omega
 have r:Tot (bif decide ((0:Int)<=1)&&decide ((1:Int)<=(s.size:Int))&&decide ((s.size:Int)<=(s.size:Int)) then ((Q157.f K (s.extract (BD 1) (BD (s.size:Int)),())).bind λu=>bif decide (u.1.1<0) then (some (((-1),false,()),())) else (bif s.toList==(ByteArray.mk #[45,48]).toList then (some (((-1),false,()),())) else ((idx s.data.toList 0).bind λH=>bif (H.toNat:Int)==45 then (some ((wr .i64 (0-u.1.1),true,()),())) else (some ((u.1.1,true,()),()))))) else none) λ (_:(Int×Bool×Unit)×Unit)=>True :=
  Tot.must (by rw[decide_eq_true (by omega:(0:Int)<=1),decide_eq_true (by omega:(1:Int)<=s.size),decide_eq_true (B9 _)];rfl) (Tot.bind (jU K _ (by rw[CZ];omega) I) λv _=>Tot.cnd (λ_=>Tot.ret trivial) λ_=>Tot.cnd (λ_=>Tot.ret trivial) λ_=>Tot.ix (by omega) z λy _ _=>Tot.cnd (λ_=>Tot.ret trivial) λ_=>Tot.ret trivial)
 exact Tot.ix (by omega) z λy _ _=>Tot.cnd (λ_=>Tot.ix (by omega) z λy _ _=>Tot.cnd (λ_=>Tot.ret trivial) λ_=>r) λ_=>r
theorem zV (K:Nat)(s:ByteArray)(hs:s.size<=100000)(Y:1048577<K):Tot (Q160.f K (s,())) λ_=>True:=by
 simp only[Q160.f,Q160.pre];have H:∀ (O:List ByteArray) (n1 n2:Int) (b:Bool),O.length=3->Tot (Q160.l0 K (s,()) (O,1,n1,n2,0,b)) λ_=>True:=λO n1 n2 b hx=>by
  refine Tot.iter (step:=λrec a=>Q160.s0 K (s,()) rec a) (λa=>a.1.length=3/\1<=a.2.1/\a.2.1<=5) (λa=>5-a.2.1.toNat) ?_ K _ (by show 5-BD 1<K;omega) ⟨hx,by show (1:Int)<=1;omega,by show (1:Int)<=5;omega⟩;rintro rec ⟨ys,i,m1,m2,m3,m4⟩ ⟨Z,h1,h2⟩ ih;simp only at Z h1 h2 ih ⊢;simp only[Q160.s0];refine Tot.cnd (λh=>?_) λ_=>Tot.bind (oP K _).tot λ_ _=>Tot.ret trivial
  have h:=of_decide_eq_true h;rw[aK (n:=i+1) (by omega) (by omega)];have go:∀ m:Int,Tot (rec (ys,i+1,m1,m2,m,m4)) λ_=>True:=λm=>ih _ ⟨Z,by show 1<=i+1;omega,by show i+1<=5;omega⟩ (by show 5-BD (i+1)<5-BD i;omega)
  exact Tot.bind (td K i (by omega) h) λv _=>Tot.ix2 (by omega) (by omega) λy _ _=>Tot.cnd (λ_=>go _) λ_=>go _
 have u:∀ (z:ByteArray) (b:Bool),z.size<=s.size->Tot ((Q155.f K (z,58,())).bind λr=>bif (BB r.1.1:Int) != 3 then (some (((0,(0,(0,b))),false,()),())) else ((idx r.1.1 0).bind λ_=>(idx r.1.1 (BD 0:Nat)).bind λM=>(Q157.f K (M,())).bind λX=>(idx r.1.1 1).bind λ_=>(idx r.1.1 (BD 1:Nat)).bind λJ=>(Q157.f K (J,())).bind λI=>Q160.l0 K (s,()) (r.1.1,1,X.1.1,I.1.1,0,b))) λ_=>True:=λz b hz =>
  Tot.bind (vN K z 58 (by omega) Y) λv ⟨_,hp⟩=>Tot.cnd (λ_=>Tot.ret trivial) λh=>by
   have h3:(v.1.1.length:Int)=3:=by simpa using h
   exact Tot.ix2 (by omega) (by omega) λy R _=>Tot.bind (jU K y (by have:=hp y R;omega) Y) λ_ _=>Tot.ix2 (by omega) (by omega) λy R _=>Tot.bind (jU K y (by have:=hp y R;omega) Y) λ_ _=>H _ _ _ _ (by omega)
 refine Tot.cnd (λh=>?_) λ_=>u s false (BR _)
 have h:=of_decide_eq_true h;rw[aK (n:=(s.size:Int)-1) (by omega) (by omega)];exact Tot.ix (by omega) (by rw[fI];omega) λy _ _=>Tot.cnd (λ_=>Tot.must (by simp only[CA,decide_eq_true_eq];omega) (u _ true (by rw[CZ];omega))) λ_=>u s false (BR _)
theorem zW (K:Nat)(s:ByteArray)(X:s.size<=100000)(J:1048577<K):Tot (Q161.f K (s,())) λr=>r.1.1.length<=100001:=by
 simp only[Q161.f,Q161.pre];refine Tot.cnd (λ_=>Tot.ret (by show (0:Nat)<=_;omega)) λ_=>Tot.bind (vN K s 44 X J) ?_
 rintro⟨⟨xs,⟨⟩⟩,⟨⟩⟩ ⟨hl,hp⟩;dsimp only at hl hp ⊢;refine Tot.iter (step:=λrec a=>Q161.s0 K (s,()) rec a) (λa=>a.2.1=xs/\0<=a.2.2/\a.2.2<=xs.length/\(a.1.length:Int)<=a.2.2) (λa=>xs.length-a.2.2.toNat) ?_ K _ (by show xs.length-BD 0<K;omega) ⟨rfl,by show (0:Int)<=0;omega,by show (0:Int)<=_;omega,by show (0:Int)<=0;omega⟩;rintro rec ⟨u,H,i⟩ ⟨rfl,z,M,O⟩ I;simp only at z M O hl hp I ⊢;simp only[Q161.s0];obtain⟨i,rfl⟩:=BF z;refine Tot.cnd (λh=>?_) λ_=>Tot.ret (by show u.length<=_;omega)
 have h:=of_decide_eq_true h;rw[au i (by omega)];exact Tot.ix2 z h λy R _=>Tot.bind (zV K y (by have:=hp y R;omega) J) λv _=>Tot.cnd (λ_=>Tot.ret (by show (0:Nat)<=_;omega)) λ_=>Tot.fit (I _ ⟨rfl,by show (0:Int)<=((i+1:Nat):Int);omega,by show ((i+1:Nat):Int)<=_;omega,by show ((u++[_]).length:Int)<=((i+1:Nat):Int);rw[BP,CL];omega⟩ (by show H.length-BD ((i+1:Nat):Int)<H.length-BD (i:Int);omega)) (by omega) (by simp only[BG,BM];omega)
theorem zX (K:Nat)(s:ByteArray)(y:s.size<=100000)(u:1048577<K):Tot (Q164.f K (s,())) λr=>r.1.1.length<=100001:=by
 simp only[Q164.f];exact Tot.bind (zW K s y u) λv z=>Tot.cnd (λ_=>Tot.ret (by show (0:Nat)<=_;omega)) λ_=>Tot.bind (oj K _ (by omega) u) λx _=>Tot.cnd (λ_=>Tot.ret (by show (0:Nat)<=_;omega)) λ_=>Tot.ret z
theorem mb (K:Nat)(s:ByteArray)(Y:s.size<=100000)(H:1048577<K):Tot (Q171.f K (s,())) λr=>r.1.2.1=true->dK r.1.1:=by
 simp only[Q171.f,Q171.pre];refine Tot.bind (vN K s 32 Y H) ?_;rintro⟨⟨xs,⟨⟩⟩,⟨⟩⟩ ⟨hl,hp⟩;dsimp only at hl hp ⊢;refine Tot.cnd (λ_=>Tot.ret λh=>by cases h) λ_=>Tot.cnd (λ_=>Tot.ret λh=>by cases h) λh=>?_
 have M:(xs.length:Int)=12:=by simpa using h
 have u:∀ y∈xs,y.size<=100000:=λy z=>Bt (hp y z) Y
 have I:∀ p:Int,Tot (Q171.l0 K (s,()) (xs,1,p,0)) λr=>r.1.2.1=true->dK r.1.1:=λp=>by
  refine Tot.iter (step:=λrec a=>Q171.s0 K (s,()) rec a) (λa=>a.1=xs/\1<=a.2.1/\a.2.1<=7) (λa=>7-a.2.1.toNat) ?_ K _ (by show 7-BD 1<K;omega) ⟨rfl,by show (1:Int)<=1;omega,by show (1:Int)<=7;omega⟩;rintro rec ⟨ys,i,p,k⟩ ⟨rfl,O,h2⟩ X;simp only at O h2 hl M u X ⊢;simp only[Q171.s0];refine Tot.cnd (λh=>?_) λ_=>?_
  ·have h:=of_decide_eq_true h;rw[aK (n:=i+1) (by omega) (by omega)];have Z:∀ m:Int,Tot (rec (ys,i+1,p,m)) λr=>r.1.2.1=true->dK r.1.1:=λm=>X _ ⟨rfl,by show 1<=i+1;omega,by show i+1<=7;omega⟩ (by show 7-BD (i+1)<7-BD i;omega)
   exact Tot.bind (te K i (by omega) h) λv _=>Tot.ix2 (by omega) (by omega) λy _ _=>Tot.cnd (λ_=>Z _) λ_=>Z _
  ·refine Tot.ix2 (by omega) (by omega) λy z _=>Tot.bind (jU K y (u y z) H) λ_ _=>Tot.ix2 (by omega) (by omega) λy z _=>Tot.bind (jU K y (u y z) H) λ_ _=>Tot.ix2 (by omega) (by omega) λy z _=>Tot.bind (jU K y (u y z) H) λ_ _=>Tot.ix2 (by omega) (by omega) λy z _=>Tot.bind (jU K y (u y z) H) λ_ _ =>
    Tot.ix2 (by omega) (by omega) λy z _=>Tot.bind (uP K y (u y z) H) λ_ _=>Tot.ix2 (by omega) (by omega) λy z _=>Tot.bind (uP K y (u y z) H) λ_ _=>Tot.ix2 (by omega) (by omega) λy z _=>Tot.bind (zX K y (u y z) H) λt ht=>Tot.ix2 (by omega) (by omega) λy z _=>Tot.bind (jU K y (u y z) H) λ_ _=>Tot.ix2 (by omega) (by omega) λy z _=>Tot.bind (jU K y (u y z) H) λ_ _ =>
    Tot.cnd (λ_=>Tot.ret λh=>by cases h) λ_=>Tot.cnd (λ_=>Tot.ret λh=>by cases h) λ_=>Tot.cnd (λ_=>Tot.ret λh=>by cases h) λ_=>Tot.bind (ol K _ (by show t.1.1.length<=1048576;omega) H) λx ⟨_,hx⟩=>Tot.cnd (λ_=>Tot.ret λh=>by cases h) λJ=>Tot.ret λ_=>?_
   refine Classical.byContradiction λhn=>?_
   rw[hx hn]at J;have R:(ByteArray.mk #[]).toList=s.toList:=by
    have:((ByteArray.mk #[]).toList != s.toList)=false:=J;simpa using this
   rw[Cw,Cw]at R;have h0:=congrArg BB R;rw[fI,fI]at h0;have O:(ByteArray.mk #[]).size=0:=rfl;omega
 exact Tot.ix2 (by omega) (by omega) λy _ _=>Tot.cnd (λ_=>I 2) λ_=>I 1
def Rt (v r:Nat):Prop:=r*r<=v/\v<(r+1)*(r+1)
theorem AN (K:Nat)(v:Nat)(hv:v<1500000001*1500000001)(hK:1048577<K):∃ r,Rt v r/\Q50.f K ((v:Int),())=some (((r:Int),()),()):=by
 have H:∀ (e k l h:Nat),h-l<2 ^ e->e<k->l<=h->h<=1500000000->l*l<=v->v<(h+1)*(h+1)->∃ r,Rt v r/\af (λrec a=>Q50.s0 K ((v:Int),()) rec a) k ((l:Int),(h:Int))=some (((r:Int),()),()):=by
  intro e;induction e with
  |zero =>
   intro k l h J hk z R y u;obtain⟨k,rfl⟩:∃ I,k=I+1:=⟨k-1,by omega⟩;have:l=h:=by omega
   subst this;refine⟨l,⟨y,u⟩,?_⟩;show Q50.s0 K _ _ _=_;simp only[Q50.s0];rw[decide_eq_false (by omega)];rfl
  |succ e X =>
   intro k l h J hk z R y u;obtain⟨k,rfl⟩:∃ I,k=I+1:=⟨k-1,by omega⟩;show ∃ r,Rt v r/\Q50.s0 K _ _ _=_;simp only[Q50.s0];by_cases hl:l<h
   ·rw[decide_eq_true (show (l:Int)<(h:Int) by omega)];have e1:wr .i64 ((l:Int)+(h:Int))=(l:Int)+h:=aK (by omega) (by omega);have e2:wr .i64 ((l:Int)+(h:Int)+1)=((l+h+1:Nat):Int):=(aK (by omega) (by omega)).trans (by omega);have e3:CX ((l+h+1:Nat):Int) 2=(((l+h+1) / 2:Nat):Int):=by
     rw[By (by omega)];omega
    rw[e1,e2,e3];have hm:l<(l+h+1) / 2/\(l+h+1) / 2<=h:=by omega
    have Y:h-(l+h+1) / 2<2 ^ e/\(l+h+1) / 2-1-l<2 ^ e:=by
     rw[Nat.pow_succ]at J;omega
    generalize (l+h+1) / 2=m at *;have e4:wr .i64 (m:Int)=m:=aK (by omega) (by omega);have e5:CX (v:Int) (m:Int)=((v / m:Nat):Int):=by
     rw[By (by omega)];rfl
    have Z:v / m<=v:=Nat.div_le_self _ _;have M:m<=v / m<->m*m<=v:=Nat.le_div_iff_mul_le (by omega);generalize v / m=q at *;have e6:wr .i64 (q:Int)=(q:Int):=aK (by omega) (by omega);rw[e4,e5,e6,decide_eq_false (show ¬ (m:Int)=0 by omega)];simp only[cond_true,cond_false];by_cases O:m<=q
    ·rw[decide_eq_true (by omega)];exact X k m h Y.1 (by omega) (by omega) R (M.1 O) u
    ·rw[decide_eq_false (by omega)];have a0:¬ m*m<=v:=λh4=>O (M.2 h4)
     have e7:wr .i64 ((m:Int)-1)=((m-1:Nat):Int):=eP m (by omega) (by omega);rw[e7];exact X k l (m-1) Y.2 (by omega) (by omega) (by omega) y (by rw[show m-1+1=m by omega];omega)
   ·have:l=h:=by omega
    subst this;refine⟨l,⟨y,u⟩,?_⟩;rw[decide_eq_false (by omega)];rfl
 exact H 31 K 0 1500000000 (by decide) (by omega) (by omega) (by omega) (by omega) hv
def iT (x:Int):Int:=if x< -1000000000 then -1000000000 else if x>1000000000 then 1000000000 else x
theorem qv (K:Nat)(x:Int):Q49.f K (x,())=some ((iT x,()),()):=by
 simp only[Q49.f,Q46.f,iT];by_cases h:x< -1000000000
 ·rw[decide_eq_true h,if_pos h];rfl
 ·rw[decide_eq_false h,if_neg h];by_cases r:x>1000000000
  ·rw[decide_eq_true r,if_pos r];rfl
  ·rw[decide_eq_false r,if_neg r];rfl
theorem tf (x:Int):-1000000000<=iT x/\iT x<=1000000000:=by
 unfold iT;split
 ·omega
 ·split <;> omega
theorem zl {a:Int}(h:-1000000000<=a/\a<=1000000000):0<=a*a/\a*a<=1000000000000000000:=by
 have e:∃ b:Nat,b<=1000000000/\a*a=((b*b:Nat):Int):=by
  refine⟨a.natAbs,by omega,?_⟩;exact (Int.natAbs_mul_self).symm
 obtain⟨b,r,u⟩:=e;have:=CW r r;omega
theorem xm (K:Nat)(x y:Int)(J:1048577<K):Tot (Q51.f K (x,y,())) λ_=>True:=by
 simp only[Q51.f];rw[qv K x,qv K y];simp only[BA];have M:=zl (tf x);have O:=zl (tf y);generalize iT x*iT x=a at *;generalize iT y*iT y=b at *;have u:wr .i64 a=a:=aK (by omega) (by omega);have H:wr .i64 b=b:=aK (by omega) (by omega);have I:wr .i64 (a+b)=(((a+b).toNat:Nat):Int):=(aK (by omega) (by omega)).trans (by omega);rw[u,H,I];obtain⟨r,_,z⟩:=AN K (a+b).toNat (by omega) J;rw[z];simp only[BA];rw[qv K r];exact⟨_,rfl,trivial⟩
theorem AO (K:Nat)(c d:dA)(r:1048577<K):Tot (Q52.f K (c,d,())) λ_=>True:=by
 simp only[Q52.f];exact Tot.bind (iD K c).tot λ_ _=>Tot.cnd (λ_=>Tot.ret trivial) λ_=>Tot.bind (iD K d).tot λ_ _=>Tot.cnd (λ_=>Tot.ret trivial) λ_=>Tot.bind (xm K _ _ r) λ_ _=>Tot.ret trivial
theorem kG (K:Nat)(n u y:Int)(h:u<=y):Tot (Q46.f K (n,u,y,())) λr=>InP r.1.1 u y:=by
 simp only[Q46.f];exact Tot.cnd (λ_=>Tot.ret ⟨B9 _,h⟩) λz=>Tot.cnd (λ_=>Tot.ret ⟨h,B9 _⟩) λH=>Tot.ret ⟨Int.not_lt.1 (of_decide_eq_false z),Int.not_lt.1 (of_decide_eq_false H)⟩
theorem AP (K:Nat)(c b:dA)(t s:Int)(H:cH c)(Y:1048577<K):Tot (Q57.f K (c,b,t,s,())) λr=>cH r.1.1:=by
 simp only[Q57.f];refine Tot.bind (iD K c).tot λv O=>Tot.cnd (λh=>?_) λ_=>Tot.bind (iD K b).tot λv O=>Tot.cnd (λ_=>Tot.ret H) λy=>Tot.bind (cG K _ _ _).tot λv' J=>Tot.cnd (λ_=>Tot.ret H) λu=>?_
 ·rw[O.2 H]at h;cases h
 have hb:=O.1 (by simpa using y);have Z:=J.1 (by simpa using u);obtain⟨_,_,_,⟨c1,c2⟩⟩:=H;obtain⟨_,_,_,⟨b1,b2⟩⟩:=hb;obtain⟨t1,t2⟩:=Z;have R:¬ wr .i64 (c.2.2.2+b.2.2.2)=0:=by rw[aK (by omega) (by omega)];omega
 have z:∀ w:Int,Tot (Q56.f K (c,b,w,t,())) λr=>InP r.1.1 1 1500:=λw=>by
  simp only[Q56.f,Q55.f];refine Tot.bind (P:=λ_=>True) (Tot.cnd (λ_=>Tot.ret trivial) λ_=>Tot.ret trivial) λ_ _=>Tot.not (decide_eq_false (show ¬ t=0 by omega)) (Tot.bind (kG K _ _ _ (by omega)) λ_ _=>Tot.not (decide_eq_false R) (Tot.bind (kG K _ _ _ (by omega)) λ_ h=>Tot.ret h))
 refine Tot.bind (AO K c b Y) λ_ _=>?_
 simp only[Q53.f];refine Tot.bind (P:=λ_=>True) (Tot.not (decide_eq_false R) (Tot.ret trivial)) λ_ _=>Tot.bind (xm K _ _ Y) λn _=>Tot.cnd (λ_=>?_) λh=>?_
 ·simp only[Q54.f];refine Tot.bind (P:=λ_=>True) (Tot.cnd (λ_=>Tot.ret trivial) λ_=>Tot.cnd (λ_=>Tot.ret trivial) λ_=>Tot.cnd (λ_=>Tot.ret trivial) λ_=>Tot.ret trivial) λ_ _=>Tot.cnd (λ_=>?_) λ_=>?_ <;>
  exact Tot.bind (kG K _ _ _ (by omega)) λ_ I=>Tot.bind (kG K _ _ _ (by omega)) λ_ y=>Tot.bind (kG K _ _ _ (by omega)) λ_ u=>Tot.bind (z _) λ_ M=>Tot.ret ⟨I,y,u,M⟩
 ·have X:¬ n.1.1=0:=by simpa using h
  refine Tot.cnd (λ_=>?_) λ_=>?_ <;>
  exact Tot.not (decide_eq_false X) (Tot.bind (kG K _ _ _ (by omega)) λ_ I=>Tot.not (decide_eq_false X) (Tot.bind (kG K _ _ _ (by omega)) λ_ y=>Tot.bind (kG K _ _ _ (by omega)) λ_ u=>Tot.bind (z _) λ_ M=>Tot.ret ⟨I,y,u,M⟩))
noncomputable def pQ (K:Nat)(c b:dA)(t s:Int):dA:=((Q57.f K (c,b,t,s,())).getD (((0,0,0,0),()),())).1.1
noncomputable def sb (K:Nat)(l:List Int):Int:=((Q58.f K (l,())).getD ((0,()),())).1.1
theorem xn (K:Nat)(c b:dA)(t s:Int)(r:cH c)(u:1048577<K):Q57.f K (c,b,t,s,())=some ((pQ K c b t s,()),())/\cH (pQ K c b t s):=by
 obtain⟨⟨⟨v,⟨⟩⟩,⟨⟩⟩,e,h⟩:=AP K c b t s r u;unfold pQ;rw[e];exact⟨rfl,h⟩
theorem med_t (K:Nat)(l:List Int)(hl:l.length<=100)(hK:1048577<K):Tot (Q58.f K (l,())) λ_=>True:=by
 simp only[Q58.f,Q58.pre];have H:∀ I:List Int,I.length<=100->Tot (Q58.l0 K (l,()) (I,[],0)) λ_=>True:=λI hx=>by
  refine Tot.iter (step:=λrec a=>Q58.s0 K (l,()) (Q58.l1 K (l,()) rec) rec a) (λa=>a.1=I/\0<=a.2.2/\a.2.2<=I.length/\(a.2.1.length:Int)=a.2.2) (λa=>I.length-a.2.2.toNat) ?_ K _ (by show I.length-BD 0<K;omega) ⟨rfl,by show (0:Int)<=0;omega,by show (0:Int)<=_;omega,rfl⟩;rintro rec ⟨ys,z,i⟩ ⟨rfl,X,h1,h2⟩ Z;simp only at X h1 h2 hx Z ⊢;simp only[Q58.s0];obtain⟨i,rfl⟩:=BF X;refine Tot.cnd (λh=>?_) λ_=>Tot.cnd (λ_=>Tot.ret trivial) λh=>?_
  ·have J:=of_decide_eq_true h;clear h;refine Tot.iter (step:=λu a=>Q58.s1 K (l,()) rec u a) (λa=>a.1=ys/\a.2.1=z/\a.2.2.1=i/\0<=a.2.2.2/\a.2.2.2<=z.length) (λa=>z.length-a.2.2.2.toNat) ?_ K _ (by show z.length-BD 0<K;omega) ⟨rfl,rfl,rfl,by show (0:Int)<=0;omega,by show (0:Int)<=_;omega⟩;rintro u ⟨R,r,j,k⟩ ⟨rfl,rfl,e,k0,k1⟩ M;simp only at e k0 k1 J h1 h2 hx M Z ⊢;subst e;simp only[Q58.s1];obtain⟨k,rfl⟩:=BF k0;have Y:∀ y:Int,Tot (rec (R,(([]++((r.take (BD (k:Int))).drop (BD 0)))++([y]))++((r.take (BD (BB r:Int))).drop (BD (k:Int))),wr .i64 ((i:Int)+1))) λ_=>True:=λy=>by
    rw[au i (by omega)];refine Z _ ⟨rfl,by show (0:Int)<=((i+1:Nat):Int);omega,by show ((i+1:Nat):Int)<=_;omega,?_⟩ (by show R.length-BD ((i+1:Nat):Int)<R.length-BD (i:Int);omega);simp only[BE,CN,Bq,BO,BP,BW,Bw,BG,BM];omega
   have O:Tot (bif decide (0<=0)&&decide ((0:Int)<=(k:Int))&&decide ((k:Int)<=(BB r:Int))&&true then (bif decide ((BB ([]:List (Ty.den (.int .i64)))+BB ((r.take (BD (k:Int))).drop (BD 0)))*8<=ao) then ((idx R (i:Int)).bind λy3=>bif decide ((BB ([]++((r.take (BD (k:Int))).drop (BD 0)))+BB ([y3]))*8<=ao) then (bif decide ((0:Int)<=(k:Int))&&decide ((k:Int)<=(BB r:Int))&&decide ((BB r:Int)<=(BB r:Int))&&true then (bif decide ((BB (([]++((r.take (BD (k:Int))).drop (BD 0)))++([y3]))+BB ((r.take (BD (BB r:Int))).drop (BD (k:Int))))*8<=ao) then (rec (R,(([]++((r.take (BD (k:Int))).drop (BD 0)))++([y3]))++((r.take (BD (BB r:Int))).drop (BD (k:Int))),wr .i64 ((i:Int)+1))) else none) else none) else none) else none) else none) λ_=>True:=by
    refine Tot.must (by simp only[CA,decide_eq_true_eq,Ce];omega) (Tot.fit (Tot.ix X J λy _ _=>Tot.fit (Tot.must (by simp only[CA,decide_eq_true_eq,Ce];omega) (Tot.fit (Y y) (by omega) ?_)) (by omega) ?_) (by omega) ?_) <;>
    simp only[BE,CN,Bq,BO,BP,BW,Bw,BG,BM] <;> omega
   refine Tot.cnd (λh4=>?_) λ_=>O
   have h4:=of_decide_eq_true h4;refine Tot.ix k0 h4 λy1 _ _=>Tot.ix X J λy2 _ _=>Tot.cnd (λ_=>?_) λ_=>O
   rw[au k (by omega)];exact M _ ⟨rfl,rfl,rfl,by show (0:Int)<=((k+1:Nat):Int);omega,by show ((k+1:Nat):Int)<=_;omega⟩ (by show r.length-BD ((k+1:Nat):Int)<r.length-BD (k:Int);omega)
  ·have h:¬ (z.length:Int)=0:=by simpa using h
   rw[aK (n:=(z.length:Int)-1) (by omega) (by omega)];have e:CX ((z.length:Int)-1) 2=((z.length:Int)-1) / 2:=by rw[By (by omega)]
   rw[e,aK (by omega) (by omega)];exact Tot.ix (by omega) (by omega) λy _ _=>Tot.ret trivial
 refine Tot.cnd (λh=>?_) λ_=>H l hl
 have h:=of_decide_eq_true h;rw[aK (n:=(l.length:Int)-3) (by omega) (by omega)];exact Tot.must (by simp only[CA,decide_eq_true_eq,Ce];omega) (H _ (by simp only[Bw,BW];omega))
theorem med_s (K:Nat)(l:List Int)(r:l.length<=100)(u:1048577<K):Q58.f K (l,())=some ((sb K l,()),()):=by
 obtain⟨⟨⟨v,⟨⟩⟩,⟨⟩⟩,e,_⟩:=med_t K l r u;unfold sb;rw[e];rfl
theorem rg {α A R:Type}(k:α->Int)(x:α)(t:List α)(hA:Asc k t)(Z S1:List α->Nat->A)(I:List α->Option R){step:(A->Option R)->A->Option R}
  (h0:∀ (rec:A->Option R) (r:List α) (i:Nat) (M:i<t.length),r.length=i->(∀ y∈t.take i,k y<k x)->step rec (Z r i)=if k t[i]<k x then rec (Z (r++[t[i]]) (i+1)) else if k t[i]=k x then rec (S1 (r++[x]) (i+1)) else rec (S1 (r++[x]++[t[i]]) (i+1)))
  (h1:∀ (rec:A->Option R) (r:List α) (i:Nat) (M:i<t.length),r.length<=i+1->k x<k t[i]->step rec (S1 r i)=rec (S1 (r++[t[i]]) (i+1)))
  (e0:∀ (rec:A->Option R) (r:List α),r.length=t.length->(∀ y∈t,k y<k x)->step rec (Z r t.length)=I (r++[x]))
  (e1:∀ (rec:A->Option R) (r:List α),r.length<=t.length+1->step rec (S1 r t.length)=I r) {K:Nat} (Y:t.length<K):af step K (Z [] 0)=I (bw k x t):=by
 have r1:∀ (n i K:Nat) (r:List α),i+n=t.length->n<K->r.length<=i+1->(∀ y∈t.drop i,k x<k y)->af step K (S1 r i)=I (r++t.drop i):=by
  intro n;induction n with
  |zero =>
   intro i K r M Y O _;obtain⟨K,rfl⟩:∃ X,K=X+1:=⟨K-1,by omega⟩;have:i=t.length:=by omega
   subst this;show step (af step K) _=_;rw[e1 _ _ O,Cc,BN]
  |succ n ih =>
   intro i K r M Y O hg;obtain⟨K,rfl⟩:∃ X,K=X+1:=⟨K-1,by omega⟩;have u:i<t.length:=by omega
   rw[BL u]at hg;show step (af step K) _=_;rw[h1 _ _ _ u O (hg _ (.head _)),ih (i+1) K _ (by omega) (by omega) (by simp;omega) (λy z=>hg y (.tail _ z)),BL u];simp
 have H:∀ i (M:i<t.length),∀ y∈t.drop (i+1),k t[i]<k y:=λi M y z=>by
  have:=List.Pairwise.drop (i:=i) hA;rw[BL M]at this;exact (BQ.1 this).1 y z
 have r0:∀ (n i K:Nat) (r:List α),i+n=t.length->n<K->r=t.take i->(∀ y∈t.take i,k y<k x)->af step K (Z r i)=I (bw k x t):=by
  intro n;induction n with
  |zero =>
   intro i K r M Y O J;obtain⟨K,rfl⟩:∃ X,K=X+1:=⟨K-1,by omega⟩;have:i=t.length:=by omega
   subst this;rw[CH]at O J;subst O;show step (af step K) _=_;rw[e0 _ _ rfl J];unfold bw;rw[BT.2 (by simpa using J),BY.2 (λy z=>by have:=J y z;simp;omega)]
  |succ n ih =>
   intro i K r M Y O J;obtain⟨K,rfl⟩:∃ X,K=X+1:=⟨K-1,by omega⟩;have u:i<t.length:=by omega
   subst O;have a1:(t.take i).length=i:=by rw[BW];omega
   show step (af step K) _=_;rw[h0 _ _ _ u a1 J];have a0:k x<=k t[i]->bw k x t=t.take i++x::(t.drop i).filter (λy=>decide (k x<k y)):=λhc=>by
    unfold bw;conv=>lhs;rw[<- Ca i t]
    rw[B3,B3,BT.2 (by simpa using J),(BY (l:=t.take i)).2 (λy z=>by have:=J y z;simp;omega),BO];rw[BL u,BV,if_neg (by simp;omega),BY.2 (λy z=>by have:=H i u y z;simp;omega),BN]
   by_cases hc:k t[i]<k x
   ·rw[if_pos hc];refine ih (i+1) K _ (by omega) (by omega) (by rw[C3,BK u];rfl) λy z=>?_
    rw[C3,BK u]at z;rcases Bz.1 z with z|z
    ·exact J y z
    ·simp at z;rw[z];exact hc
   ·rw[if_neg hc,a0 (by omega),BL u];by_cases he:k t[i]=k x
    ·rw[if_pos he,r1 n (i+1) K _ (by omega) (by omega) (by simp;omega) (λy z=>by have:=H i u y z;omega),BV,if_neg (by simp;omega),BT.2 (λy z=>by have:=H i u y z;simp;omega)];simp
    ·rw[if_neg he,r1 n (i+1) K _ (by omega) (by omega) (by simp;omega) (λy z=>by have:=H i u y z;omega),BV,if_pos (by simp;omega),BT.2 (λy z=>by have:=H i u y z;simp;omega)];simp
 exact r0 t.length 0 K [] (by omega) Y rfl (by simp)
theorem xo {t:List ah}{f:ah}(h:∀ g∈t,g.1<f.1):(bS t f).1=t++[f]:=by
 rw[il (λg u e=>by have:=h g u;omega)];unfold bw;rw[BT.2 (by simpa using h),BY.2 (λy r=>by have:=h y r;simp;omega)]
theorem pR:∀ {fs t:List ah},Asc (λf:ah=>f.1) fs->(∀ g∈t,∀ f∈fs,g.1<f.1)->eX t fs=t++fs
 |[],t,_,_=>by simp[eX]
 |f::fs,t,u,h=>by
  show eX (bS t f).1 fs=_;rw[xo (λg r=>h g r f (by simp)),pR (BQ.1 u).2 ?_]
  ·simp
  ·intro g r e y;rcases Bz.1 r with r|r
   ·exact h g r e (by simp[y])
   ·rw[Bv.1 r];exact (BQ.1 u).1 e y
theorem vO {fs:List ah}(h:aB fs):eX [] fs=fs:=by
 rw[pR h.2 (by simp)];rfl
theorem zY (K:Nat)(a b:List ah)(r:aB a)(u:aB b)(y:1048577<K):Q37.f K (a,b,())=some ((eX a b,()),()):=by
 simp only[Q37.f,Q37.pre];obtain⟨R,M,O⟩:=gn K a (bY r) y;obtain⟨X,I,H⟩:=gn K b (bY u) y;have:=bY r;have:=bY u;rw[M,I,O.2 r,H.2 u];simp only[BA,BI,cond_false];rw[szb _ _ _ (by omega) (by show (BB ([]:List ah))+a.length<=_;simp;omega)];simp only[cond_true,BO];refine od a b r u.1 (step:=λrec x=>Q37.s0 K (a,b,()) rec x) (λt=>some ((t,()),())) ?_ ?_ (by omega)
 ·intro rec t i J z;simp only[Q37.s0];rw[bo (by omega:(i:Int)<(BB b:Int)),ag J,au i (by omega)];simp only[cond_true,BA];rw[vG K t _ (bY z) z.2 y];rfl
 ·intro rec t;simp only[Q37.s0,aS];rfl
theorem o6 {r:Int}{l:List bZ}(h:c7 r l)(s:Int):aB (eG l s):=by
 rcases qT (l:=l) (s:=s) with e|⟨x,u,_,e⟩ <;> rw[e]
 ·exact⟨by simp,List.Pairwise.nil⟩
 ·exact (h.1 x u).2.2.2.1
theorem olen {u:Int}{l:List bZ}(h:c7 u l):l.length<=1048576:=Bt (iP h.2 λx r=>⟨(h.1 x r).1.1,CY (h.1 x r).1.2 (by decide)⟩) (by decide)
theorem xp (K:Nat)(n:aa)(s:Int)(t:List ah)(h:c7 n.1 (aa.others n))(r:aB t)(y:1048577<K):Q38.f K (n,s,t,())=some ((eX (eG (aa.others n) s) t,()),()):=by
 have z:=olen h;refine pD (step:=λrec a=>Q38.s0 K (n,s,t,()) rec a) (aa.others n) s (λl=>some ((eX l t,()),())) ?_ ?_ (aa.others n).length 0 K (by omega) (by omega)
 ·intro rec i u;simp only[Q38.s0];rw[bo (by omega:(i:Int)<(BB (aa.others n):Int)),ag u,au i (by omega)];simp only[cond_true,BA];cases (aa.others n)[i].1==s with
  |false=>rfl
  |true=>exact (congrArg (λo=>BS o _) (zY K _ t (h.1 _ (BC u)).2.2.2.1 r y)).trans rfl
 ·intro rec;simp only[Q38.s0,aS,cond_false];rw[vO r];refine (congrArg (λb=>bif b then _ else _) (szb (BB ([]:List ah)) t.length 32 (by omega) ?_)).trans rfl;have:=bY r;simp;omega
theorem sum_s (K:Nat)(n:aa)(s:Int)(t:List ah)(h:c7 n.1 (aa.others n))(R:1048577<K):Q39.f K (n,s,t,())=some ((mU n (bw (λx:bZ=>x.1) (s,t) (aa.others n)),()),()):=by
 have X:=olen h;refine rg (step:=λrec a=>Q39.s0 K (n,s,t,()) rec a) (λx:bZ=>x.1) (s,t) (aa.others n) h.2 (λr i=>(r,false,(i:Int))) (λr i=>(r,true,(i:Int))) (λo=>some ((mU n o,()),())) ?_ ?_ ?_ ?_ (by omega)
 ·intro rec r i H I _;simp only[Q39.s0,zcp4,zcp8];rw[bo (by omega:(i:Int)<(BB (aa.others n):Int)),ag H,au i (by omega)];simp only[cond_true,BA,Br];have u:=szb r.length 1 32 (by omega) (by omega);have O:=szb (r++[(s,t)]).length 1 32 (by omega) (by simp;omega);generalize (aa.others n)[i]=y at *;by_cases J:y.1<s
  ·rw[if_pos J,show decide (y.1>=s)=false from decide_eq_false (by omega),show (y.1 != s)=true by simp;omega];exact (congrArg (λb=>bif b then _ else _) u).trans rfl
  ·rw[if_neg J,show decide (y.1>=s)=true from decide_eq_true (by omega)];refine (congrArg (λb=>bif b then _ else _) u).trans ?_;by_cases z:y.1=s
   ·rw[if_pos z,show (y.1 != s)=false by simpa using z];rfl
   ·rw[if_neg z,show (y.1 != s)=true by simpa using z];exact (congrArg (λb=>bif b then _ else _) O).trans rfl
 ·intro rec r i H I M;simp only[Q39.s0,zcp4,zcp8];rw[bo (by omega:(i:Int)<(BB (aa.others n):Int)),ag H,au i (by omega)];simp only[cond_true,BA,BI,cond_false];have u:=szb r.length 1 32 (by omega) (by omega);rw[show ((aa.others n)[i].1 != s)=true by simp;have:s<_:=M;omega];exact (congrArg (λb=>bif b then _ else _) u).trans rfl
 ·intro rec r I _;simp only[Q39.s0,zcp4,zcp8,aS,cond_false,Br,cond_true];exact (congrArg (λb=>bif b then _ else _) (szb r.length 1 32 (by omega) (by omega))).trans rfl
 ·intro rec r I;simp only[Q39.s0,zcp4,zcp8,aS,cond_false,BI];rfl
theorem yG (K:Nat)(a b:List ah)(Z:a.length<=1048576)(X:1048577<K):Q40.f K (a,b,())=rb (decide (a≠b)):=by
 simp only[Q40.f,Q40.pre];by_cases J:a.length=b.length
 ·rw[show ((BB a:Int) != (BB b:Int))=false by simp;omega];have:=cr (step:=λrec x=>Q40.s0 K (a,b,()) rec x) a.length (λi=>(i:Int)) (λj=>∃ (h:j<a.length) (Y:j<b.length),a[j]≠b[j]) (rb false) (λ_=>rb true) ?_ ?_ a.length K 0 (by omega) (by omega)
  ·rcases this with ⟨H,z⟩|⟨j,_,H,⟨u,M,R⟩,_,z⟩
   ·refine (z:Q40.l0 K (a,b,()) 0=_).trans ?_;rw[decide_eq_false];rintro y;exact y (CR J λi u M=>CM.1 λO=>H i (BX _) u ⟨u,M,O⟩)
   ·refine (z:Q40.l0 K (a,b,()) 0=_).trans ?_;rw[decide_eq_true];rintro rfl;exact R rfl
  ·intro rec i I;simp only[Q40.s0];rw[bo (by omega:(i:Int)<(BB a:Int)),ag I,au i (by omega),ag (show i<b.length by omega)];simp only[cond_true,BA];rw[show Ty.eqv t2 a[i] (b[i]'(by omega))=decide (a[i]=b[i]'(by omega)) from gV _ _];by_cases r:a[i]=b[i]'(by omega)
   ·exact .inl ⟨λ⟨_,_,h⟩=>h r,by rw[decide_eq_true r];rfl⟩
   ·exact .inr ⟨⟨I,by omega,r⟩,by rw[decide_eq_false r];rfl⟩
  ·intro rec;simp only[Q40.s0,aS];rfl
 ·rw[show ((BB a:Int) != (BB b:Int))=true by simp;omega,decide_eq_true (show a≠b from λe=>J (by rw[e]))];rfl
end Go.Proofs.YtaelpfghkndliaaGreatEv
