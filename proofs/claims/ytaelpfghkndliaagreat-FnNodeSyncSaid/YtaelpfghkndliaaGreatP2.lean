/- The marks that a law writes into what was answered, and the look whether they still stand. -/
import Derived.Test.YtaelpfghkndliaaGreatP1
import Derived.Test.YtaelpfghkndliaaGreatE0
import Derived.Laws.Strings
set_option linter.unusedVariables false
set_option linter.unusedSimpArgs false
open Bool renaming not_true->BI,not_false->Bp,true_and->B3,and_eq_true->B8,false_and->CE,eq_iff_iff->CG,and_self->CH,and_true->Cc,false_or->Cj,true_or->Cn,and_false->Cs,or_true->DD
open ByteArray renaming size_extract->CX
open Classical renaming not_not->CK
open Eq renaming trans->Ck
open Go.ByteArray renaming toList_eq->Cu
open Go.IntKind renaming wrap_i64->C6
open Int renaming toNat->BD,toNat_natCast->BE,eq_ofNat_of_zero_le->BF,tdiv_eq_ediv_of_nonneg->Bw,fdiv->B4,le_refl->B7,toNat_zero->CL,tmod->CO,tdiv->CV,le_trans->CW,tmod_eq_emod_of_nonneg->Cf,le_of_lt->Cm,tmod_lt_of_pos->Cx,tdiv_le_self->C7,tmod_nonneg->DA,tdiv_nonneg->DB
open List renaming length->BB,getElem_mem->BC,length_cons->BG,mem_filter->BH,getElem_of_mem->BJ,getElem?_eq_getElem->BK,drop_eq_getElem_cons->BL,length_nil->BM,append_nil->BN,nil_append->BO,length_append->BP,pairwise_cons->BQ,filter_eq_self->BT,length_map->BU,filter_cons->BV,length_take->BW,filter_eq_nil_iff->BY,mem_map->BZ,drop_zero->Bo,reverse_reverse->Bq,pairwise_map->Bs,mem_singleton->Bt,length_drop->Bu,take_of_length_le->Bv,mem_append->Bx,filter_append->By,append_assoc->B5,mem_cons->B6,length_filter_le->B9,pairwise_iff_getElem->CA,pairwise_append->CB,take_succ_eq_append_getElem->CC,reverse_cons->CD,take_length->CF,getElem?_eq_none->CI,length_singleton->CJ,replicate->CN,ext_getElem->CP,mem_of_find?_eq_some->CQ,length_take_le->CR,length_reverse->CS,getElem_take->CT,take_append_drop->CY,length_replicate->CZ,drop_length->Ca,not_mem_nil->Cb,map_append->Cd,length_pos_iff->Ce,filter_congr->Ch,map_cons->Ci,pairwise_singleton->Cl,find?_cons->Co,find?_some->Cp,length_set->Cq,set_append_right->Cr,mem_of_mem_take->Ct,find?_eq_none->Cv,mem_cons_self->Cw,getElem_drop->Cy,take_add_one->Cz,perm_middle->C0,cons_append->C3,getElem_set->C4,mem_range->DC,map_nil->DE
open List.Pairwise renaming filter->CM
open Nat renaming le_refl->BR,zero_le->BX,le_trans->Br,lt_or_eq_of_le->Bz,mul_le_mul->CU,lt_trichotomy->Cg
open Option renaming bind_some->BA,bind->BS,getD_some->C5,map_some->C8
open Option.some renaming inj->C9
namespace Go.Proofs.YtaelpfghkndliaaGreatEv
open Go
theorem kR {α β R:Type}(t:List α)(p:α->Bool)(g:α->β)(n:Nat)(u:List β->Option R){step:(List β×Int->Option R)->List β×Int->Option R}
  (h:∀ (rec:List β×Int->Option R) (r:List β) (i:Nat) (J:i<t.length),r.length<=i->r.length<n->step rec (r,(i:Int))=rec (bif p t[i] then r++[g t[i]] else r,((i+1:Nat):Int)))
  (X:∀ (rec:List β×Int->Option R) (r:List β) (i:Nat),i<t.length->r.length<=i->n<=r.length->step rec (r,(i:Int))=u r)
  (z:∀ (rec:List β×Int->Option R) (r:List β),r.length<=t.length->step rec (r,(t.length:Int))=u r) :
  ∀ (d i k:Nat) (r:List β),i+d=t.length->d<k->r.length<=i->r.length<=n->ae step k (r,(i:Int))=u (r++(((t.drop i).filter p).map g).take (n-r.length)):=by
 intro d;induction d with
 |zero =>
  intro i k r J Z H _;obtain⟨k,rfl⟩:∃ I,k=I+1:=⟨k-1,by omega⟩;have:i=t.length:=by omega
  subst this;show step (ae step k) _=_;rw[z _ _ H];simp
 |succ d M =>
  intro i k r J Z H O;obtain⟨k,rfl⟩:∃ I,k=I+1:=⟨k-1,by omega⟩;have y:i<t.length:=by omega
  show step (ae step k) _=_;by_cases hc:r.length<n
  ·rw[h _ _ _ y H hc,BL y,BV];cases hp:p t[i] with
   |true =>
    simp only[cond_true,if_true,Ci];rw[M (i+1) k _ (by omega) (by omega) (by simp;omega) (by simp;omega)];congr 1;obtain⟨m,Y⟩:∃ m,n-r.length=m+1:=⟨n-r.length-1,by omega⟩;rw[Y,List.take_succ_cons,B5];simp only[BP,BG,BM];rw[show n-(r.length+(0+1))=m by omega];rfl
   |false =>
    simp only[cond_false];rw[M (i+1) k _ (by omega) (by omega) (by omega) (by omega)];rfl
  ·rw[X _ _ _ y H (by omega)];rw[show n-r.length=0 by omega];simp
theorem vt {α β R:Type}(t:List α)(p:α->Bool)(g:α->β)(u:List β->Option R){step:(List β×Int->Option R)->List β×Int->Option R}
  (h:∀ (rec:List β×Int->Option R) (r:List β) (i:Nat) (z:i<t.length),r.length<=i->step rec (r,(i:Int))=rec (bif p t[i] then r++[g t[i]] else r,((i+1:Nat):Int)))
  (y:∀ (rec:List β×Int->Option R) (r:List β),r.length<=t.length->step rec (r,(t.length:Int))=u r) {k:Nat} (I:t.length<k) :
  ae step k ([],0)=u ((t.filter p).map g):=by
 have:=kR t p g (t.length+1) u (λrec r i z H _=>h rec r i z H) (λrec r i z H J=>by omega) y t.length 0 k [] (by omega) I (BR _) (by simp);refine this.trans ?_;congr 1;simp only[BO,BM,Bo];exact Bv (by have:=B9 p t;simp;omega)
theorem dY {e:Ty}{b:Nat}{xs:List e.den}(h:xs.length*b<=140737488355328):fI e b xs=some ((xs,()),()):=by
 unfold fI;rw[decide_eq_true (by simpa[an]using h)];rfl
theorem AA {α β:Type}{xs r:List α}{b:Nat}{x y:β}(h:(xs.length+r.length)*b<=140737488355328):(bif decide ((BB xs+BB r)*b<=an) then x else y)=x:=by
 rw[decide_eq_true (by simpa[an]using h)];rfl
theorem zD (K:Nat)(xs:List Int)(n:Int)(I:xs.length<=1048576):Q128.f K (xs,n,())=some ((xs.take n.toNat,()),()):=by
 simp only[Q128.f,Q127.f,BA,Q8.f];obtain⟨c,y,z,u,r⟩:∃ c:Int,(bif decide (0<(bif decide ((xs.length:Int)<n) then (xs.length:Int) else n)) then bif decide ((xs.length:Int)<n) then (xs.length:Int) else n else 0)=c/\0<=c/\c<=xs.length/\xs.take c.toNat=xs.take n.toNat:=by
  by_cases h:(xs.length:Int)<n
  ·rw[decide_eq_true h];simp only[cond_true];by_cases r:0<(xs.length:Int)
   ·rw[decide_eq_true r];refine⟨_,rfl,by simp,by simp,?_⟩;simp only[cond_true];rw[Bv (by omega),Bv (by omega)]
   ·rw[decide_eq_false r];refine⟨_,rfl,by simp,by simp,?_⟩;have:xs=[]:=List.eq_nil_of_length_eq_zero (by omega);subst this;simp
  ·rw[decide_eq_false h];simp only[cond_false];by_cases r:0<n
   ·rw[decide_eq_true r];exact⟨_,rfl,by simp;omega,by simp;omega,rfl⟩
   ·rw[decide_eq_false r];refine⟨_,rfl,by simp,by simp,?_⟩;simp only[cond_false];rw[show n.toNat=0 by omega];rfl
 rw[y,decide_eq_true z,decide_eq_true u];simp only[CL,Bo,decide_true,CH,cond_true];rw[dY (by
  have:=CR c.toNat xs;have H:(List.take c.toNat xs).length<=1048576:=by omega
  omega)]
 simp only[BA];rw[r];rfl
def mJ (f:ag):Bool:=f.2.2.2&&f.2.2.1==1
def fF (t:List ag):List Int:=((t.filter mJ).map (·.1)).take 2
theorem uG (K:Nat)(t:List ag)(I:t.length<=1048576)(J:1048577<K):Q194.f K (t,2,())=some ((fF t,()),()):=by
 have:=kR (step:=λrec a=>Q194.s0 K (t,2,()) rec a) t mJ (λf=>f.1) 2 (λy=>some ((y,()),())) ?_ ?_ ?_ t.length 0 K [] (by omega) (by omega) (BR _) (by simp)
 ·exact this
 ·intro rec r i u z H;simp only[Q194.s0];rw[bm (by omega:(i:Int)<(BB t:Int)),af u,ar i (by omega),decide_eq_true (by omega:(BB r:Int)<2)];simp only[cond_true,BA,mJ];cases t[i].2.2.2 with
  |true =>
   simp only[cond_true,B3];cases t[i].2.2.1==1 with
   |true=>simp only[cond_true];rw[AA (by simp;omega)]
   |false=>rfl
  |false=>rfl
 ·intro rec r i u z H;simp only[Q194.s0];rw[bm (by omega:(i:Int)<(BB t:Int)),decide_eq_false (by omega:¬ (BB r:Int)<2)];rfl
 ·intro rec r _;simp only[Q194.s0,aR];rfl
theorem wQ (t:List ag):(fF t).length<=2:=by
 unfold fF;exact CR _ _
def eF (l:List bY)(s:Int):List ag:=((l.find? λx=>x.1==s).map (·.2)).getD []
theorem pC {R:Type}(l:List bY)(s:Int)(r:List ag->Option R){step:(Int->Option R)->Int->Option R}
  (h:∀ (rec:Int->Option R) (i:Nat) (H:i<l.length),step rec (i:Int)=bif l[i].1==s then r l[i].2 else rec ((i+1:Nat):Int))
  (u:∀ rec:Int->Option R,step rec (l.length:Int)=r []) :
  ∀ (d i k:Nat),i+d=l.length->d<k->ae step k (i:Int)=r (eF (l.drop i) s):=by
 intro d;induction d with
 |zero =>
  intro i k H I;obtain⟨k,rfl⟩:∃ z,k=z+1:=⟨k-1,by omega⟩;have:i=l.length:=by omega
  subst this;show step (ae step k) _=_;rw[u];simp[eF]
 |succ d J =>
  intro i k H I;obtain⟨k,rfl⟩:∃ z,k=z+1:=⟨k-1,by omega⟩;have y:i<l.length:=by omega
  show step (ae step k) _=_;rw[h _ _ y,BL y];simp only[eF,Co];cases l[i].1==s with
  |true=>rfl
  |false=>exact J (i+1) k (by omega) (by omega)
theorem zE (K:Nat)(n:aa)(s:Int)(u:NB n)(z:1048577<K):Q117.f K (n,s,())=some ((eF (aa.others n) s,()),()):=by
 have y:=u.others;refine pC (step:=λrec a=>Q117.s0 K (n,s,()) rec a) (aa.others n) s (λt=>some ((t,()),())) ?_ ?_ (aa.others n).length 0 K (by omega) (by omega)
 ·intro rec i r;simp only[Q117.s0];rw[bm (by omega:(i:Int)<(BB (aa.others n):Int)),af r,ar i (by omega)];rfl
 ·intro rec;simp only[Q117.s0,aR];rfl
theorem qS {l:List bY}{s:Int}:eF l s=[]\/∃ x∈l,x.1=s/\eF l s=x.2:=by
 unfold eF;cases h:l.find? λx=>x.1==s with
 |none=>exact .inl rfl
 |some x=>exact .inr ⟨x,CQ h,by simpa using Cp h,rfl⟩
def bu {α:Type}(k:α->Int)(x:α)(xs:List α):List α:=xs.filter (λy=>decide (k y<k x))++x::xs.filter (λy=>decide (k x<k y))
theorem qT {α:Type}{k:α->Int}{xs:List α}{v:Int}{m:Nat}(J:m<=xs.length)(I:∀ i,(z:i<xs.length)->i<m->k xs[i]<v)(z:∀ i,(h:i<xs.length)->m<=i->v<=k xs[i]):xs.filter (λy=>decide (k y<v))=xs.take m:=by
 conv=>lhs;rw[<- CY m xs]
 rw[By];have r:(xs.take m).filter (λy=>decide (k y<v))=xs.take m:=by
  rw[BT];intro y u;obtain⟨i,r,rfl⟩:=BJ u;rw[BW]at r;rw[CT];exact decide_eq_true (I i (by omega) (by omega))
 have H:(xs.drop m).filter (λy=>decide (k y<v))=[]:=by
  rw[BY];intro y u;obtain⟨i,r,rfl⟩:=BJ u;rw[Bu]at r;rw[Cy];have:=z (m+i) (by omega) (by omega);simp only[decide_eq_true_eq];omega
 rw[r,H,BN]
theorem qU {α:Type}{k:α->Int}{xs:List α}{v:Int}{m:Nat}(J:m<=xs.length)(I:∀ i,(z:i<xs.length)->i<m->k xs[i]<=v)(z:∀ i,(h:i<xs.length)->m<=i->v<k xs[i]):xs.filter (λy=>decide (v<k y))=xs.drop m:=by
 conv=>lhs;rw[<- CY m xs]
 rw[By];have r:(xs.take m).filter (λy=>decide (v<k y))=[]:=by
  rw[BY];intro y u;obtain⟨i,r,rfl⟩:=BJ u;rw[BW]at r;rw[CT];have:=I i (by omega) (by omega);simp only[decide_eq_true_eq];omega
 have H:(xs.drop m).filter (λy=>decide (v<k y))=xs.drop m:=by
  rw[BT];intro y u;obtain⟨i,r,rfl⟩:=BJ u;rw[Bu]at r;rw[Cy];exact decide_eq_true (z (m+i) (by omega) (by omega))
 rw[r,H,BO]
theorem ii {α:Type}{k:α->Int}{xs:List α}{x:α}{m:Nat}(h:Asc k xs)(H:m<xs.length)(e:k xs[m]=k x):xs.set m x=bu k x xs:=by
 have M:=cC.1 h;have J:∀ i,(u:i<xs.length)->i<m->k xs[i]<k x:=λi u z=>by rw[<- e];exact M i m u H z
 have I:∀ i,(u:i<xs.length)->m<i->k x<k xs[i]:=λi u z=>by rw[<- e];exact M m i H u z
 rw[bu,qT (m:=m) (by omega) J (λi u r=>by
   rcases Bz r with y|y
   ·exact Cm (I i u y)
   ·subst y;omega),
  qU (m:=m+1) (by omega) (λi u r=>by
   rcases Bz (Nat.le_of_lt_succ r) with y|y
   ·exact Cm (J i u y)
   ·subst y;omega) (λi u r=>I i u r),
  List.set_eq_take_append_cons_drop,if_pos H]
theorem gp {α:Type}{k:α->Int}{xs:List α}{x:α}{m:Nat}(z:m<=xs.length)(H:∀ i,(y:i<xs.length)->i<m->k xs[i]<k x)(y:∀ i,(h:i<xs.length)->m<=i->k x<k xs[i]):xs.take m++[x]++xs.drop m=bu k x xs:=by
 rw[bu,qT z H (λi r u=>Cm (y i r u)),qU z (λi r u=>Cm (H i r u)) y,B5];rfl
theorem aY {α:Type}{k:α->Int}{xs:List α}{x y:α}:y∈bu k x xs<->y=x\/(y∈xs/\k y≠k x):=by
 simp only[bu,Bx,B6,BH,decide_eq_true_eq];constructor
 ·rintro (⟨r,u⟩|rfl|⟨r,u⟩)
  ·exact .inr ⟨r,by omega⟩
  ·exact .inl rfl
  ·exact .inr ⟨r,by omega⟩
 ·rintro (rfl|⟨r,u⟩)
  ·exact .inr (.inl rfl)
  ·rcases Int.lt_or_gt_of_ne u with z|z
   ·exact .inl ⟨r,z⟩
   ·exact .inr (.inr ⟨r,z⟩)
theorem eZ {α:Type}{k:α->Int}{xs:List α}{x:α}(h:Asc k xs):Asc k (bu k x xs):=by
 unfold Asc bu;rw[CB,BQ];refine⟨h.filter _,⟨λy u=>?_,h.filter _⟩,λy u z r=>?_⟩
 ·simpa using (BH.1 u).2
 ·have H:k y<k x:=by simpa using (BH.1 u).2
  rcases B6.1 r with rfl|r
  ·exact H
  ·have I:k x<k z:=by simpa using (BH.1 r).2
   omega
theorem yg {α:Type}{k:α->Int}{xs:List α}{x:α}:(bu k x xs).length<=xs.length+1:=by
 have:∀ l:List α,(l.filter (λy=>decide (k y<k x))).length+(l.filter (λy=>decide (k x<k y))).length<=l.length:=by
  intro l;induction l with
  |nil=>simp
  |cons y l u =>
   simp only[BV,BG];by_cases r:k y<k x
   ·rw[if_pos (decide_eq_true r),if_neg (by simp;omega)];simp only[BG];omega
   ·rw[if_neg (by simpa using r)];split <;> (try simp only[BG]) <;> omega
 have:=this xs;simp only[bu,BP,BG];omega
theorem oT {α:Type}{k:α->Int}{xs:List α}(h:Asc k xs){i:Nat}(u:i<xs.length){v:Int}(e:k xs[i]=v):xs.find? (λy=>k y==v)=some xs[i]:=by
 cases r:xs.find? (λy=>k y==v) with
 |none =>
  have:=Cv.1 r xs[i] (BC u);simp[e]at this
 |some y =>
  have z:k y=v:=by simpa using Cp r
  obtain⟨j,H,rfl⟩:=BJ (CQ r);have:=oN h H u (by rw[z,e]);subst this;rfl
theorem nJ {α:Type}{k:α->Int}{xs:List α}{v:Int}(h:∀ y∈xs,k y≠v):xs.find? (λy=>k y==v)=none:=by
 rw[Cv];intro y r;simpa using h y r
def jR {α:Type}(k:α->Int)(x:α):Bool->List α->List α
 |d,[]=>bif d then [] else [x]
 |d,y::r=>(bif !d&&decide (k x<=k y) then [x] else [])++((bif k y != k x then [y] else [])++jR k x (d||decide (k x<=k y)) r)
theorem pD {α:Type}{k:α->Int}{x:α}:∀ {r:List α},(∀ y∈r,k x<k y)->jR k x true r=r
 |[],_=>rfl
 |y::r,h=>by
  have H:=h y (by simp);simp only[jR,BI,CE,cond_false,Cn,BO];rw[pD (λz u=>h z (by simp[u])),show (k y != k x)=true by simp;omega];rfl
theorem kS {α:Type}{k:α->Int}{x:α}:∀ {xs:List α},Asc k xs->jR k x false xs=bu k x xs
 |[],_=>rfl
 |y::u,h=>by
  have R:Asc k u:=(BQ.1 h).2;have H:∀ z∈u,k y<k z:=(BQ.1 h).1;simp only[jR,Bp,B3,Cj];by_cases I:k x<=k y
  ·rw[decide_eq_true I,pD (λz r=>by have:=H z r;omega)];simp only[cond_true,bu,BV];have M:u.filter (λz=>decide (k z<k x))=[]:=by
    rw[BY];intro z r;have:=H z r;simp;omega
   have O:u.filter (λz=>decide (k x<k z))=u:=by
    rw[BT];intro z r;have:=H z r;simp;omega
   rw[M,O,if_neg (by simp;omega)];by_cases J:k y=k x
   ·rw[if_neg (by simp;omega),show (k y != k x)=false by simpa using J];rfl
   ·rw[if_pos (by simp;omega),show (k y != k x)=true by simpa using J];rfl
  ·rw[decide_eq_false I,kS R,show (k y != k x)=true by simp;omega];simp only[cond_false,cond_true,bu,BV,BO];rw[if_pos (by simp;omega),if_neg (by simp;omega)];rfl
theorem sE {α A R:Type}(k:α->Int)(x:α)(t:List α)(q:α->Bool)(X:Option R)(y:List α->Option R)(S:List α->Bool->Nat->A){step:(A->Option R)->A->Option R}
  (h:∀ (rec:A->Option R) (r:List α) (d:Bool) (i:Nat) (O:i<t.length),r.length<=i+1->(d=false->r.length<=i)->step rec (S r d i)=bif q t[i] then X else rec (S ((r++(bif !d&&decide (k x<=k t[i]) then [x] else []))++(bif k t[i] != k x then [t[i]] else [])) (d||decide (k x<=k t[i])) (i+1)))
  (z:∀ (rec:A->Option R) (r:List α) (d:Bool),r.length<=t.length+1->(d=false->r.length<=t.length)->step rec (S r d t.length)=y (r++(bif d then [] else [x]))) :
  ∀ (n i K:Nat) (r:List α) (d:Bool),i+n=t.length->n<K->r.length<=i+1->(d=false->r.length<=i)->ae step K (S r d i)=bif (t.drop i).any q then X else y (r++jR k x d (t.drop i)):=by
 intro n;induction n with
 |zero =>
  intro i K r d O Z M u;obtain⟨K,rfl⟩:∃ J,K=J+1:=⟨K-1,by omega⟩;have:i=t.length:=by omega
  subst this;show step (ae step K) _=_;rw[z _ _ _ M u,Ca];rfl
 |succ n ih =>
  intro i K r d O Z M u;obtain⟨K,rfl⟩:∃ J,K=J+1:=⟨K-1,by omega⟩;have H:i<t.length:=by omega
  show step (ae step K) _=_;rw[h _ _ _ _ H M u,BL H,List.any_cons];cases hq:q t[i] with
  |true=>rfl
  |false =>
   simp only[cond_false,Cj,jR];rw[ih (i+1) K _ _ (by omega) (by omega) ?_ ?_]
   ·simp only[B5]
   ·cases d with
    |true =>
     simp only[BI,CE,cond_false,BN];cases k t[i] != k x <;> simp <;> omega
    |false =>
     have:=u rfl;cases Y:decide (k x<=k t[i]) <;> cases k t[i] != k x <;> simp <;> omega
   ·intro I;rw[Bool.or_eq_false_iff]at I;obtain⟨rfl,Y⟩:=I;have:=u rfl;rw[Y];cases k t[i] != k x <;> simp <;> omega
theorem tX (K:Nat)(n:aa)(u:NB n)(y:1048577<K):∃ b,Q26.f K (n,())=rb b/\Q101.f K (n,())=rb b/\(b=true<->fE n):=by
 obtain⟨b,z,r⟩:=oS K n u y;obtain⟨I,H,J⟩:=sD K n u y;have:b=I:=by rw[CG,r,J]
 subst this;exact⟨b,z,H,r⟩
theorem fE.up {n:aa}(h:fE n)(r:n.2.1=true):UpP n:=by
 have:=h.2.2.2.2.2
 rwa [if_pos r]at this
abbrev aj:=Int×Int×Int×Int×Int×Int×dz×List ag
abbrev aj.table (w:aj):List ag:=w.2.2.2.2.2.2.2
abbrev aj.coord (w:aj):dz:=w.2.2.2.2.2.2.1
def lU:List ag->Prop
 |[]=>False
 |f::l=>ca (f::l) (am f.1)
def dJ (w:aj):Prop:=InP w.1 1 2/\InP w.2.1 1 6/\InP w.2.2.1 0 7/\InP w.2.2.2.1 0 7/\InP w.2.2.2.2.1 0 999999/\InP w.2.2.2.2.2.1 0 7/\cG (aj.coord w)/\aA (aj.table w) /\
 (if w.2.1=6 then lU (aj.table w) else ca (aj.table w) (am w.2.2.1))
theorem lV (K:Nat)(w:aj)(r:(aj.table w).length<=1048576)(u:1048577<K):Ret (Q27.f K (w,())) (dJ w):=by
 refine Ret.nx (cF K _ _ _) λ_=>Ret.nx (cF K _ _ _) λ_=>Ret.nx (cF K _ _ _) λ_=>Ret.nx (cF K _ _ _) λ_=>Ret.nx (cF K _ _ _) λ_=>Ret.nx (cF K _ _ _) λ_=>Ret.nx (iA K _) λ_=>Ret.nx (gm K _ r u) λ_=>?_
 dsimp only;by_cases h:w.2.1=6
 ·rw[show (w.2.1==6)=true by simpa using h,if_pos h];obtain⟨w1,w2,w3,w4,H,y,z,t⟩:=w;cases t with
  |nil=>exact Ret.no (λh=>h)
  |cons f l =>
   rw[show decide ((BB (f::l):Int)>0)=true from decide_eq_true (by simp only[BG];omega)];simp only[cond_true];exact Ret.vl (af (xs:=f::l) (i:=0) (by simp)) (eY K _ _ r u).id
 ·rw[show (w.2.1==6)=false by simpa using h,if_neg h];exact (eY K _ _ r u).id
theorem yh (K:Nat)(w:aj)(r:(aj.table w).length<=1048576)(u:1048577<K):Ret (Q102.f K (w,())) (dJ w):=by
 refine Ret.iff (Q:=dJ w) (Ret.nx (eH K _ _ _) λ_=>Ret.nx (eH K _ _ _) λ_=>Ret.nx (i9 K _) λ_=>Ret.nx (i9 K _) λ_=>Ret.nx (i9 K _) λ_=>Ret.nx (eH K _ _ _) λ_=>Ret.nx (nI K _) λ_=>Ret.nx (gn K _ r u)
  (Q:=if w.2.1=6 then lU (aj.table w) else ca (aj.table w) (am w.2.2.1)) λ_=>?_) ?_
 ·dsimp only;by_cases h:w.2.1=6
  ·rw[show (w.2.1==6)=true by simpa using h,if_pos h];obtain⟨w1,w2,w3,w4,H,y,z,t⟩:=w;cases t with
   |nil=>exact Ret.no (λh=>h)
   |cons f l =>
    rw[show decide ((BB (f::l):Int)>0)=true from decide_eq_true (by simp only[BG];omega)];simp only[cond_true];exact Ret.vl (af (xs:=f::l) (i:=0) (by simp)) (Ret.vl (mH K _) (ic K _ _ r u).id)
  ·rw[show (w.2.1==6)=false by simpa using h,if_neg h];simp only[cond_false];exact Ret.vl (mH K _) (ic K _ _ r u).id
 ·unfold dJ;constructor
  ·rintro⟨h1,h2,h3,h4,h5,h6,h7,h8,h9⟩;exact⟨h1,h2,h3,h4,h6,h5,h7,h8,h9⟩
  ·rintro⟨h1,h2,h3,h4,h6,h5,h7,h8,h9⟩;exact⟨h1,h2,h3,h4,h5,h6,h7,h8,h9⟩
theorem iC {α A R:Type}(xs:List α)(S:List α->Nat->A)(r:Option R){step:(A->Option R)->A->Option R}
  (h:∀ (rec:A->Option R) (u:List α) (i:Nat) (z:i<xs.length),u.length=i->step rec (S u i)=rec (S (u++[xs[i]]) (i+1))) (y:∀ rec:A->Option R,step rec (S xs xs.length)=r) {k:Nat} (H:xs.length<k):ae step k (S [] 0)=r:=by
 refine fk (step:=step) xs.length (λi=>S (xs.take i) i) r ?_ ?_ H
 ·intro rec i z;show step rec (S (xs.take i) i)=rec (S (xs.take (i+1)) (i+1));rw[h rec (xs.take i) i z (by simp;omega),CC z]
 ·intro rec;show step rec (S (xs.take xs.length) xs.length)=r;rw[CF];exact y rec
theorem szb (a b c:Nat)(r:c<=64)(h:a+b<=2097152):decide ((a+b)*c<=an)=true:=by
 have:=CU h r;exact decide_eq_true (by unfold an;omega)
theorem mK (K:Nat)(n:aa)(y:NB n)(R:1048577<K):Q62.f K (n,())=some ((n,()),()):=by
 have I:=y.table;have M:=y.cast;have H:=y.doubts;have J:=y.places;have O:=y.others;simp only[Q62.f,Q62.pre];rw[szb _ _ _ (by omega) (by show (BB ([]:List ag))+(aa.table n).length<=_;simp;omega),szb _ _ _ (by omega) (by show (BB ([]:List aL))+(aa.cast n).length<=_;simp;omega)];simp only[cond_true];refine iC (aa.doubts n) (step:=λrec a=>Q62.s0 K (n,()) (Q62.l1 K (n,())) rec a) (λr i=>((i:Int),r)) _ ?_ ?_ (by omega)
 ·intro rec r i u z;have:=y.by_ _ (BC u);simp only[Q62.s0];rw[bm (by omega:(i:Int)<(BB (aa.doubts n):Int)),af u,ar i (by omega)];simp only[cond_true,BA];rw[szb _ _ _ (by omega) (by simp;omega),szb _ _ _ (by omega) (by simp;omega)];rfl
 ·intro rec;simp only[Q62.s0,aR,cond_false];refine iC (aa.places n) (step:=λrec a=>Q62.s1 K (n,()) (Q62.l2 K (n,())) rec a) (λr i=>((i:Int),aa.doubts n,r)) _ ?_ ?_ (by omega)
  ·intro rec r i u z;have:=y.trips _ (BC u);simp only[Q62.s1];rw[bm (by omega:(i:Int)<(BB (aa.places n):Int)),af u,ar i (by omega)];simp only[cond_true,BA];rw[szb _ _ _ (by omega) (by simp;omega),szb _ _ _ (by omega) (by simp;omega)];rfl
  ·intro rec;simp only[Q62.s1,aR,cond_false];refine iC (aa.others n) (step:=λrec a=>Q62.s2 K (n,()) rec a) (λr i=>((i:Int),aa.doubts n,aa.places n,r)) _ ?_ ?_ (by omega)
   ·intro rec r i u z;have:=y.facts _ (BC u);simp only[Q62.s2,zcp8];rw[bm (by omega:(i:Int)<(BB (aa.others n):Int)),af u,ar i (by omega)];simp only[cond_true,BA];rw[szb _ _ _ (by omega) (by simp;omega),szb _ _ _ (by omega) (by simp;omega)];rfl
   ·intro rec;simp only[Q62.s2,zcp8,aR,cond_false];rfl
theorem yi (K:Nat)(n:aa)(y:NB n)(R:1048577<K):Q145.f K (n,())=some ((n,()),()):=by
 have I:=y.table;have M:=y.cast;have H:=y.doubts;have J:=y.places;have O:=y.others;simp only[Q145.f,Q145.pre];refine iC (aa.doubts n) (step:=λrec a=>Q145.s0 K (n,()) (Q145.l1 K (n,())) rec a) (λr i=>(r,(i:Int))) _ ?_ ?_ (by omega)
 ·intro rec r i u z;have:=y.by_ _ (BC u);simp only[Q145.s0,Q8.f];rw[bm (by omega:(i:Int)<(BB (aa.doubts n):Int)),af u,ar i (by omega)];simp only[cond_true,BA];rw[dY (by omega)];simp only[BA];rw[szb _ _ _ (by omega) (by simp;omega)];rfl
 ·intro rec;simp only[Q145.s0,aR,cond_false];refine iC (aa.places n) (step:=λrec a=>Q145.s1 K (n,()) (Q145.l2 K (n,())) rec a) (λr i=>(aa.doubts n,r,(i:Int))) _ ?_ ?_ (by omega)
  ·intro rec r i u z;have:=y.trips _ (BC u);simp only[Q145.s1,Q8.f];rw[bm (by omega:(i:Int)<(BB (aa.places n):Int)),af u,ar i (by omega)];simp only[cond_true,BA];rw[dY (by omega)];simp only[BA];rw[szb _ _ _ (by omega) (by simp;omega)];rfl
  ·intro rec;simp only[Q145.s1,aR,cond_false];refine iC (aa.others n) (step:=λrec a=>Q145.s2 K (n,()) rec a) (λr i=>(aa.doubts n,aa.places n,r,(i:Int))) _ ?_ ?_ (by omega)
   ·intro rec r i u z;have:=y.facts _ (BC u);simp only[Q145.s2,zcp8,Q0.f];rw[bm (by omega:(i:Int)<(BB (aa.others n):Int)),af u,ar i (by omega)];simp only[cond_true,BA];rw[dY (by omega)];simp only[BA];rw[szb _ _ _ (by omega) (by simp;omega)];rfl
   ·intro rec;simp only[Q145.s2,zcp8,aR,cond_false,Q0.f,Q2.f];rw[dY (by show (aa.table n).length*_<=_;omega),dY (by show (aa.cast n).length*_<=_;omega)];rfl
instance (f g:ag):Decidable (bI f g):=by unfold bI;infer_instance
theorem pE (K:Nat)(f g:ag):Q19.f K (f,g,())=rb (decide (bI f g)):=by
 obtain⟨b,r,u⟩:=sC K f g;rw[r,show b=decide (bI f g) by rw[CG,u];simp]
def bR (t:List ag)(f:ag):List ag×Bool :=
 match t.find? (λg=>g.1==f.1) with
 |some g=>if bI f g then (bu (λg=>g.1) f t,true) else (t,false)
 |none=>(bu (λg=>g.1) f t,true)
theorem kh {t:List ag}{f:ag}(r:Asc (λg:ag=>g.1) t){i:Nat}(u:i<t.length)(e:t[i].1=f.1):bR t f=if bI f t[i] then (bu (λg=>g.1) f t,true) else (t,false):=by
 unfold bR;rw[show t.find? (λg=>g.1==f.1)=some t[i] from oT r u e]
theorem ij {t:List ag}{f:ag}(h:∀ g∈t,g.1≠f.1):bR t f=(bu (λg=>g.1) f t,true):=by
 unfold bR;rw[show t.find? (λg=>g.1==f.1)=none from nJ h]
theorem ju {e:Ty}{b:Nat}{xs:List e.den}{m:Nat}{v:e.den}(u:m<=xs.length)(r:b<=64)(y:xs.length<=1048576):fN e b xs (m:Int) [v]=some ((xs.take m++[v]++xs.drop m,()),()):=by
 unfold fN;have:(xs.length+[v].length)*b<=140737488355328:=Br (CU (show xs.length+[v].length<=1048577 by simp;omega) r) (by decide);rw[if_pos ⟨by omega,by omega,by simp,by simpa only[an]using this⟩,BE]
theorem qW {e:Ty}{xs:List e.den}{u:e.den×Unit->Option Bool}(p:e.den->Bool)(z:xs.length<=1048576)(h:∀ x∈xs,u (x,())=some (p x)):gH e xs u=some ((xs.filter (λx=>!p x),()),()):=by
 have:∀ r:List e.den,(∀ x∈r,u (x,())=some (p x))->lN u r=some (r.filter (λx=>!p x)):=by
  intro r;induction r with
  |nil=>intro _;rfl
  |cons y r H =>
   intro h;simp only[lN,h y (by simp),BA,H (λx z=>h x (by simp[z])),C8,BV];cases p y <;> rfl
 unfold gH;rw[if_pos z,this xs h];rfl
theorem put_s (K:Nat)(t:List ag)(f:ag)(ht:t.length<=1048576)(O:Asc (λg:ag=>g.1) t)(hK:1048577<K):Q29.f K (t,f,())=some (((bR t f).1,(bR t f).2,()),()):=by
 simp only[Q29.f,Q29.pre];obtain⟨o,H,M⟩:=fh K t f.1 ht hK;rw[M];simp only[BA];cases H with
 |at_ i r e =>
  simp only;rw[kh O r e,decide_eq_true (by omega:((i:Nat):Int)>=0),af r];simp only[cond_true,BA];rw[show Q19.f K (f,t[i],())=_ from pE K f t[i]];simp only[BA];by_cases H:bI f t[i]
  ·rw[decide_eq_true H,if_pos H];simp only[BI,cond_false];rw[szb _ _ _ (by omega) (by show (BB ([]:List ag))+t.length<=_;simp;omega)];simp only[cond_true,BO,af r,BA,BE];rw[ii (k:=λg:ag=>g.1) O r e]
  ·rw[decide_eq_false H,if_neg H];rfl
 |no h =>
  simp only;rw[ij h,decide_eq_false (by omega:¬ (-1:Int)>=0)];simp only[cond_false];have J:∀ m:Nat,m<=t.length->(bif decide ((0:Int)<=0)&&decide ((0:Int)<=(m:Int))&&decide ((m:Int)<=(BB t:Int))&&true then (bif decide ((BB ([]:List ag)+BB ((t.take (BD (m:Int))).drop (BD 0)))*32<=an) then (bif decide ((BB ([]++((t.take (BD (m:Int))).drop (BD 0)))+BB ([f]))*32<=an) then (bif decide ((0:Int)<=(m:Int))&&decide ((m:Int)<=(BB t:Int))&&decide ((BB t:Int)<=(BB t:Int))&&true then (bif decide ((BB (([]++((t.take (BD (m:Int))).drop (BD 0)))++([f]))+BB ((t.take (BD (BB t:Int))).drop (BD (m:Int))))*32<=an) then (some (((([]++((t.take (BD (m:Int))).drop (BD 0)))++([f]))++((t.take (BD (BB t:Int))).drop (BD (m:Int))),true,()),())) else none) else none) else none) else none) else (none:Option ((List ag×Bool×Unit)×Unit)))=some ((t.take m++[f]++t.drop m,true,()),()):=by
   intro m X;rw[decide_eq_true (by omega:(0:Int)<=0),decide_eq_true (by omega:(0:Int)<=(m:Int)),decide_eq_true (by omega:(m:Int)<=(BB t:Int)),decide_eq_true (by omega:(BB t:Int)<=(BB t:Int))];simp only[BE,CL,Bo,BO,CF,CH,cond_true];have M:(t.take m).length=m:=by rw[BW];omega
   have z:(t.drop m).length=t.length-m:=Bu;rw[szb _ _ _ (by omega) (by simp only[BM];omega),szb _ _ _ (by omega) (by simp only[BG,BM];omega),szb _ _ _ (by omega) (by simp only[BP,BG,BM];omega)];rfl
  have:=cq (step:=λrec a=>Q29.s0 K (t,f,()) rec a) t.length (λi=>(i:Int)) (λj=>∃ h:j<t.length,¬ t[j].1<f.1) (some ((t.take t.length++[f]++t.drop t.length,true,()),())) (λj=>some ((t.take j++[f]++t.drop j,true,()),())) ?_ ?_ t.length K 0 (by omega) (by omega)
  ·have I:∀ m,m<=t.length->(∀ i,(r:i<t.length)->i<m->t[i].1<f.1)->(∀ i,(r:i<t.length)->m<=i->f.1<t[i].1)->t.take m++[f]++t.drop m=bu (λg=>g.1) f t:=λm X lo r=>gp (k:=λg:ag=>g.1) X lo r
   rcases this with ⟨M,z⟩|⟨j,_,M,⟨Y,h4⟩,Z,z⟩
   ·rw[I t.length (BR _) (λi r _=>by
     have:=M i (BX _) r;exact CK.1 λh=>this ⟨r,h⟩) (λi r h=>by omega)]at z
    exact z
   ·rw[I j (by omega) (λi r y=>by
     have:=Z i (BX _) y;exact CK.1 λh=>this ⟨r,h⟩) (λi r y=>by
     have a0:=h t[i] (BC r);rcases Bz y with R|R
     ·have:=cC.1 O j i Y r R;omega
     ·subst R;omega)]at z
    exact z
  ·intro rec i r;simp only[Q29.s0];rw[bm (by omega:(i:Int)<(BB t:Int)),af r,ar i (by omega)];simp only[cond_true,BA];by_cases u:t[i].1<f.1
   ·exact .inl ⟨λ⟨_,h⟩=>h u,by rw[decide_eq_true u];rfl⟩
   ·exact .inr ⟨⟨r,u⟩,by rw[decide_eq_false u];exact J i (by omega)⟩
  ·intro rec;simp only[Q29.s0,aR,cond_false];exact J t.length (BR _)
theorem vu (K:Nat)(t:List ag)(f:ag)(R:t.length<=1048576)(y:Asc (λg:ag=>g.1) t)(X:1048577<K):Q105.f K (t,f,())=some (((bR t f).1,(bR t f).2,()),()):=by
 simp only[Q105.f,Q0.f,Q1.f];rw[dY (by omega)];simp only[BA];obtain⟨m,u,Z⟩:=sA K t f.1 R y X;rw[Z];simp only[BA];by_cases I:∃ h:m<t.length,t[m].1=f.1
 ·obtain⟨J,z⟩:=I;rw[decide_eq_true ⟨J,z⟩,kh y J z];simp only[BI,cond_false,af J,BA,BE];rw[mI K f t[m] X];simp only[BA];by_cases M:bI f t[m]
  ·rw[decide_eq_true ((jt z.symm).2 M),if_pos M,ii (k:=λg:ag=>g.1) y J z];rfl
  ·rw[decide_eq_false (λh=>M ((jt z.symm).1 h)),if_neg M];rfl
 ·rw[decide_eq_false I,ij (λg hg e=>by
   obtain⟨i,r,rfl⟩:=BJ hg;rcases Cg i m with h|h|h
   ·have:=u.lo i r h;omega
   ·subst h;exact I ⟨r,e⟩
   ·have Y:=u.hi m (by omega) (BR _);have O:=cC.1 y m i (by omega) r h;omega)]
  simp only[Bp,cond_true];rw[ju u.le (by omega) R];simp only[BA];rw[gp (k:=λg:ag=>g.1) u.le u.lo (λi r H=>by
   have:=u.hi i r H;rcases Bz H with O|O
   ·have Y:=u.hi m (by omega) (BR _);have h7:=cC.1 y m i (by omega) r O;omega
   ·subst O;have:t[m].1≠f.1:=λe=>I ⟨r,e⟩
    omega)]
def dq (l:List aL)(f:ag):List aL:=if ∃ x∈l,x.1.1=f.1/\¬ bI f x.1 then l else bu (λx=>x.1.1) (f,4) l
theorem tY {l:List aL}{f:ag}:dq l f=bif l.any (λx=>x.1.1==f.1&&!decide (bI f x.1)) then l else bu (λx=>x.1.1) (f,4) l:=by
 unfold dq;have:(∃ x∈l,x.1.1=f.1/\¬ bI f x.1)<->l.any (λx=>x.1.1==f.1&&!decide (bI f x.1))=true:=by
  rw[List.any_eq_true];simp
 by_cases h:∃ x∈l,x.1.1=f.1/\¬ bI f x.1
 ·rw[if_pos h,this.1 h];rfl
 ·rw[if_neg h,show l.any (λx=>x.1.1==f.1&&!decide (bI f x.1))=false by rw[Bool.eq_false_iff];exact λr=>h (this.2 r)];rfl
theorem zF (K:Nat)(l:List aL)(f:ag)(X:l.length<=1048576)(I:Asc (λx:aL=>x.1.1) l)(Y:1048577<K):Q30.f K (l,f,())=some ((dq l f,()),()):=by
 have:=sE (step:=λrec a=>Q30.s0 K (l,f,()) rec a) (λx:aL=>x.1.1) (f,4) l (λx=>x.1.1==f.1&&!decide (bI f x.1)) (some ((l,()),())) (λO=>some ((O,()),())) (λr d i=>(r,d,(i:Int))) ?_ ?_ l.length 0 K [] false (by omega) (by omega) (by simp) (by simp)
 ·refine Ck (this:Q30.f K (l,f,())=_) ?_;rw[Bo,tY,kS I];cases l.any (λx=>x.1.1==f.1&&!decide (bI f x.1)) <;> rfl
 ·intro rec r d i M R z;simp only[Q30.s0];rw[bm (by omega:(i:Int)<(BB l:Int)),af M,ar i (by omega)];simp only[cond_true,BA];have y:decide ((r.length+[((f,4):ag×Nat)].length)*40<=an)=true:=szb _ _ _ (by omega) (by simp;omega);have J:decide (((r++[((f,4):aL)]).length+[l[i]].length)*40<=an)=true:=szb _ _ _ (by omega) (by simp;omega);have H:decide ((r.length+[l[i]].length)*40<=an)=true:=szb _ _ _ (by omega) (by simp;omega);by_cases u:l[i].1.1=f.1
  ·rw[show (l[i].1.1==f.1)=true by simpa using u,show (l[i].1.1 != f.1)=false by simpa using u,show decide (f.1<=l[i].1.1)=true from decide_eq_true (by omega)];simp only[cond_true,cond_false,B3,Cc,DD,BN];rw[show Q19.f K (f,l[i].1,())=_ from pE K f l[i].1];simp only[BA];cases decide (bI f l[i].1) with
   |false=>rfl
   |true =>
    simp only[BI,cond_false];cases d with
    |true=>simp only[BI,cond_false,BN]
    |false =>
     simp only[Bp,cond_true];rw[y];rfl
  ·rw[show (l[i].1.1==f.1)=false by simpa using u,show (l[i].1.1 != f.1)=true by simpa using u];simp only[cond_true,cond_false,CE];cases d with
   |true =>
    simp only[BI,cond_false,CE,BN,Cn];rw[H];rfl
   |false =>
    simp only[Bp,cond_true,B3,Cj];cases decide (f.1<=l[i].1.1) with
    |true =>
     simp only[cond_true];rw[y];simp only[cond_true];rw[J];rfl
    |false =>
     simp only[cond_false,BN];rw[H];rfl
 ·intro rec r d R z;simp only[Q30.s0,aR];cases d with
  |true=>simp only[BI,cond_false,cond_true,BN]
  |false =>
   have:=z rfl;have y:decide ((r.length+[((f,4):ag×Nat)].length)*40<=an)=true:=szb _ _ _ (by omega) (by simp;omega);simp only[Bp,cond_true,cond_false];rw[y];rfl
theorem wR (K:Nat)(l:List aL)(f:ag)(Y:l.length<=1048576)(X:cQ l)(hf:bk f)(Z:1048577<K):Q107.f K (l,f,())=some ((dq l f,()),()):=by
 simp only[Q107.f,Q2.f,Q3.f];obtain⟨b1,e1,e2⟩:=oQ K l Y Z;have a2:=e2.2 X;subst a2;obtain⟨b2,e3,e4⟩:=lT K f;have a0:=e4.2 hf;subst a0;rw[e1];simp only[BA,BI,cond_false];rw[e3];simp only[BA,BI,cond_false];rw[dY (by omega)];simp only[BA];rw[uF K l Y Z];simp only[BA];have hA:Asc (λg:ag=>g.1) (l.map (·.1)):=by
  have:=X.2;unfold Asc at this ⊢;rw[Bs];exact this
 have r:(l.map (·.1)).length=l.length:=BU _;obtain⟨m,hm,h1⟩:=sA K (l.map (·.1)) f.1 (by rw[r];exact Y) hA Z;rw[h1];simp only[BA];have y:∀ i (h:i<l.length),(l.map (·.1))[i]'(by rw[r];exact h)=l[i].1:=λi h=>List.getElem_map _
 have M:=hm.le;rw[r]at M;have lo:∀ i,(u:i<l.length)->i<m->l[i].1.1<f.1:=λi u J=>by have:=hm.lo i (by rw[r];exact u) J;rwa [y i u]at this
 have R:∀ i,(u:i<l.length)->m<=i->f.1<=l[i].1.1:=λi u J=>by have:=hm.hi i (by rw[r];exact u) J;rwa [y i u]at this
 by_cases he:∃ h:m<l.length,l[m].1.1=f.1
 ·obtain⟨z,H⟩:=he;rw[decide_eq_true ⟨by rw[r];exact z,by rw[y m z];exact H⟩];simp only[BI,cond_false,af z,BA,BE];rw[show Q87.f K (f,l[m].1,())=_ from mI K f l[m].1 Z];simp only[BA];have a3:∀ x∈l,x.1.1=f.1->x=l[m]:=λx I e=>by
   obtain⟨i,u,rfl⟩:=BJ I;have:=oN X.2 u z (by show l[i].1.1=l[m].1.1;rw[e,H]);subst this;rfl
  by_cases ho:bI f l[m].1
  ·rw[decide_eq_true ((jt H.symm).2 ho),dq,if_neg (λ⟨x,I,e,hn⟩=>hn (by rw[a3 x I e];exact ho)),ii (k:=λx:aL=>x.1.1) (x:=(f,4)) X.2 z H];rfl
  ·rw[decide_eq_false (λh=>ho ((jt H.symm).1 h)),dq,if_pos ⟨l[m],BC z,H,ho⟩];rfl
 ·have O:∀ x∈l,x.1.1≠f.1:=λx I e=>by
   obtain⟨i,u,rfl⟩:=BJ I;rcases Cg i m with h|h|h
   ·have:=lo i u h;omega
   ·subst h;exact he ⟨u,e⟩
   ·have h5:=R m (by omega) (BR _);have h6:l[m].1.1<l[i].1.1:=cC.1 X.2 m i (by omega) u h;omega
  rw[decide_eq_false (λ⟨z,H⟩=>he ⟨by rw[r]at z;exact z,by rw[y m (by rw[r]at z;exact z)]at H;exact H⟩),dq,if_neg (λ⟨x,I,e,_⟩=>O x I e)];simp only[Bp,cond_true];rw[ju M (by omega) Y];simp only[BA];rw[gp (k:=λx:aL=>x.1.1) (x:=(f,4)) M lo (λi u a1=>by
   have h1:=R i u a1;have z:=O l[i] (BC u);show f.1<l[i].1.1;omega)]
theorem n9 {α:Type}{k:α->Int}{x:α}:∀ {r:List α},jR k x true r=r.filter (λy=>k y != k x)
 |[]=>rfl
 |y::r=>by
  simp only[jR,BI,CE,cond_false,Cn,BO,BV];rw[n9];cases k y != k x <;> rfl
theorem tZ {α:Type}{k:α->Int}{x:α}{xs:List α}:bu k x (xs.filter λy=>!(k y==k x))=bu k x xs:=by
 simp only[bu,List.filter_filter];congr 1
 ·refine Ch λy _=>?_
  by_cases h:k y<k x
  ·rw[decide_eq_true h];simp;omega
  ·rw[decide_eq_false h];rfl
 ·congr 1;refine Ch λy _=>?_
  by_cases h:k x<k y
  ·rw[decide_eq_true h];simp;omega
  ·rw[decide_eq_false h];rfl
def mkD (r:Int)(f:ag)(b:Int):bN:=(f.1,f.2.1,r,[b])
def cN (r:Int)(ds:List bN)(f:ag)(b:Int):List bN:=if f.2.2.1=2 then bu (λd=>d.1) (mkD r f b) ds else ds.filter (λd=>!(d.1==f.1))
theorem zG (K:Nat)(n:aa)(f:ag)(b:Int)(X:(aa.doubts n).length<=1048576)(H:Asc (λd:bN=>d.1) (aa.doubts n))(Y:1048577<K) :
  Q31.f K (n,f,b,())=some ((cN n.2.2.2.2.2.1 (aa.doubts n) f b,()),()):=by
 have:=sE (step:=λrec a=>Q31.s0 K (n,f,b,()) rec a) (λd:bN=>d.1) (mkD n.2.2.2.2.2.1 f b) (aa.doubts n) (λ_=>false) none (λO=>some ((O,()),())) (λr d i=>(r,d,(i:Int))) ?_ ?_ (aa.doubts n).length 0 K [] (f.2.2.1 != 2) (by omega) (by omega) (by simp) (by simp)
 ·refine Ck (this:Q31.f K (n,f,b,())=_) ?_;rw[Bo,show (aa.doubts n).any (λ_=>false)=false by simp,cN];by_cases u:f.2.2.1=2
  ·rw[if_pos u,show (f.2.2.1 != 2)=false by simpa using u,kS H];rfl
  ·rw[if_neg u,show (f.2.2.1 != 2)=true by simpa using u,n9];rfl
 ·intro rec r d i J R z;simp only[Q31.s0];rw[bm (by omega:(i:Int)<(BB (aa.doubts n):Int)),af J,ar i (by omega)];simp only[cond_true,cond_false,BA];have y:decide ((r.length+[mkD n.2.2.2.2.2.1 f b].length)*48<=an)=true:=szb _ _ _ (by omega) (by simp;omega);have I:decide (((r++[mkD n.2.2.2.2.2.1 f b]).length+[(aa.doubts n)[i]].length)*48<=an)=true:=szb _ _ _ (by omega) (by simp;omega);have M:decide ((r.length+[(aa.doubts n)[i]].length)*48<=an)=true:=szb _ _ _ (by omega) (by simp;omega);show (bif !d then (bif decide (f.1<=(aa.doubts n)[i].1) then (bif decide ((r.length+[mkD n.2.2.2.2.2.1 f b].length)*48<=an) then (bif (aa.doubts n)[i].1 != f.1 then (bif decide (((r++[mkD n.2.2.2.2.2.1 f b]).length+[(aa.doubts n)[i]].length)*48<=an) then (rec ((r++[mkD n.2.2.2.2.2.1 f b])++[(aa.doubts n)[i]],true,((i+1:Nat):Int))) else none) else (rec (r++[mkD n.2.2.2.2.2.1 f b],true,((i+1:Nat):Int)))) else none) else (bif (aa.doubts n)[i].1 != f.1 then (bif decide ((r.length+[(aa.doubts n)[i]].length)*48<=an) then (rec (r++[(aa.doubts n)[i]],d,((i+1:Nat):Int))) else none) else (rec (r,d,((i+1:Nat):Int))))) else (bif (aa.doubts n)[i].1 != f.1 then (bif decide ((r.length+[(aa.doubts n)[i]].length)*48<=an) then (rec (r++[(aa.doubts n)[i]],d,((i+1:Nat):Int))) else none) else (rec (r,d,((i+1:Nat):Int)))))=rec ((r++(bif !d&&decide (f.1<=(aa.doubts n)[i].1) then [mkD n.2.2.2.2.2.1 f b] else []))++(bif (aa.doubts n)[i].1 != f.1 then [(aa.doubts n)[i]] else []),d||decide (f.1<=(aa.doubts n)[i].1),((i+1:Nat):Int));rw[y,I,M];cases d <;> cases decide (f.1<=(aa.doubts n)[i].1) <;> cases (aa.doubts n)[i].1 != f.1 <;> simp only[BI,Bp,B3,CE,Cn,Cj,cond_true,cond_false,BN]
 ·intro rec r d R z;simp only[Q31.s0,aR];cases d with
  |true=>simp only[BI,cond_false,cond_true,BN]
  |false =>
   have:=z rfl;have y:decide ((r.length+[mkD n.2.2.2.2.2.1 f b].length)*48<=an)=true:=szb _ _ _ (by omega) (by simp;omega);show (bif decide ((r.length+[mkD n.2.2.2.2.2.1 f b].length)*48<=an) then some ((r++[mkD n.2.2.2.2.2.1 f b],()),()) else none)=some ((r++[mkD n.2.2.2.2.2.1 f b],()),());rw[y];rfl
theorem zH (K:Nat)(t:List bN)(r:Int)(ht:t.length<=1048576)(H:Asc (λd:bN=>d.1) t)(h7:∀ d∈t,InP d.1 0 7)(X:InP r 0 7)(hK:1048577<K) :
  ∃ m,m<=t.length/\(∀ i,(h:i<t.length)->i<m->t[i].1<r)/\(∀ i,(h:i<t.length)->m<=i->r<=t[i].1)/\∃ b,Q110.f K (t,r,(λJ=>(Q111.f K (J.1,J.2.1,())).map λy=>y.1.1),())=some ((((m:Nat):Int),b,()),()):=by
 let ks:Nat->Int:=λi=>if h:i<t.length then t[i].1 else 0
 have u:∀ i (h:i<t.length),ks i=t[i].1:=λi h=>by simp[ks,h]
 let I:Nat->Option ((Int×Bool×Unit)×Unit):=λm=>some ((((m:Nat):Int),decide (∃ h:m<t.length,t[m].1=r),()),())
 have R:∀ d∈t,((Q111.f K (d,r,())).map λy=>y.1.1)=some (d.1-r):=λd hd=>by
  obtain⟨a1,a2⟩:=h7 d hd;obtain⟨a3,a4⟩:=X;simp only[Q111.f];rw[aJ (by omega) (by omega)];rfl
 have:=pw (step:=λrec a=>Q110.s0 K (t,r,(λJ=>(Q111.f K (J.1,J.2.1,())).map λy=>y.1.1),()) rec a) (ks:=ks) (n:=t.length) (t:=r) I ht
  (λi j M Y=>by
   rw[u i (by omega),u j Y];exact cC.1 H i j (by omega) Y M) ?_ ?_ t.length K 0 t.length (by omega) (BX _) (BR _) (by omega) (λi z=>by omega) (λi z X=>by omega)
 ·obtain⟨m,h1,h2,Z,h4⟩:=this;exact⟨m,h1,λi h z=>by rw[<- u i h];exact h2 i z,λi h z=>by rw[<- u i h];exact Z i z h,_,h4⟩
 ·intro rec a b a0 hb;have O:(a+b) / 2<t.length:=by omega
  simp only[Q110.s0];rw[decide_eq_true (by omega:(a:Int)<(b:Int)),nF (by omega)];simp only[cond_true];rw[af O];simp only[BA,R _ (BC O)];rw[u _ O,ar _ (by omega)];by_cases h:t[(a+b) / 2].1<r
  ·rw[if_pos h,decide_eq_true (by omega:t[(a+b) / 2].1-r<0)];rfl
  ·rw[if_neg h,decide_eq_false (by omega:¬ t[(a+b) / 2].1-r<0)];rfl
 ·intro rec a ha;simp only[Q110.s0];rw[decide_eq_false (by omega)];simp only[cond_false];by_cases h:a<t.length
  ·rw[decide_eq_true (by omega:(a:Int)<(BB t:Int)),af h];simp only[cond_true,BA,R _ (BC h)];have:(t[a].1-r==0)=decide (∃ h:a<t.length,t[a].1=r):=by
    rw[CG];simp only[beq_iff_eq,decide_eq_true_eq];exact⟨λe=>⟨h,by omega⟩,λ⟨_,e⟩=>by omega⟩
   rw[this]
  ·rw[decide_eq_false (by omega:¬ (a:Int)<(BB t:Int))];simp only[cond_false,I];rw[decide_eq_false (λ⟨h',_⟩=>h h')]
def fU (n:aa)(t:List ag)(c:List aL)(ds:List bN):aa :=
 (n.1,n.2.1,n.2.2.1,n.2.2.2.1,n.2.2.2.2.1,n.2.2.2.2.2.1,n.2.2.2.2.2.2.1,n.2.2.2.2.2.2.2.1,t,c,n.2.2.2.2.2.2.2.2.2.2.1,ds,n.2.2.2.2.2.2.2.2.2.2.2.2)
def jS (n:aa)(f:ag):Bool:=decide (∃ g∈aa.table n,g.1=f.1/\g.2.1=f.2.1/\g.2.2.1=f.2.2.1)
def sayOf (n:aa)(f:ag)(b:Int):aa :=
 bif (bR (aa.table n) f).2 then fU n (bR (aa.table n) f).1 (dq (aa.cast n) f) (bif jS n f then aa.doubts n else cN n.2.2.2.2.2.1 (aa.doubts n) f b) else n
structure cr (n:aa):Prop where
 table:aA (aa.table n)
 cast:cQ (aa.cast n)
 asc:Asc (λd:bN=>d.1) (aa.doubts n)
 inp:∀ d∈aa.doubts n,InP d.1 0 7
 lt:(aa.table n).length<=1048576
 lc:(aa.cast n).length<=1048576
 ld:(aa.doubts n).length<=1048576
theorem sG {n:aa}{f g:ag}(u:Asc (λg:ag=>g.1) (aa.table n))(r:g∈aa.table n)(e:g.1=f.1):jS n f=(g.2.1==f.2.1&&g.2.2.1==f.2.2.1):=by
 rw[CG,jS,decide_eq_true_eq,B8,beq_iff_eq,beq_iff_eq];constructor
 ·rintro⟨x,hx,h1,h2,h3⟩;have:=ig u hx r (by rw[h1,e]);subst this;exact⟨h2,h3⟩
 ·rintro⟨h1,h2⟩;exact⟨g,r,e,h1,h2⟩
theorem sH {n:aa}{f:ag}(h:∀ g∈aa.table n,g.1≠f.1):jS n f=false :=
 decide_eq_false λ⟨g,r,e,_⟩=>h g r e
theorem pF (K:Nat)(n:aa)(f:ag)(b:Int)(h:cr n)(r:1048577<K):Q184.f K (n,f,b,())=some ((sayOf n f b,()),()):=by
 simp only[Q184.f,zcp8];rw[show Q29.f K (n.2.2.2.2.2.2.2.2.1,f,())=_ from put_s K (aa.table n) f h.lt h.table.2 r];simp only[BA];cases z:(bR (aa.table n) f).2 with
 |false =>
  simp only[sayOf,z];rfl
 |true =>
  simp only[sayOf,z,BI,cond_false,cond_true];obtain⟨o,M,J⟩:=fh K (aa.table n) f.1 h.lt r;rw[show Q16.f K (n.2.2.2.2.2.2.2.2.1,f.1,())=_ from J];simp only[BA];have y:=zG K (n.1,n.2.1,n.2.2.1,n.2.2.2.1,n.2.2.2.2.1,n.2.2.2.2.2.1,n.2.2.2.2.2.2.1,n.2.2.2.2.2.2.2.1,(bR (aa.table n) f).1,dq (aa.cast n) f,n.2.2.2.2.2.2.2.2.2.2) f b h.ld h.asc r;have H:=zF K (aa.cast n) f h.lc h.cast.2 r;cases M with
  |at_ i I e =>
   simp only;rw[sG h.table.2 (BC I) e,decide_eq_true (by omega:((i:Nat):Int)>=0)];simp only[cond_true];rw[show idx n.2.2.2.2.2.2.2.2.1 (i:Int)=some (aa.table n)[i] from af I];simp only[BA];rw[show Q30.f K (n.2.2.2.2.2.2.2.2.2.1,f,())=_ from H];simp only[BA];rw[y];cases (aa.table n)[i].2.1==f.2.1 with
   |true =>
    cases (aa.table n)[i].2.2.1==f.2.2.1 <;> rfl
   |false=>rfl
  |no u =>
   simp only;rw[sH u,decide_eq_false (by omega:¬ (-1:Int)>=0)];simp only[cond_false];rw[show Q30.f K (n.2.2.2.2.2.2.2.2.2.1,f,())=_ from H];simp only[BA];rw[y];rfl
theorem lW {α:Type}{k:α->Int}{xs:List α}(h:Asc k xs)(p:α->Bool):Asc k (xs.filter p):=CM p h
theorem zI {R:Type}(K:Nat)(r:Int)(ds:List bN)(f:ag)(b:Int)(G:List bN->Option R)(O:ds.length<=1048576)(Y:Asc (λd:bN=>d.1) ds)(h7:∀ d∈ds,InP d.1 0 7)(hf:bk f)(hK:1048577<K) :
  ((Q4.f K (ds,(λI=>(Q109.f K (I.1,f,())).map λy=>y.1.1),())).bind λJ=>bif f.2.2.1==2 then ((Q110.f K (J.1.1,f.1,(λM=>(Q111.f K (M.1,M.2.1,())).map λy=>y.1.1),())).bind λy7=>(Q5.f K (J.1.1,y7.1.1,[mkD r f b],())).bind λy8=>G y8.1.1) else G J.1.1)=G (cN r ds f b):=by
 rw[show Q4.f K (ds,(λI=>(Q109.f K (I.1,f,())).map λy=>y.1.1),())=some ((ds.filter (λd=>!(d.1==f.1)),()),()) by
  simp only[Q4.f];exact qW _ O (λd _=>rfl)]
 simp only[BA,cN];by_cases z:f.2.2.1=2
 ·rw[if_pos z,show (f.2.2.1==2)=true by simpa using z];simp only[cond_true];have u:(ds.filter (λd=>!(d.1==f.1))).length<=1048576:=Br (B9 _ _) O;obtain⟨m,X,lo,hi,b',e⟩:=zH K (ds.filter (λd=>!(d.1==f.1))) f.1 u (lW Y _) (λd hd=>h7 d (BH.1 hd).1) hf.1 hK;rw[e];simp only[BA];rw[show Q5.f K (ds.filter (λd=>!(d.1==f.1)),(m:Int),[mkD r f b],())=some (((ds.filter (λd=>!(d.1==f.1))).take m++[mkD r f b]++(ds.filter (λd=>!(d.1==f.1))).drop m,()),()) by
   simp only[Q5.f];exact ju X (by omega) u]
  simp only[BA];have:=gp (k:=λd:bN=>d.1) (x:=mkD r f b) X lo (λi h H=>by
   have h1:=hi i h H;have Z:(!((ds.filter (λd=>!(d.1==f.1)))[i].1==f.1))=true:=(BH.1 (BC h)).2;have h4:(ds.filter (λd=>!(d.1==f.1)))[i].1≠f.1:=by simpa using Z
   show f.1<_;omega)
  rw[this];exact congrArg G (tZ (k:=λd:bN=>d.1) (x:=mkD r f b))
 ·rw[if_neg z,show (f.2.2.1==2)=false by simpa using z];rfl
theorem zj (K:Nat)(n:aa)(f:ag)(b:Int)(h:cr n)(y:bk f)(u:1048577<K):Q112.f K (n,f,b,())=some ((),(sayOf n f b,())):=by
 simp only[Q112.f,zcp8];have R:∃ g:ag,∃ I,Q74.f K (aa.table n,f.1,())=some ((g,I,()),())/\jS n f=(g.2.2.1==f.2.2.1&&g.2.1==f.2.1):=by
  rcases js K (aa.table n) f.1 h.lt u with ⟨r,_⟩|⟨_,⟨g,X,e,r⟩|⟨J,r⟩⟩
  ·exact absurd h.table r
  ·exact⟨g,_,r,by rw[sG h.table.2 X e,Bool.and_comm]⟩
  ·refine⟨_,_,r,?_⟩;rw[sH J,show ((0:Int)==f.2.2.1)=false by have:=y.2.2.1;simp;omega];rfl
 obtain⟨g,I,r,M⟩:=R;rw[show Q74.f K (n.2.2.2.2.2.2.2.2.1,f.1,())=_ from r];simp only[BA];rw[show Q105.f K (n.2.2.2.2.2.2.2.2.1,f,())=_ from vu K (aa.table n) f h.lt h.table.2 u];simp only[BA];cases H:(bR (aa.table n) f).2 with
 |false =>
  simp only[sayOf,H];rfl
 |true =>
  simp only[sayOf,H,BI,cond_false,cond_true];rw[show Q107.f K (n.2.2.2.2.2.2.2.2.2.1,f,())=_ from wR K (aa.cast n) f h.lc h.cast y u];simp only[BA];have z:=zI K n.2.2.2.2.2.1 (aa.doubts n) f b (λO=>some ((),(fU n (bR (aa.table n) f).1 (dq (aa.cast n) f) O,()))) h.ld h.asc h.inp y u;rw[M];cases g.2.2.1==f.2.2.1 with
  |true =>
   cases g.2.1==f.2.1 with
   |true=>rfl
   |false=>exact z
  |false=>exact z
theorem iM {α:Type}{k:α->Int}{xs:List α}(h:Asc k xs)(u:∀ x∈xs,InP (k x) 0 7):xs.length<=8:=by
 have:=(i8 (xs.map k) [0,1,2,3,4,5,6,7] (by unfold Asc at h;rw[Bs];exact h) (by decide) (λy z=>by
  obtain⟨x,r,rfl⟩:=BZ.1 z;obtain⟨H,I⟩:=u x r;simp only[B6,Cb,or_false];omega)).1
 rw[BU]at this;exact this
theorem gT (t:List ag)(f:ag):(bR t f).1=t\/(bR t f).1=bu (λg=>g.1) f t:=by
 unfold bR;split
 ·split
  ·exact .inr rfl
  ·exact .inl rfl
 ·exact .inr rfl
theorem ki {t:List ag}{f:ag}(h:aA t)(u:bk f):aA (bR t f).1:=by
 rcases gT t f with e|e
 ·rw[e];exact h
 ·rw[e];refine⟨λg y=>?_,eZ h.2⟩;rcases aY.1 y with rfl|⟨r,_⟩
  ·exact u
  ·exact h.1 g r
theorem pG {l:List aL}{f:ag}(h:cQ l)(u:bk f):cQ (dq l f):=by
 unfold dq;split
 ·exact h
 ·refine⟨λx y=>?_,eZ h.2⟩;rcases aY.1 y with rfl|⟨r,_⟩
  ·exact⟨u,show (1:Int)<=4 by omega,show (4:Int)<=4 by omega⟩
  ·exact h.1 x r
theorem kj {r:Int}{ds:List bN}{f:ag}{b:Int}{d:bN}(h:d∈cN r ds f b):d=mkD r f b\/d∈ds:=by
 unfold cN at h;split at h
 ·rcases aY.1 h with h|h
  ·exact .inl h
  ·exact .inr h.1
 ·exact .inr (BH.1 h).1
theorem sI {r:Int}{ds:List bN}{f:ag}{b:Int}(h:Asc (λd:bN=>d.1) ds):Asc (λd:bN=>d.1) (cN r ds f b):=by
 unfold cN;split
 ·exact eZ h
 ·exact lW h _
theorem iD (n:aa)(f:ag)(b:Int):∃ t c r,sayOf n f b=fU n t c r/\(t=aa.table n\/t=(bR (aa.table n) f).1)/\(c=aa.cast n\/c=dq (aa.cast n) f)/\(r=aa.doubts n\/r=cN n.2.2.2.2.2.1 (aa.doubts n) f b):=by
 unfold sayOf;cases (bR (aa.table n) f).2 with
 |false=>exact⟨aa.table n,aa.cast n,aa.doubts n,rfl,.inl rfl,.inl rfl,.inl rfl⟩
 |true =>
  cases jS n f with
  |true=>exact⟨_,_,_,rfl,.inr rfl,.inr rfl,.inl rfl⟩
  |false=>exact⟨_,_,_,rfl,.inr rfl,.inr rfl,.inr rfl⟩
theorem cr.mk' {n:aa}(u:aA (aa.table n))(r:cQ (aa.cast n))(y:Asc (λd:bN=>d.1) (aa.doubts n))(z:∀ d∈aa.doubts n,InP d.1 0 7):cr n where
 table:=u
 cast:=r
 asc:=y
 inp:=z
 lt:=Br (iM u.2 (λg H=>(u.1 g H).1)) (by decide)
 lc:=Br (iM r.2 (λx I=>(r.1 x I).1.1)) (by decide)
 ld:=Br (iM y z) (by decide)
theorem ik {n:aa}{f:ag}{b:Int}(h:cr n)(r:bk f):cr (sayOf n f b):=by
 obtain⟨t,c,z,e,H,I,y⟩:=iD n f b;rw[e];refine cr.mk' ?_ ?_ ?_ ?_
 ·show aA t;rcases H with rfl|rfl
  ·exact h.table
  ·exact ki h.table r
 ·show cQ c;rcases I with rfl|rfl
  ·exact h.cast
  ·exact pG h.cast r
 ·show Asc _ z;rcases y with rfl|rfl
  ·exact h.asc
  ·exact sI h.asc
 ·show ∀ d∈z,InP d.1 0 7;rcases y with rfl|rfl
  ·exact h.inp
  ·intro d u;rcases kj u with rfl|u
   ·exact r.1
   ·exact h.inp d u
theorem yj {n:aa}{f:ag}{b:Int}(h:∀ d∈aa.doubts n,d.2.2.2.length<=1048576):∀ d∈aa.doubts (sayOf n f b),d.2.2.2.length<=1048576:=by
 obtain⟨t,c,y,e,_,_,u⟩:=iD n f b;rw[e];show ∀ d∈y,_;rcases u with rfl|rfl
 ·exact h
 ·intro d r;rcases kj r with rfl|r
  ·exact Nat.succ_le_of_lt (by decide)
  ·exact h d r
theorem UpP.say {n:aa}(h:UpP n):cr n:=by
 obtain⟨r,_,_,⟨z,_⟩,_,u,_⟩:=h;refine cr.mk' r z u.2.1 λd H=>?_
 obtain⟨f,y,e,_⟩:=(u.1 d H).1;rw[<- e];exact (r.1 f y).1
theorem qp {α β A R:Type}(t:List α)(p:α->Bool)(g:α->β)(S:List β->Nat->A)(u:List β->Option R){step:(A->Option R)->A->Option R}
  (h:∀ (rec:A->Option R) (r:List β) (i:Nat) (M:i<t.length),r.length<=i->step rec (S r i)=rec (S (bif p t[i] then r++[g t[i]] else r) (i+1)))
  (y:∀ (rec:A->Option R) (r:List β),r.length<=t.length->step rec (S r t.length)=u r) {k:Nat} (J:t.length<k) :
  ae step k (S [] 0)=u ((t.filter p).map g):=by
 have:∀ (d i k:Nat) (r:List β),i+d=t.length->d<k->r.length<=i->ae step k (S r i)=u (r++((t.drop i).filter p).map g):=by
  intro d;induction d with
  |zero =>
   intro i k r M J I;obtain⟨k,rfl⟩:∃ H,k=H+1:=⟨k-1,by omega⟩;have:i=t.length:=by omega
   subst this;show step (ae step k) _=_;rw[y _ _ I];simp
  |succ d O =>
   intro i k r M J I;obtain⟨k,rfl⟩:∃ H,k=H+1:=⟨k-1,by omega⟩;have z:i<t.length:=by omega
   show step (ae step k) _=_;rw[h _ _ _ z I,BL z,BV];cases p t[i] with
   |true =>
    simp only[cond_true,if_true,Ci];rw[O (i+1) k _ (by omega) (by omega) (by simp;omega),B5];rfl
   |false =>
    simp only[cond_false];rw[O (i+1) k _ (by omega) (by omega) (by omega)];rfl
 have:=this t.length 0 k [] (by omega) J (BR _)
 rwa [Bo,BO]at this
def sJ:aa:=(0,false,false,false,0,0,0,0,[],[],(0,0,0,false),[],(0,0,0,0),[],[])
theorem ua:NB sJ where
 table:=BX _
 cast:=BX _
 doubts:=BX _
 by_:=λd r=>absurd r Cb
 places:=BX _
 trips:=λd r=>absurd r Cb
 others:=BX _
 facts:=λd r=>absurd r Cb
theorem szw (a b c:Nat)(r:c<=128)(h:a+b<=2097152):decide ((a+b)*c<=an)=true:=by
 have:=CU h r;exact decide_eq_true (by unfold an;omega)
def kz (n:aa):aa:=(n.1,n.2.1,true,n.2.2.2)
def nK (r:Int)(n:aa)(to:Int):aj:=(1,r,n.1,to,0,n.1,aa.coord n,aa.table n)
theorem zJ (K:Nat)(n:aa)(r to:Int)(u:(aa.table n).length<=1048576):Q142.f K (n,r,to,())=some ((nK r n to,()),()):=by
 simp only[Q142.f,zcp4,Q121.f,BA,Q0.f];rw[dY (by show (aa.table n).length*_<=_;omega)];rfl
theorem nL (K:Nat)(n:aa)(r to:Int)(u:(aa.table n).length<=1048576):Q41.f K (n,r,to,0,n.1,aa.table n,())=some ((nK r n to,()),()):=by
 simp only[Q41.f];rw[szb _ _ _ (by omega) (by show (BB ([]:List ag))+(aa.table n).length<=_;simp;omega)];rfl
def ez (f:ag):Bool:=f.2.2.1==1||f.2.2.1==2
theorem uH (K:Nat)(t:List ag)(f:ag)(J:aA t)(I:t.length<=1048576)(r:f∈t)(z:1048577<K):Q187.f K (t,f.1,())=rb (ez f):=by
 simp only[Q187.f];obtain⟨o,H,y⟩:=fh K t f.1 I z;rw[y];simp only[BA];cases H with
 |at_ i u e =>
  simp only;rw[decide_eq_true (by omega:((i:Nat):Int)>=0),af u];simp only[cond_true,BA];rw[ig J.2 (BC u) r e,ez];cases f.2.2.1==1 <;> rfl
 |no h=>exact absurd rfl (h f r)
def sK (n:aa)(f:ag):Bool:=f.1 != n.1&&ez f
def lu (n:aa):List aj:=((aa.table n).filter (sK n)).map λf=>nK 5 n f.1
def mL (n:aa):aa:=kz (sayOf n (n.1,n.2.2.2.2.1,4,n.2.2.2.1) n.1)
theorem sL (K:Nat)(x:ab Q200.ps)(m:aa)(J:aA (aa.table m))(y:(aa.table m).length<=1048576)(z:1048577<K) :
  Q200.l0 K x ([],0,m.1,m.2.1,m.2.2.2.1,m.2.2.2.2.1,m.2.2.2.2.2.1,m.2.2.2.2.2.2.1,m.2.2.2.2.2.2.2.1,m.2.2.2.2.2.2.2.2.1,m.2.2.2.2.2.2.2.2.2.1,m.2.2.2.2.2.2.2.2.2.2.1.1,m.2.2.2.2.2.2.2.2.2.2.1.2.1,m.2.2.2.2.2.2.2.2.2.2.1.2.2.1,m.2.2.2.2.2.2.2.2.2.2.1.2.2.2,m.2.2.2.2.2.2.2.2.2.2.2.1,m.2.2.2.2.2.2.2.2.2.2.2.2.1.1,m.2.2.2.2.2.2.2.2.2.2.2.2.1.2.1,m.2.2.2.2.2.2.2.2.2.2.2.2.1.2.2.1,m.2.2.2.2.2.2.2.2.2.2.2.2.1.2.2.2,m.2.2.2.2.2.2.2.2.2.2.2.2.2.1,m.2.2.2.2.2.2.2.2.2.2.2.2.2.2)=some ((kz m,lu (kz m),()),()):=by
 refine qp (step:=λrec a=>Q200.s0 K x rec a) (aa.table m) (sK (kz m)) (λf=>nK 5 (kz m) f.1) (λr i=>(r,(i:Int),m.1,m.2.1,m.2.2.2.1,m.2.2.2.2.1,m.2.2.2.2.2.1,m.2.2.2.2.2.2.1,m.2.2.2.2.2.2.2.1,m.2.2.2.2.2.2.2.2.1,m.2.2.2.2.2.2.2.2.2.1,m.2.2.2.2.2.2.2.2.2.2.1.1,m.2.2.2.2.2.2.2.2.2.2.1.2.1,m.2.2.2.2.2.2.2.2.2.2.1.2.2.1,m.2.2.2.2.2.2.2.2.2.2.1.2.2.2,m.2.2.2.2.2.2.2.2.2.2.2.1,m.2.2.2.2.2.2.2.2.2.2.2.2.1.1,m.2.2.2.2.2.2.2.2.2.2.2.2.1.2.1,m.2.2.2.2.2.2.2.2.2.2.2.2.1.2.2.1,m.2.2.2.2.2.2.2.2.2.2.2.2.1.2.2.2,m.2.2.2.2.2.2.2.2.2.2.2.2.2.1,m.2.2.2.2.2.2.2.2.2.2.2.2.2.2)) (λI=>some ((kz m,I,()),())) ?_ ?_ (by omega)
 ·intro rec r i u H;simp only[Q200.s0,zceae5f];rw[show decide ((i:Int)<(BB m.2.2.2.2.2.2.2.2.1:Int))=true from bm (by omega:(i:Int)<(BB (aa.table m):Int)),show idx m.2.2.2.2.2.2.2.2.1 (i:Int)=some (aa.table m)[i] from af u,ar i (by omega)];simp only[cond_true,BA,sK];rw[show (kz m).1=m.1 from rfl];cases M:(aa.table m)[i].1 != m.1 with
  |false=>rfl
  |true =>
   simp only[cond_true,B3];rw[show Q187.f K (m.2.2.2.2.2.2.2.2.1,(aa.table m)[i].1,())=_ from uH K (aa.table m) _ J y (BC u) z];simp only[BA];cases ez (aa.table m)[i] with
   |false=>rfl
   |true =>
    simp only[cond_true];refine (congrArg (λo=>BS o _) (nL K (kz m) 5 (aa.table m)[i].1 y)).trans ?_;simp only[BA];rw[szw _ _ _ (by omega) (by simp;omega)];rfl
 ·intro rec r H;simp only[Q200.s0,zceae5f];rw[show decide ((BB (aa.table m):Int)<(BB m.2.2.2.2.2.2.2.2.1:Int))=false from aR _];rfl
theorem vv {n:aa}(r:fE n):bk (n.1,n.2.2.2.2.1,4,n.2.2.2.1):=⟨r.1,r.2.2.2.2.1,show (1:Int)<=4 by omega,show (4:Int)<=4 by omega⟩
theorem zK (K:Nat)(n:aa)(J:NB n)(y:fE n)(u:n.2.1=true)(I:n.2.2.1=false)(H:1048577<K):Q200.f K (n,())=some ((mL n,lu (mL n),()),()):=by
 have z:=(y.up u).say;have r:=ik (b:=n.1) z (vv y);simp only[Q200.f,Q200.pre];rw[u,I];simp only[BI,cond_false];rw[pF K n _ n.1 z H];exact sL K _ _ r.table r.lt H
theorem kA {α r A R:Type}(ds:List α)(st:r->α->r)(Inv:r->Prop)(S:r->Nat->A)(u:r->Option R){step:(A->Option R)->A->Option R}(n:r)(O:Inv n)
  (h:∀ (rec:A->Option R) (m:r) (i:Nat) (M:i<ds.length),Inv m->step rec (S m i)=rec (S (st m ds[i]) (i+1))/\Inv (st m ds[i]))
  (y:∀ (rec:A->Option R) (m:r),Inv m->step rec (S m ds.length)=u m) {k:Nat} (J:ds.length<k):ae step k (S n 0)=u (ds.foldl st n):=by
 have:∀ (d i k:Nat) (m:r),i+d=ds.length->d<k->Inv m->ae step k (S m i)=u ((ds.drop i).foldl st m):=by
  intro d;induction d with
  |zero =>
   intro i k m M J I;obtain⟨k,rfl⟩:∃ H,k=H+1:=⟨k-1,by omega⟩;have:i=ds.length:=by omega
   subst this;show step (ae step k) _=_;rw[y _ _ I,Ca];rfl
  |succ d Y =>
   intro i k m M J I;obtain⟨k,rfl⟩:∃ H,k=H+1:=⟨k-1,by omega⟩;have z:i<ds.length:=by omega
   show step (ae step k) _=_;obtain⟨Z,X⟩:=h (ae step k) m i z I;rw[Z,BL z];exact Y (i+1) k _ (by omega) (by omega) X
 have:=this ds.length 0 k n (by omega) J O
 rwa [Bo]at this
theorem lX {α r:Type}{st:r->α->r}{Inv:r->Prop}:∀ {ds:List α} {n:r},Inv n->(∀ m,∀ d∈ds,Inv m->Inv (st m d))->Inv (ds.foldl st n)
 |[],_,h,_=>h
 |d::ds,n,h,y=>lX (ds:=ds) (y n d (by simp) h) (λm z u=>y m z (by simp[u]))
def aP (t:List ag)(r:Int):ag:=(t.find? λg=>g.1==r).getD (0,0,0,false)
theorem jv {t:List ag}(r:Asc (λg:ag=>g.1) t){f:ag}(u:f∈t):aP t f.1=f:=by
 obtain⟨i,y,e⟩:=BJ u;unfold aP;rw[show t.find? (λg=>g.1==f.1)=some t[i] from oT r y (by rw[e]),e];rfl
theorem jx {t:List ag}{r:Int}(h:∀ g∈t,g.1≠r):aP t r=(0,0,0,false):=by
 unfold aP;rw[show t.find? (λg=>g.1==r)=none from nJ h];rfl
theorem mM (K:Nat)(t:List ag)(r:Int)(y:aA t)(J:t.length<=1048576)(z:1048577<K):∃ b,Q74.f K (t,r,())=some ((aP t r,b,()),()):=by
 rcases js K t r J z with ⟨u,_⟩|⟨_,⟨g,H,e,u⟩|⟨I,u⟩⟩
 ·exact absurd y u
 ·refine⟨true,?_⟩;rw[u,<- e,jv y.2 H]
 ·refine⟨false,?_⟩;rw[u,jx I]
theorem sM (K:Nat)(t:List ag)(r:Int)(I:aA t)(z:t.length<=1048576)(H:1048577<K):Q187.f K (t,r,())=rb (ez (aP t r)):=by
 by_cases h:∃ f∈t,f.1=r
 ·obtain⟨f,y,rfl⟩:=h;rw[uH K t f I z y H,jv I.2 y]
 ·have u:∀ g∈t,g.1≠r:=λg R e=>h ⟨g,R,e⟩
  simp only[Q187.f];obtain⟨o,M,O⟩:=fh K t r z H;rw[O,jx u];cases M with
  |at_ i J e=>exact absurd e (u _ (BC J))
  |no _=>rfl
theorem iN (n:aa)(f:ag)(b:Int):(sayOf n f b).1=n.1/\(sayOf n f b).2.1=n.2.1/\(sayOf n f b).2.2.1=n.2.2.1/\(sayOf n f b).2.2.2.1=n.2.2.2.1/\(sayOf n f b).2.2.2.2.1=n.2.2.2.2.1/\(sayOf n f b).2.2.2.2.2.1=n.2.2.2.2.2.1/\(sayOf n f b).2.2.2.2.2.2.1=n.2.2.2.2.2.2.1/\(sayOf n f b).2.2.2.2.2.2.2.1=n.2.2.2.2.2.2.2.1/\aa.probe (sayOf n f b)=aa.probe n/\(sayOf n f b).2.2.2.2.2.2.2.2.2.2.2.2=n.2.2.2.2.2.2.2.2.2.2.2.2:=by
 obtain⟨t,c,r,e,_⟩:=iD n f b;rw[e];exact⟨rfl,rfl,rfl,rfl,rfl,rfl,rfl,rfl,rfl,rfl⟩
theorem mN {t:List ag}{f g:ag}(r:g∈t):∃ u∈(bR t f).1,u.1=g.1:=by
 rcases gT t f with e|e
 ·rw[e];exact⟨g,r,rfl⟩
 ·rw[e];by_cases h:g.1=f.1
  ·exact⟨f,aY.2 (.inl rfl),h.symm⟩
  ·exact⟨g,aY.2 (.inr ⟨r,h⟩),rfl⟩
theorem jy {n:aa}{f:ag}{b:Int}{g:ag}(r:g∈aa.table n):∃ y∈aa.table (sayOf n f b),y.1=g.1:=by
 obtain⟨t,c,z,e,u,_⟩:=iD n f b;rw[e];rcases u with rfl|rfl
 ·exact⟨g,r,rfl⟩
 ·exact mN r
def qq (u r:Int)(len:Nat):Bool:=decide (u-r>=if 6-(len:Int)+1<3 then 3 else 6-(len:Int)+1)
def kD (f:ag):ag:=(f.1,f.2.1,3,f.2.2.2)
def il (n:aa)(d:bN):aa:=bif qq n.2.2.2.2.2.1 d.2.2.1 d.2.2.2.length then sayOf n (kD (aP (aa.table n) d.1)) n.1 else n
def kk (n:aa):aa:=(aa.doubts n).foldl il n
theorem due_s (K:Nat)(r:Int)(d:bN)(H:0<=d.2.2.1)(u:d.2.2.1<=r)(z:r<=1000000)(y:d.2.2.2.length<=1048576):Q185.f K (r,d,())=rb (qq r d.2.2.1 d.2.2.2.length):=by
 simp only[Q185.f];rw[aJ (n:=6-(BB d.2.2.2:Int)) (by omega) (by omega),aJ (n:=6-(BB d.2.2.2:Int)+1) (by omega) (by omega),aJ (n:=r-d.2.2.1) (by omega) (by omega)];unfold qq;by_cases h:6-(BB d.2.2.2:Int)+1<3
 ·rw[decide_eq_true h,if_pos h];rfl
 ·rw[decide_eq_false h,if_neg h];rfl
structure pH (ds:List bN) (now:Int) (n:aa):Prop where
 ok:cr n
 key:∀ d∈ds,∃ f∈aa.table n,f.1=d.1
 now_:n.2.2.2.2.2.1=now
theorem uI {f:ag}(h:bk f):bk (kD f):=⟨h.1,h.2.1,show (1:Int)<=3 by omega,show (3:Int)<=4 by omega⟩
theorem ek {t:List ag}{r:Int}(y:aA t)(h:∃ f∈t,f.1=r):bk (aP t r)/\(aP t r).1=r/\aP t r∈t:=by
 obtain⟨f,u,rfl⟩:=h;rw[jv y.2 u];exact⟨y.1 f u,rfl,u⟩
theorem ub {ds:List bN}{r:Int}{n:aa}{d:bN}(h:pH ds r n)(O:d∈ds):pH ds r (il n d):=by
 unfold il;cases qq n.2.2.2.2.2.1 d.2.2.1 d.2.2.2.length with
 |false=>exact h
 |true =>
  have H:=uI (ek h.ok.table (h.key d O)).1;refine⟨ik h.ok H,λJ y=>?_,(iN n _ _).2.2.2.2.2.1.trans h.now_⟩;obtain⟨g,I,e⟩:=h.key J y;obtain⟨M,u,z⟩:=jy (f:=kD (aP (aa.table n) d.1)) (b:=n.1) I;exact⟨M,u,z.trans e⟩
theorem AB (K:Nat)(n:aa)(h:pH (aa.doubts n) n.2.2.2.2.2.1 n)(X:∀ d∈aa.doubts n,0<=d.2.2.1/\d.2.2.1<=n.2.2.2.2.2.1/\d.2.2.2.length<=1048576)(z:n.2.2.2.2.2.1<=1000000)(I:1048577<K):Q186.f K (n,())=some ((kk n,()),()):=by
 have hl:=h.ok.ld;refine kA (step:=λrec a=>Q186.s0 K (n,()) rec a) (aa.doubts n) il (pH (aa.doubts n) n.2.2.2.2.2.1) (λm i=>((i:Int),m.1,m.2.1,m.2.2.1,m.2.2.2.1,m.2.2.2.2.1,m.2.2.2.2.2.1,m.2.2.2.2.2.2.1,m.2.2.2.2.2.2.2.1,m.2.2.2.2.2.2.2.2.1,m.2.2.2.2.2.2.2.2.2.1,m.2.2.2.2.2.2.2.2.2.2.1.1,m.2.2.2.2.2.2.2.2.2.2.1.2.1,m.2.2.2.2.2.2.2.2.2.2.1.2.2.1,m.2.2.2.2.2.2.2.2.2.2.1.2.2.2,m.2.2.2.2.2.2.2.2.2.2.2.1,m.2.2.2.2.2.2.2.2.2.2.2.2.1.1,m.2.2.2.2.2.2.2.2.2.2.2.2.1.2.1,m.2.2.2.2.2.2.2.2.2.2.2.2.1.2.2.1,m.2.2.2.2.2.2.2.2.2.2.2.2.1.2.2.2,m.2.2.2.2.2.2.2.2.2.2.2.2.2.1,m.2.2.2.2.2.2.2.2.2.2.2.2.2.2)) (λm=>some ((m,()),())) n h ?_ ?_ (by omega)
 ·intro rec m i H u;refine⟨?_,ub u (BC H)⟩;simp only[Q186.s0,zc286a0,zc3ec45];obtain⟨O,M,J⟩:=X _ (BC H);rw[show decide ((i:Int)<(BB n.2.2.2.2.2.2.2.2.2.2.2.1:Int))=true from bm (by omega:(i:Int)<(BB (aa.doubts n):Int)),show idx n.2.2.2.2.2.2.2.2.2.2.2.1 (i:Int)=some (aa.doubts n)[i] from af H,ar i (by omega)];simp only[cond_true,BA];rw[due_s K m.2.2.2.2.2.1 (aa.doubts n)[i] O (by rw[u.now_];exact M) (by rw[u.now_];exact z) J];simp only[BA];have r:=u.key _ (BC H);generalize (aa.doubts n)[i]=d at r O M J ⊢;unfold il;cases qq m.2.2.2.2.2.1 d.2.2.1 d.2.2.2.length with
  |false=>rfl
  |true =>
   simp only[cond_true];have y:=ek u.ok.table r;obtain⟨o,Z,h1⟩:=fh K (aa.table m) d.1 u.ok.lt I;rw[show Q16.f K (m.2.2.2.2.2.2.2.2.1,d.1,())=_ from h1];simp only[BA];cases Z with
   |no h=>exact absurd r (λ⟨f,Y,e⟩=>h f Y e)
   |at_ j R e =>
    simp only;rw[show idx m.2.2.2.2.2.2.2.2.1 ((j:Nat):Int)=some (aa.table m)[j] from af R,ig u.ok.table.2 (BC R) y.2.2 (by rw[e,y.2.1])];simp only[BA];refine (congrArg (λo=>BS o _) (pF K m (kD (aP (aa.table m) d.1)) m.1 u.ok I)).trans ?_;rfl
 ·intro rec m u;simp only[Q186.s0,zc286a0,zc3ec45];rw[show decide ((BB (aa.doubts n):Int)<(BB n.2.2.2.2.2.2.2.2.2.2.2.1:Int))=false from aR _];rfl
def setP (n:aa)(p:ag):aa:=(n.1,n.2.1,n.2.2.1,n.2.2.2.1,n.2.2.2.2.1,n.2.2.2.2.2.1,n.2.2.2.2.2.2.1,n.2.2.2.2.2.2.2.1,n.2.2.2.2.2.2.2.2.1,n.2.2.2.2.2.2.2.2.2.1,p,n.2.2.2.2.2.2.2.2.2.2.2)
def noP:ag:=(-1,0,0,false)
def pI (f:ag):ag:=(f.1,f.2.1,2,f.2.2.2)
def vw (n:aa)(f:ag):Bool:=f.2.2.1==1&&f.1 != n.1&&f.1 != (aa.probe n).1
def fy (n:aa):List Int:=(((aa.table n).filter (vw n)).map (·.1)).take 2
def askW (n:aa)(to:Int):aj:=(1,3,n.1,to,(aa.probe n).2.2.1,(aa.probe n).1,aa.coord n,[])
def lv (n:aa):aa:=setP n ((aa.probe n).1,(aa.probe n).2.1,(aa.probe n).2.2.1,true)
def dk (n:aa):aa×List aj :=
 bif (aa.probe n).1==-1 then (n,[]) else
 bif !ez (aP (aa.table n) (aa.probe n).1) then (setP n noP,[]) else
 bif decide (n.2.2.2.2.2.1-(aa.probe n).2.1>=4) then (bif (aP (aa.table n) (aa.probe n).1).2.2.1==1 then sayOf (setP n noP) (pI (aP (aa.table n) (aa.probe n).1)) n.1 else setP n noP,[]) else
 bif decide (n.2.2.2.2.2.1-(aa.probe n).2.1>=2) then (bif !(aa.probe n).2.2.2 then (lv n,(fy n).map (askW n)) else (n,[])) else (n,[])
theorem cr.setP {n:aa}(h:cr n)(p:ag):cr (setP n p):=⟨h.table,h.cast,h.asc,h.inp,h.lt,h.lc,h.ld⟩
theorem zL {f:ag}(h:bk f):bk (pI f):=⟨h.1,h.2.1,show (1:Int)<=2 by omega,show (2:Int)<=4 by omega⟩
theorem gU {t:List ag}{r:Int}(h:ez (aP t r)=true):∃ f∈t,f.1=r:=by
 by_cases u:∃ f∈t,f.1=r
 ·exact u
 ·rw[jx (λg y e=>u ⟨g,y,e⟩)]at h;simp[ez]at h
theorem wS (K:Nat)(n:aa)(I:(aa.table n).length<=1048576)(J:1048577<K):Q188.f K (n,())=some ((fy n,()),()):=by
 have:=kR (step:=λrec a=>Q188.s0 K (n,()) rec a) (aa.table n) (vw n) (λf=>f.1) 2 (λy=>some ((y,()),())) ?_ ?_ ?_ (aa.table n).length 0 K [] (by omega) (by omega) (BR _) (by simp)
 ·exact this
 ·intro rec r i u z H;simp only[Q188.s0];rw[show decide ((i:Int)<(BB n.2.2.2.2.2.2.2.2.1:Int))=true from bm (by omega:(i:Int)<(BB (aa.table n):Int)),show idx n.2.2.2.2.2.2.2.2.1 (i:Int)=some (aa.table n)[i] from af u,ar i (by omega),decide_eq_true (by omega:(BB r:Int)<2)];simp only[cond_true,BA,vw];show (bif (aa.table n)[i].1 != n.1 then (bif (aa.table n)[i].1 != (aa.probe n).1 then (bif (aa.table n)[i].2.2.1==1 then (bif decide ((BB r+BB ([(aa.table n)[i].1]))*8<=an) then (rec (r++([(aa.table n)[i].1]),((i+1:Nat):Int))) else none) else (rec (r,((i+1:Nat):Int)))) else (rec (r,((i+1:Nat):Int)))) else (rec (r,((i+1:Nat):Int))))=_;rw[szb _ _ _ (by omega) (by simp;omega)];cases (aa.table n)[i].1 != n.1 <;> cases (aa.table n)[i].1 != (aa.probe n).1 <;> cases (aa.table n)[i].2.2.1==1 <;> rfl
 ·intro rec r i u z H;simp only[Q188.s0];rw[show decide ((i:Int)<(BB n.2.2.2.2.2.2.2.2.1:Int))=true from bm (by omega:(i:Int)<(BB (aa.table n):Int)),decide_eq_false (by omega:¬ (BB r:Int)<2)];rfl
 ·intro rec r _;simp only[Q188.s0];rw[show decide ((BB (aa.table n):Int)<(BB n.2.2.2.2.2.2.2.2.1:Int))=false from aR _];rfl
theorem AC (K:Nat)(n:aa)(h:cr n)(hp:(aa.probe n).1≠-1)(h0:0<=(aa.probe n).2.1)(h1:(aa.probe n).2.1<=1000000)(X:0<=n.2.2.2.2.2.1)(Z:n.2.2.2.2.2.1<=1000000)(y:1048577<K) :
  Q189.f K (n,())=some (((dk n).1,(dk n).2,()),()):=by
 simp only[Q189.f,Q189.pre,zcp8,dk];rw[show ((aa.probe n).1==-1)=false by simpa using hp];simp only[cond_false];rw[show Q187.f K (n.2.2.2.2.2.2.2.2.1,n.2.2.2.2.2.2.2.2.2.2.1.1,())=_ from sM K (aa.table n) (aa.probe n).1 h.table h.lt y];simp only[BA];cases I:ez (aP (aa.table n) (aa.probe n).1) with
 |false=>rfl
 |true =>
  have u:=ek h.table (gU I);simp only[BI,cond_false];rw[aJ (n:=n.2.2.2.2.2.1-n.2.2.2.2.2.2.2.2.2.2.1.2.1) (by show -9223372036854775808<=n.2.2.2.2.2.1-(aa.probe n).2.1;omega) (by show n.2.2.2.2.2.1-(aa.probe n).2.1<=9223372036854775807;omega)];show (bif decide (n.2.2.2.2.2.1-(aa.probe n).2.1>=4) then _ else _)=_;cases decide (n.2.2.2.2.2.1-(aa.probe n).2.1>=4) with
  |true =>
   simp only[cond_true];obtain⟨o,ho,R⟩:=fh K (aa.table n) (aa.probe n).1 h.lt y;rw[show Q16.f K (n.2.2.2.2.2.2.2.2.1,n.2.2.2.2.2.2.2.2.2.2.1.1,())=_ from R];simp only[BA];cases ho with
   |no z=>exact absurd (gU I) (λ⟨f,u,e⟩=>z f u e)
   |at_ j O e =>
    simp only;rw[show idx n.2.2.2.2.2.2.2.2.1 ((j:Nat):Int)=some (aa.table n)[j] from af O,ig h.table.2 (BC O) u.2.2 (by rw[e,u.2.1])];simp only[BA];cases (aP (aa.table n) (aa.probe n).1).2.2.1==1 with
    |true =>
     simp only[cond_true];refine (congrArg (λo=>BS o _) (pF K (setP n noP) (pI (aP (aa.table n) (aa.probe n).1)) n.1 (h.setP noP) y)).trans ?_;rfl
    |false=>rfl
  |false =>
   simp only[cond_false];show (bif decide (n.2.2.2.2.2.1-(aa.probe n).2.1>=2) then _ else _)=_;cases decide (n.2.2.2.2.2.1-(aa.probe n).2.1>=2) with
   |false=>rfl
   |true =>
    simp only[cond_true];show (bif !(aa.probe n).2.2.2 then _ else _)=_;cases J:(aa.probe n).2.2.2 with
    |true=>rfl
    |false =>
     simp only[Bp,cond_true];refine (congrArg (λo=>BS o _) (wS K (lv n) h.lt y)).trans ?_;simp only[BA];rw[show fy (lv n)=fy n from rfl];have M:(fy n).length<=2:=CR _ _;refine Ck (qp (step:=λrec a=>Q189.s0 K (n,()) rec a) (fy n) (λ_=>true) (askW n) (λr i=>(r,fy n,(i:Int))) (λY=>some ((lv n,Y,()),())) ?_ ?_ (by omega)) (by rw[BT.2 (λ_ _=>rfl)])
     ·intro rec r i H ha;simp only[Q189.s0,zcp8];rw[bm (by omega:(i:Int)<(BB (fy n):Int)),af H,ar i (by omega),BE,af H];simp only[cond_true,BA,Q41.f];rw[szb _ _ _ (by omega) (by simp)];simp only[cond_true,BA];rw[szw _ _ _ (by omega) (by simp;omega)];rfl
     ·intro rec r ha;simp only[Q189.s0,zcp8,aR];rfl
def gq (n:aa)(i:Int):aa:=(n.1,n.2.1,n.2.2.1,n.2.2.2.1,i,n.2.2.2.2.2)
def eA (n:aa)(f:ag):aa:=bif decide (bI f (aP (aa.table n) n.1))&&decide (f.2.1<999) then sayOf (gq n (f.2.1+1)) (n.1,f.2.1+1,1,n.2.2.2.1) n.1 else n
def dK (f:ag)(b:Int)(d:bN):bN:=bif d.1==f.1&&d.2.1==f.2.1&&f.2.2.1==2 then (d.1,d.2.1,d.2.2.1,bu (λx:Int=>x) b d.2.2.2) else d
def jz (n:aa)(f:ag)(b:Int):aa:=fU n (aa.table n) (aa.cast n) ((aa.doubts n).map (dK f b))
def du (b:Int)(n:aa)(f:ag):aa:=bif f.1==n.1 then eA n f else jz (sayOf n f b) f b
def dQ (n:aa)(t:List ag)(b:Int):aa:=t.foldl (du b) n
def kT (l:List Int):Prop:=Asc (λx:Int=>x) l/\∀ x∈l,InP x 0 7
theorem kT.len {l:List Int}(h:kT l):l.length<=8:=iM h.1 h.2
theorem kT.put {l:List Int}{b:Int}(h:kT l)(u:InP b 0 7):kT (bu (λx:Int=>x) b l) :=
 ⟨eZ h.1,λx r=>by
  rcases aY.1 r with rfl|⟨r,_⟩
  ·exact u
  ·exact h.2 x r⟩
structure dr (n:aa):Prop where
 say:cr n
 me:InP n.1 0 7
 has:∃ g∈aa.table n,g.1=n.1
 by_:∀ d∈aa.doubts n,kT d.2.2.2
theorem cr.inc {n:aa}(h:cr n)(i:Int):cr (gq n i):=⟨h.table,h.cast,h.asc,h.inp,h.lt,h.lc,h.ld⟩
theorem jT {n:aa}{f:ag}{b:Int}(H:InP b 0 7)(h:∀ d∈aa.doubts n,kT d.2.2.2):∀ d∈aa.doubts (sayOf n f b),kT d.2.2.2:=by
 obtain⟨t,c,y,e,_,_,u⟩:=iD n f b;rw[e];intro d r;have r:d∈y:=r;rcases u with rfl|rfl
 ·exact h d r
 ·rcases kj r with rfl|r
  ·exact⟨Cl _ _,λx z=>by rw[Bt.1 z];exact H⟩
  ·exact h d r
theorem qr {n:aa}{f:ag}(r:InP n.1 0 7)(u:bk f)(h:f.2.1<999):bk (n.1,f.2.1+1,1,n.2.2.2.1):=by
 obtain⟨_,⟨y,z⟩,_⟩:=u;exact⟨r,⟨show (0:Int)<=f.2.1+1 by omega,show f.2.1+1<=999 by omega⟩,show (1:Int)<=1 by omega,show (1:Int)<=4 by omega⟩
theorem dr.refute {n:aa}{f:ag}(h:dr n)(H:bk f):dr (eA n f):=by
 unfold eA;cases z:decide (bI f (aP (aa.table n) n.1))&&decide (f.2.1<999) with
 |false=>exact h
 |true =>
  have M:f.2.1<999:=by
   rw[B8]at z;exact of_decide_eq_true z.2
  obtain⟨u,_⟩:=iN (gq n (f.2.1+1)) (n.1,f.2.1+1,1,n.2.2.2.1) n.1;refine⟨ik (h.say.inc _) (qr h.me H M),?_,?_,jT h.me h.by_⟩
  ·show InP (sayOf (gq n (f.2.1+1)) (n.1,f.2.1+1,1,n.2.2.2.1) n.1).1 0 7;rw[u];exact h.me
  ·obtain⟨g,J,e⟩:=h.has;obtain⟨y,r,I⟩:=jy (n:=gq n (f.2.1+1)) (f:=(n.1,f.2.1+1,1,n.2.2.2.1)) (b:=n.1) (g:=g) J;refine⟨y,r,?_⟩;show y.1=(sayOf (gq n (f.2.1+1)) (n.1,f.2.1+1,1,n.2.2.2.1) n.1).1;rw[u,I,e];rfl
theorem dr.confirm {n:aa}{f:ag}{b:Int}(h:dr n)(X:bk f)(O:InP b 0 7):dr (jz (sayOf n f b) f b):=by
 have u:=ik (b:=b) h.say X;obtain⟨M,_⟩:=iN n f b;have z:=jT (f:=f) O h.by_;obtain⟨g,Z,e⟩:=h.has;obtain⟨R,I,Y⟩:=jy (n:=n) (f:=f) (b:=b) Z;have J:∀ d,(dK f b d).1=d.1:=λd=>by unfold dK;cases d.1==f.1&&d.2.1==f.2.1&&f.2.2.1==2 <;> rfl
 refine⟨⟨u.table,u.cast,?_,λd H=>?_,u.lt,u.lc,?_⟩,?_,⟨R,I,?_⟩,λd H=>?_⟩
 ·show Asc (λd:bN=>d.1) ((aa.doubts (sayOf n f b)).map (dK f b));unfold Asc;rw[Bs];exact u.asc.imp λ {a c} h=>by show (dK f b a).1<(dK f b c).1;rw[J,J];exact h
 ·obtain⟨y,r,rfl⟩:=BZ.1 H;rw[J];exact u.inp y r
 ·show ((aa.doubts (sayOf n f b)).map (dK f b)).length<=_;rw[BU];exact u.ld
 ·show InP (sayOf n f b).1 0 7;rw[M];exact h.me
 ·show R.1=(sayOf n f b).1;rw[M,Y,e]
 ·obtain⟨y,r,rfl⟩:=BZ.1 H;unfold dK;cases y.1==f.1&&y.2.1==f.2.1&&f.2.2.1==2 with
  |false=>exact z y r
  |true=>exact (z y r).put O
theorem dr.step {n:aa}{f:ag}{b:Int}(h:dr n)(r:bk f)(u:InP b 0 7):dr (du b n f):=by
 unfold du;cases f.1==n.1 with
 |true=>exact h.refute r
 |false=>exact h.confirm r u
theorem sN {α A R:Type}(ds:List α)(g:α->α)(S:List α->Nat->A)(u:List α->Option R){step:(A->Option R)->A->Option R}
  (h:∀ (rec:A->Option R) (cur:List α) (i:Nat) (O:i<ds.length),cur.length=ds.length->cur[i]?=some ds[i]->step rec (S cur i)=rec (S (cur.set i (g ds[i])) (i+1)))
  (y:∀ (rec:A->Option R) (cur:List α),cur.length=ds.length->step rec (S cur ds.length)=u cur) {k:Nat} (M:ds.length<k):ae step k (S ds 0)=u (ds.map g):=by
 have:∀ (d i k:Nat) (cur:List α),i+d=ds.length->d<k->cur.length=ds.length->(∀ j,(r:j<ds.length)->cur[j]?=some (if j<i then g ds[j] else ds[j]))->ae step k (S cur i)=u (ds.map g):=by
  intro d;induction d with
  |zero =>
   intro i k cur O M H I;obtain⟨k,rfl⟩:∃ J,k=J+1:=⟨k-1,by omega⟩;have:i=ds.length:=by omega
   subst this;show step (ae step k) _=_;rw[y _ _ H];congr 1;refine List.ext_getElem? λj=>?_
   rw[List.getElem?_map];by_cases r:j<ds.length
   ·rw[I j r,if_pos r,BK r];rfl
   ·rw[CI (by omega),CI (by omega)];rfl
  |succ d Y =>
   intro i k cur O M H I;obtain⟨k,rfl⟩:∃ J,k=J+1:=⟨k-1,by omega⟩;have z:i<ds.length:=by omega
   show step (ae step k) _=_;rw[h (ae step k) cur i z H (by rw[I i z,if_neg (by omega)])];refine Y (i+1) k _ (by omega) (by omega) (by rw[Cq,H]) λj r=>?_
   rw[List.getElem?_set];by_cases e:i=j
   ·subst e;rw[if_pos rfl,if_pos (by omega),if_pos (by omega)]
   ·rw[if_neg e,I j r];by_cases X:j<i
    ·rw[if_pos X,if_pos (by omega)]
    ·rw[if_neg X,if_neg (by omega)]
 exact this ds.length 0 k ds (by omega) M rfl (λj r=>by rw[if_neg (by omega),BK r])
theorem lY {α:Type}{cur:List α}{i:Nat}{x:α}(h:cur[i]?=some x):cur.set i x=cur:=by
 obtain⟨r,e⟩:=List.getElem?_eq_some_iff.1 h;rw[<- e,List.set_getElem_self]
theorem sO {by_:List Int}{b:Int}{m:Nat}(r:m<=by_.length)(u:by_.length<=8){R:Type}(G:List Int->Option R) :
  (bif decide ((0:Int)<=0)&&decide ((0:Int)<=(m:Int))&&decide ((m:Int)<=(BB by_:Int))&&true then (bif decide ((BB ([]:List Int)+BB ((by_.take (BD (m:Int))).drop (BD 0)))*8<=an) then (bif decide ((BB ([]++((by_.take (BD (m:Int))).drop (BD 0)))+BB ([b]))*8<=an) then (bif decide ((0:Int)<=(m:Int))&&decide ((m:Int)<=(BB by_:Int))&&decide ((BB by_:Int)<=(BB by_:Int))&&true then (bif decide ((BB (([]++((by_.take (BD (m:Int))).drop (BD 0)))++([b]))+BB ((by_.take (BD (BB by_:Int))).drop (BD (m:Int))))*8<=an) then G ((([]++((by_.take (BD (m:Int))).drop (BD 0)))++([b]))++((by_.take (BD (BB by_:Int))).drop (BD (m:Int)))) else none) else none) else none) else none) else none)=G (by_.take m++[b]++by_.drop m):=by
 rw[decide_eq_true (by omega:(0:Int)<=0),decide_eq_true (by omega:(0:Int)<=(m:Int)),decide_eq_true (by omega:(m:Int)<=(BB by_:Int)),decide_eq_true (by omega:(BB by_:Int)<=(BB by_:Int))];simp only[BE,CL,Bo,BO,CF,CH,cond_true];have y:(by_.take m).length=m:=by rw[BW];omega
 have z:(by_.drop m).length=by_.length-m:=Bu;rw[szb _ _ _ (by omega) (by simp only[BM];omega),szb _ _ _ (by omega) (by simp only[BG,BM];omega),szb _ _ _ (by omega) (by simp only[BP,BG,BM];omega)];rfl
theorem wT (K:Nat)(n:aa)(f:ag)(b:Int)(hd:∀ d∈aa.doubts n,kT d.2.2.2)(hl:(aa.doubts n).length<=1048576)(hK:1048577<K):Q34.f K (n,f,b,())=some ((jz n f b,()),()):=by
 simp only[Q34.f,Q34.pre];refine sN (step:=λrec a=>Q34.s0 K (n,f,b,()) (Q34.l1 K (n,f,b,()) rec) rec a) (aa.doubts n) (dK f b) (λu i=>((i:Int),u)) (λu=>some ((fU n (aa.table n) (aa.cast n) u,()),())) ?_ ?_ (by omega)
 ·intro rec u i hi X I;have J:i<u.length:=by omega
  have a2:u[i]=(aa.doubts n)[i]:=by
   rw[BK J]at I;exact C9 I
  have R:=hd _ (BC hi);simp only[Q34.s0,zcp8];rw[bm (by omega:(i:Int)<(BB u:Int)),af J,ar i (by omega),BE,af J,a2];simp only[cond_true,BA];generalize ad:(aa.doubts n)[i]=d at R I ⊢;have y:rec (((i+1:Nat):Int),u)=rec (((i+1:Nat):Int),u.set i d):=by rw[lY I]
  unfold dK;by_cases h1:d.1=f.1
  case neg =>
   rw[show (d.1 != f.1)=true by simpa using h1,show (d.1==f.1)=false by simpa using h1];exact y
  by_cases h2:d.2.1=f.2.1
  case neg =>
   rw[show (d.1 != f.1)=false by simpa using h1,show (d.2.1 != f.2.1)=true by simpa using h2,show (d.2.1==f.2.1)=false by simpa using h2,Cs];exact y
  by_cases h3:f.2.2.1=2
  case neg =>
   rw[show (d.1 != f.1)=false by simpa using h1,show (d.2.1 != f.2.1)=false by simpa using h2,show (f.2.2.1 != 2)=true by simpa using h3,show (f.2.2.1==2)=false by simpa using h3,Cs];exact y
  rw[show (d.1 != f.1)=false by simpa using h1,show (d.2.1 != f.2.1)=false by simpa using h2,show (f.2.2.1 != 2)=false by simpa using h3,show (d.1==f.1)=true by simpa using h1,show (d.2.1==f.2.1)=true by simpa using h2,show (f.2.2.1==2)=true by simpa using h3];simp only[cond_false,CH,cond_true];have a0:=R.len;have a1:∀ m:Nat,m<=d.2.2.2.length->(∀ j,(M:j<d.2.2.2.length)->j<m->d.2.2.2[j]<b)->(∀ j,(M:j<d.2.2.2.length)->m<=j->b<d.2.2.2[j])->d.2.2.2.take m++[b]++d.2.2.2.drop m=bu (λx:Int=>x) b d.2.2.2:=λm Z lo hi=>gp (k:=λx:Int=>x) Z lo hi
  have:=cq (step:=λr a=>Q34.s1 K (n,f,b,()) rec r a) d.2.2.2.length (λj=>((i:Int),(j:Int),u,d.1,d.2.1,d.2.2.1,d.2.2.2)) (λj=>∃ h:j<d.2.2.2.length,¬ d.2.2.2[j]<b)
   (rec (((i+1:Nat):Int),u.set i (d.1,d.2.1,d.2.2.1,d.2.2.2.take d.2.2.2.length++[b]++d.2.2.2.drop d.2.2.2.length)))
   (λj=>if h:j<d.2.2.2.length then (if d.2.2.2[j]=b then rec (((i+1:Nat):Int),u) else rec (((i+1:Nat):Int),u.set i (d.1,d.2.1,d.2.2.1,d.2.2.2.take j++[b]++d.2.2.2.drop j))) else none) ?_ ?_ d.2.2.2.length K 0 (by omega) (by omega)
  ·rcases this with ⟨a3,he⟩|⟨j,_,M,⟨Y,a9⟩,a6,he⟩
   ·refine Ck he ?_;rw[a1 _ (BR _) (λj M _=>by
     by_cases O:d.2.2.2[j]<b
     ·exact O
     ·exact absurd ⟨M,O⟩ (a3 j (BX _) M)) (λj M Z=>by omega)]
   ·refine Ck he ?_;rw[dif_pos Y];have lo:∀ m,(Z:m<d.2.2.2.length)->m<j->d.2.2.2[m]<b:=λm Z a5=>by
     by_cases O:d.2.2.2[m]<b
     ·exact O
     ·exact absurd ⟨Z,O⟩ (a6 m (BX _) a5)
    by_cases H:d.2.2.2[j]=b
    ·rw[if_pos H,<- ii (k:=λx:Int=>x) R.1 Y H];rw[show d.2.2.2.set j b=d.2.2.2 from lY (by rw[BK Y,H])];exact y
    ·rw[if_neg H,a1 j (by omega) lo (λm Z a4=>by
      rcases Bz a4 with h4|rfl
      ·have:=cC.1 R.1 j m (by omega) Z h4;omega
      ·omega)]
  ·intro r j M;simp only[Q34.s1];rw[bm (by omega:(j:Int)<(BB d.2.2.2:Int)),af M,ar j (by omega)];simp only[cond_true,BA];by_cases O:d.2.2.2[j]<b
   ·left;refine⟨λ⟨_,h⟩=>h O,?_⟩;rw[decide_eq_true O];rfl
   ·right;refine⟨⟨M,O⟩,?_⟩;rw[decide_eq_false O,show ((j:Int)==(BB d.2.2.2:Int))=false by simp;omega,dif_pos M];simp only[cond_false];by_cases H:d.2.2.2[j]=b
    ·rw[if_pos H,show (d.2.2.2[j] != b)=false by simpa using H,ar i (by omega)];rfl
    ·rw[if_neg H,show (d.2.2.2[j] != b)=true by simpa using H];simp only[cond_true];refine (sO (m:=j) (b:=b) (Nat.le_of_lt M) a0 (λz=>(idx u (i:Int)).bind λ_=>(idx u (BD (i:Int):Nat)).bind λ_=>rec (wr .i64 ((i:Int)+1),u.set (BD (i:Int)) (d.1,(d.2.1,(d.2.2.1,z)))))).trans ?_;rw[BE,af J,ar i (by omega)];rfl
  ·intro r;simp only[Q34.s1];rw[aR];simp only[cond_false,beq_self_eq_true,cond_true];refine (sO (b:=b) (BR _) a0 (λz=>(idx u (i:Int)).bind λ_=>(idx u (BD (i:Int):Nat)).bind λ_=>rec (wr .i64 ((i:Int)+1),u.set (BD (i:Int)) (d.1,(d.2.1,(d.2.2.1,z)))))).trans ?_;rw[BE,af J,ar i (by omega)];rfl
 ·intro rec u X;simp only[Q34.s0,zcp8];rw[<- X,aR];rfl
theorem yk (K:Nat)(n:aa)(f:ag)(h:dr n)(I:bk f)(z:1048577<K):Q33.f K (n,f,())=some ((eA n f,()),()):=by
 simp only[Q33.f,zcp4];have r:=ek h.say.table h.has;obtain⟨o,J,M⟩:=fh K (aa.table n) n.1 h.say.lt z;rw[show Q16.f K (n.2.2.2.2.2.2.2.2.1,n.1,())=_ from M];simp only[BA];cases J with
 |no u=>exact absurd h.has (λ⟨g,O,e⟩=>u g O e)
 |at_ j H e =>
  simp only;rw[show idx n.2.2.2.2.2.2.2.2.1 ((j:Nat):Int)=some (aa.table n)[j] from af H,ig h.say.table.2 (BC H) r.2.2 (by rw[e,r.2.1])];simp only[BA];rw[pE];obtain⟨_,⟨X,R⟩,_⟩:=I;simp only[rb,BA,eA];cases decide (bI f (aP (aa.table n) n.1)) with
  |false=>rfl
  |true =>
   simp only[BI,cond_false,B3];by_cases y:f.2.1<999
   ·rw[decide_eq_false (by omega:¬ f.2.1>=999),decide_eq_true y,aJ (by omega) (by omega)];simp only[cond_false,cond_true];refine (congrArg (λo=>BS o _) (pF K (gq n (f.2.1+1)) (n.1,f.2.1+1,1,n.2.2.2.1) n.1 (h.say.inc _) z)).trans ?_;rfl
   ·rw[decide_eq_true (by omega:f.2.1>=999),decide_eq_false y];rfl
theorem uJ (K:Nat)(n:aa)(t:List ag)(b:Int)(h:dr n)(I:∀ f∈t,bk f)(J:t.length<=1048576)(z:InP b 0 7)(y:1048577<K):Q35.f K (n,t,b,())=some ((dQ n t b,()),()):=by
 refine kA (step:=λrec a=>Q35.s0 K (n,t,b,()) rec a) t (du b) dr (λm i=>((i:Int),m.1,m.2.1,m.2.2.1,m.2.2.2.1,m.2.2.2.2.1,m.2.2.2.2.2.1,m.2.2.2.2.2.2.1,m.2.2.2.2.2.2.2.1,m.2.2.2.2.2.2.2.2.1,m.2.2.2.2.2.2.2.2.2.1,m.2.2.2.2.2.2.2.2.2.2.1.1,m.2.2.2.2.2.2.2.2.2.2.1.2.1,m.2.2.2.2.2.2.2.2.2.2.1.2.2.1,m.2.2.2.2.2.2.2.2.2.2.1.2.2.2,m.2.2.2.2.2.2.2.2.2.2.2.1,m.2.2.2.2.2.2.2.2.2.2.2.2.1.1,m.2.2.2.2.2.2.2.2.2.2.2.2.1.2.1,m.2.2.2.2.2.2.2.2.2.2.2.2.1.2.2.1,m.2.2.2.2.2.2.2.2.2.2.2.2.1.2.2.2,m.2.2.2.2.2.2.2.2.2.2.2.2.2.1,m.2.2.2.2.2.2.2.2.2.2.2.2.2.2)) (λm=>some ((m,()),())) n h ?_ ?_ (by omega)
 ·intro rec m i H r;have u:=I _ (BC H);refine⟨?_,r.step u z⟩;simp only[Q35.s0,zc286a0,zc3ec45];rw[bm (by omega:(i:Int)<(BB t:Int)),af H,ar i (by omega)];simp only[cond_true,BA];generalize t[i]=f at u ⊢;unfold du;cases f.1==m.1 with
  |true =>
   simp only[cond_true];refine (congrArg (λo=>BS o _) (yk K m f r u y)).trans ?_;rfl
  |false =>
   simp only[cond_false];refine (congrArg (λo=>BS o _) (pF K m f b r.say y)).trans ?_;simp only[BA];rw[wT K (sayOf m f b) f b (jT z r.by_) (ik r.say u).ld y];rfl
 ·intro rec m r;simp only[Q35.s0,zc286a0,zc3ec45];rw[aR];rfl
theorem zM (K:Nat)(l:List Int)(v:Int)(R:l.length<=1048576)(J:Asc (λx:Int=>x) l)(hK:1048577<K) :
  ∃ m,m<=l.length/\(∀ i,(h:i<l.length)->i<m->l[i]<v)/\(∀ i,(h:i<l.length)->m<=i->v<=l[i])/\Q115.f K (l,v,())=some ((((m:Nat):Int),decide (∃ h:m<l.length,l[m]=v),()),()):=by
 let ks:Nat->Int:=λi=>if h:i<l.length then l[i] else 0
 have r:∀ i (h:i<l.length),ks i=l[i]:=λi h=>by simp[ks,h]
 let u:Nat->Option ((Int×Bool×Unit)×Unit):=λm=>some ((((m:Nat):Int),decide (∃ h:m<l.length,l[m]=v),()),())
 have:=pw (step:=λrec a=>Q115.s0 K (l,v,()) rec a) (ks:=ks) (n:=l.length) (t:=v) u R
  (λi j z I=>by
   rw[r i (by omega),r j I];exact cC.1 J i j (by omega) I z) ?_ ?_ l.length K 0 l.length (by omega) (BX _) (BR _) (by omega) (λi y=>by omega) (λi y hn=>by omega)
 ·obtain⟨m,Z,X,M,Y⟩:=this;exact⟨m,Z,λi h y=>by rw[<- r i h];exact X i y,λi h y=>by rw[<- r i h];exact M i y h,Y⟩
 ·intro rec a b O hb;have H:(a+b) / 2<l.length:=by omega
  simp only[Q115.s0];rw[decide_eq_true (by omega:(a:Int)<(b:Int)),nF (by omega)];simp only[cond_true];rw[af H];simp only[BA,Q113.f,Q70.f,bne_self_eq_false,cond_false];rw[r _ H,ar _ (by omega)];by_cases h:l[(a+b) / 2]<v
  ·rw[if_pos h,decide_eq_true h];rfl
  ·rw[if_neg h,decide_eq_false h];rfl
 ·intro rec a ha;simp only[Q115.s0];rw[decide_eq_false (by omega)];simp only[cond_false];by_cases h:a<l.length
  ·rw[decide_eq_true (by omega:(a:Int)<(BB l:Int)),af h];simp only[cond_true,BA,Q114.f,bne_self_eq_false,cond_false];by_cases e:l[a]=v
   ·rw[show (l[a]==v)=true by simpa using e];simp only[cond_true,u];rw[decide_eq_true ⟨h,e⟩]
   ·rw[show (l[a]==v)=false by simpa using e];simp only[cond_false,u];rw[decide_eq_false (λ⟨_,e'⟩=>e e')]
  ·rw[decide_eq_false (by omega:¬ (a:Int)<(BB l:Int))];simp only[cond_false,u];rw[decide_eq_false (λ⟨h',_⟩=>h h')]
abbrev flN {R:Type}(n:aa)(r:R):=(n.1,n.2.1,n.2.2.1,n.2.2.2.1,n.2.2.2.2.1,n.2.2.2.2.2.1,n.2.2.2.2.2.2.1,n.2.2.2.2.2.2.2.1,n.2.2.2.2.2.2.2.2.1,n.2.2.2.2.2.2.2.2.2.1,n.2.2.2.2.2.2.2.2.2.2.1.1,n.2.2.2.2.2.2.2.2.2.2.1.2.1,n.2.2.2.2.2.2.2.2.2.2.1.2.2.1,n.2.2.2.2.2.2.2.2.2.2.1.2.2.2,n.2.2.2.2.2.2.2.2.2.2.2.1,n.2.2.2.2.2.2.2.2.2.2.2.2.1.1,n.2.2.2.2.2.2.2.2.2.2.2.2.1.2.1,n.2.2.2.2.2.2.2.2.2.2.2.2.1.2.2.1,n.2.2.2.2.2.2.2.2.2.2.2.2.1.2.2.2,n.2.2.2.2.2.2.2.2.2.2.2.2.2.1,n.2.2.2.2.2.2.2.2.2.2.2.2.2.2,r)
abbrev flE (n:aa):=(n.1,n.2.1,n.2.2.1,n.2.2.2.1,n.2.2.2.2.1,n.2.2.2.2.2.1,n.2.2.2.2.2.2.1,n.2.2.2.2.2.2.2.1,n.2.2.2.2.2.2.2.2.1,n.2.2.2.2.2.2.2.2.2.1,n.2.2.2.2.2.2.2.2.2.2.1.1,n.2.2.2.2.2.2.2.2.2.2.1.2.1,n.2.2.2.2.2.2.2.2.2.2.1.2.2.1,n.2.2.2.2.2.2.2.2.2.2.1.2.2.2,n.2.2.2.2.2.2.2.2.2.2.2.1,n.2.2.2.2.2.2.2.2.2.2.2.2.1.1,n.2.2.2.2.2.2.2.2.2.2.2.2.1.2.1,n.2.2.2.2.2.2.2.2.2.2.2.2.1.2.2.1,n.2.2.2.2.2.2.2.2.2.2.2.2.1.2.2.2,n.2.2.2.2.2.2.2.2.2.2.2.2.2.1,n.2.2.2.2.2.2.2.2.2.2.2.2.2.2)
theorem wU (K:Nat)(n0:aa)(t:List ag)(n:aa)(f:ag)(b:Int)(i:Nat)(hi:i<=1048576)(hd:∀ d∈aa.doubts n,kT d.2.2.2)(hl:(aa.doubts n).length<=1048576)(hK:1048577<K)(H:Q116.A0->Option Q116.Res) :
  Q116.l1 K (n0,t,b,()) H ((i:Int),(BB (aa.doubts n):Int),0,flN n f)=H (((i+1:Nat):Int),flE (jz n f b)):=by
 refine sN (step:=λr a=>Q116.s1 K (n0,t,b,()) H r a) (aa.doubts n) (dK f b) (λu k=>((i:Int),(BB (aa.doubts n):Int),(k:Int),flN (fU n (aa.table n) (aa.cast n) u) f)) (λu=>H (((i+1:Nat):Int),flE (fU n (aa.table n) (aa.cast n) u))) ?_ ?_ (by omega)
 ·intro rec u k hk Z I;have X:k<u.length:=by omega
  have R:u[k]=(aa.doubts n)[k]:=by
   rw[BK X]at I;exact C9 I
  have J:=hd _ (BC hk);have z:idx u (k:Int)=some (aa.doubts n)[k]:=by rw[af X,R]
  simp only[Q116.s1,zcp4,zcp8];rw[bm (by omega:(k:Int)<(BB (aa.doubts n):Int)),ar k (by omega),BE];simp only[cond_true];refine (congrArg (λo=>BS o _) z).trans ?_;simp only[BA];generalize a2:(aa.doubts n)[k]=d at J I z ⊢;have y:rec ((i:Int),(BB (aa.doubts n):Int),((k+1:Nat):Int),flN (fU n (aa.table n) (aa.cast n) u) f)=rec ((i:Int),(BB (aa.doubts n):Int),((k+1:Nat):Int),flN (fU n (aa.table n) (aa.cast n) (u.set k d)) f):=by rw[lY I]
  unfold dK;by_cases h3:f.2.2.1=2
  case neg =>
   rw[show (f.2.2.1 != 2)=true by simpa using h3,show (f.2.2.1==2)=false by simpa using h3,Cs];exact y
  rw[show (f.2.2.1 != 2)=false by simpa using h3,show (f.2.2.1==2)=true by simpa using h3];simp only[cond_false,Cc];refine (congrArg (λo=>BS o _) z).trans ?_;simp only[BA];by_cases h1:d.1=f.1
  case neg =>
   rw[show (d.1 != f.1)=true by simpa using h1,show (d.1==f.1)=false by simpa using h1,CE];exact y
  rw[show (d.1 != f.1)=false by simpa using h1,show (d.1==f.1)=true by simpa using h1];simp only[cond_false,B3];refine (congrArg (λo=>BS o _) z).trans ?_;simp only[BA];by_cases h2:d.2.1=f.2.1
  case neg =>
   rw[show (d.2.1 != f.2.1)=true by simpa using h2,show (d.2.1==f.2.1)=false by simpa using h2];exact y
  rw[show (d.2.1 != f.2.1)=false by simpa using h2,show (d.2.1==f.2.1)=true by simpa using h2];simp only[cond_false,cond_true];refine (congrArg (λo=>BS o _) z).trans ?_;simp only[BA];have a1:=J.len;obtain⟨m,hm,lo,Y,hs⟩:=zM K d.2.2.2 b (by omega) J.1 hK;refine (congrArg (λo=>BS o _) hs).trans ?_;simp only[BA];by_cases hb:∃ h:m<d.2.2.2.length,d.2.2.2[m]=b
  ·rw[decide_eq_true hb];obtain⟨O,e⟩:=hb;rw[show bu (λx:Int=>x) b d.2.2.2=d.2.2.2 by rw[<- ii (k:=λx:Int=>x) J.1 O e];exact lY (by rw[BK O,e])];exact y
  ·rw[decide_eq_false hb];simp only[Bp,cond_true];refine (congrArg (λo=>BS o _) z).trans ?_;simp only[BA];refine (congrArg (λo=>BS o _) z).trans ?_;simp only[BA];have M:Q6.f K (d.2.2.2,(m:Int),[b],())=some ((d.2.2.2.take m++[b]++d.2.2.2.drop m,()),()):=ju hm (by decide) (by show d.2.2.2.length<=1048576;omega);refine (congrArg (λo=>BS o _) M).trans ?_;simp only[BA];refine (congrArg (λo=>BS o _) z).trans ?_;rw[<- gp (k:=λx:Int=>x) hm lo (λj hj a0=>by
    rcases Int.lt_or_eq_of_le (Y j hj a0) with h|h
    ·exact h
    ·exfalso;rcases Bz a0 with h4|rfl
     ·have:=cC.1 J.1 m j (by omega) hj h4;have h5:=Y m (by omega) (BR _);omega
     ·exact hb ⟨hj,h.symm⟩)]
   simp only[BA,Nat.beq_refl,cond_true];rfl
 ·intro rec u Z;simp only[Q116.s1,zcp4,zcp8];rw[aR,ar i (by omega)];rfl
theorem yl {R:Type}(K:Nat)(n:aa)(f:ag)(h:dr n)(u:bk f)(e:f.1=n.1)(y:1048577<K)(G:aa->Option R) :
  ((Q74.f K (aa.table n,n.1,())).bind λY=>(Q88.f K (f,Y.1.1,())).bind λz=>bif z.1.1 then (bif decide (f.2.1<999) then ((Q112.f K (gq n (wr .i64 (f.2.1+1)),(n.1,wr .i64 (f.2.1+1),1,n.2.2.2.1),n.1,())).bind λM=>G M.2.1) else G n) else G n)=G (eA n f):=by
 obtain⟨b',X⟩:=mM K (aa.table n) n.1 h.say.table h.say.lt y;rw[X];simp only[BA];obtain⟨H,O,p3⟩:=ek h.say.table h.has;obtain⟨c,J,I⟩:=pz K f (aP (aa.table n) n.1) y;rw[J];have Z:c=decide (bI f (aP (aa.table n) n.1)):=by
  rw[CG,I,decide_eq_true_eq];exact⟨λh=>h.2.2.2,λh=>⟨u,H,e.trans O.symm,h⟩⟩
 subst Z;obtain⟨_,⟨i0,i1⟩,_⟩:=id u;simp only[rb,BA,eA];cases decide (bI f (aP (aa.table n) n.1)) with
 |false=>rfl
 |true =>
  simp only[cond_true,B3];by_cases r:f.2.1<999
  ·rw[decide_eq_true r,aJ (by omega) (by omega)];simp only[cond_true];rw[zj K (gq n (f.2.1+1)) (n.1,f.2.1+1,1,n.2.2.2.1) n.1 (h.say.inc _) (qr h.me u r) y];rfl
  ·rw[decide_eq_false r];rfl
theorem uK (K:Nat)(n:aa)(t:List ag)(b:Int)(h:dr n)(J:∀ f∈t,bk f)(M:t.length<=1048576)(H:InP b 0 7)(y:1048577<K):Q116.f K (n,t,b,())=some ((),(dQ n t b,())):=by
 refine kA (step:=λrec a=>Q116.s0 K (n,t,b,()) (Q116.l1 K (n,t,b,()) rec) rec a) t (du b) dr (λm i=>((i:Int),flE m)) (λm=>some ((),(m,()))) n h ?_ ?_ (by omega)
 ·intro rec m i I r;have u:=J _ (BC I);refine⟨?_,r.step u H⟩;simp only[Q116.s0,zc286a0,zc3ec45,zcp4];rw[bm (by omega:(i:Int)<(BB t:Int)),af I,ar i (by omega)];simp only[cond_true,BA];generalize t[i]=f at u ⊢;unfold du;by_cases e:f.1=m.1
  ·rw[show (f.1==m.1)=true by simpa using e];simp only[cond_true];exact yl K m f r u e y (λz=>rec (((i+1:Nat):Int),flE z))
  ·rw[show (f.1==m.1)=false by simpa using e];simp only[cond_false];refine (congrArg (λo=>BS o _) (zj K m f b r.say u y)).trans ?_;simp only[BA];exact wU K n t (sayOf m f b) f b i (by omega) (jT H r.by_) (ik r.say u).ld y rec
 ·intro rec m r;simp only[Q116.s0,zc286a0,zc3ec45,zcp4];rw[aR];rfl
def dy {α:Type}(r:α->α->Bool)(x:α):List α->List α->List α
 |[],B=>x::B
 |y::A,B=>bif r x y then dy r x A (y::B) else (y::A).reverse++x::B
def cR {α:Type}(r:α->α->Bool):List α->List α->List α
 |done,[]=>done
 |done,x::u=>cR r (dy r x done.reverse []) u
theorem oU {α:Type}(r:α->α->Bool)(x:α):∀ (A B C:List α),dy r x A (B++C)=dy r x A B++C
 |[],B,C=>rfl
 |y::A,B,C=>by
  simp only[dy];cases r x y with
  |true=>exact oU r x A (y::B) C
  |false=>simp
theorem oV {α:Type}(r:α->α->Bool)(x:α):∀ (A B:List α),(dy r x A B).length=A.length+B.length+1
 |[],B=>by simp[dy]
 |y::A,B=>by
  simp only[dy];cases r x y with
  |true=>simp only[cond_true];rw[oV r x A (y::B)];simp;omega
  |false=>simp;omega
theorem mO {α:Type}(r:α->α->Bool)(x:α):∀ (A B:List α),(dy r x A B).Perm (x::(A.reverse++B))
 |[],B=>by simp[dy]
 |y::A,B=>by
  simp only[dy];cases r x y with
  |true=>exact (mO r x A (y::B)).trans (by simp)
  |false=>simp only[cond_false];exact C0
theorem lZ {α:Type}(r:α->α->Bool):∀ (xs done:List α),(cR r done xs).Perm (done++xs)
 |[],done=>by simp[cR]
 |x::xs,done=>by
  simp only[cR];refine (lZ r xs _).trans ?_;have:=mO r x done.reverse [];simp only[Bq,BN]at this;exact (this.append_right xs).trans (by simpa using (C0 (a:=x) (l₁:=done) (l₂:=xs)).symm)
def jF {α:Type}(r:α->α->Bool)(xs:List α):Prop:=xs.Pairwise λa b=>r b a=false
theorem kU {α:Type}(r:α->α->Bool)(I:∀ a b c,r a b=false->r b c=false->r a c=false)(x:α) :
  ∀ (A B:List α),jF r A.reverse->dy r x A B=(A.reverse.filter λy=>!r x y)++x::((A.reverse.filter λy=>r x y)++B)
 |[],B,_=>rfl
 |y::A,B,h=>by
  simp only[dy];have J:jF r A.reverse:=by
   unfold jF at h ⊢;rw[CD,CB]at h;exact h.1
  cases z:r x y with
  |true =>
   simp only[cond_true];rw[kU r I x A (y::B) J];simp[z,By]
  |false =>
   have H:∀ a∈A.reverse,r x a=false:=λa u=>by
    unfold jF at h;rw[CD,CB]at h;exact I x y a z (h.2.2 a u y (by simp))
   simp only[cond_false];have M:(y::A).reverse.filter (λy=>!r x y)=(y::A).reverse:=BT.2 λa u=>by
    rw[CD,Bx,Bt]at u;rcases u with u|rfl
    ·rw[H a u];rfl
    ·rw[z];rfl
   have O:(y::A).reverse.filter (λy=>r x y)=[]:=BY.2 λa u=>by
    rw[CD,Bx,Bt]at u;rcases u with u|rfl
    ·rw[H a u];simp
    ·rw[z];simp
   rw[M,O];rfl
theorem vz {α:Type}(r:α->α->Bool)(I:∀ a b c,r a b=false->r b c=false->r a c=false)(u:∀ a b,r a b=true->r b a=false)(x:α)(A:List α)(h:jF r A):jF r (dy r x A.reverse []):=by
 rw[kU r I x A.reverse [] (by rwa [Bq])];unfold jF at h ⊢;simp only[Bq,BN];rw[CB];refine⟨h.filter _,?_,?_⟩
 ·rw[BQ];refine⟨λa z=>?_,h.filter _⟩;exact u _ _ (by simpa using (BH.1 z).2)
 ·intro a z b y;have H:r x a=false:=by simpa using (BH.1 z).2
  rcases B6.1 y with rfl|y
  ·exact H
  ·have J:r x b=true:=by simpa using (BH.1 y).2
   exact I b x a (u _ _ J) H
theorem mP {α:Type}(r:α->α->Bool)(y:∀ a b c,r a b=false->r b c=false->r a c=false)(u:∀ a b,r a b=true->r b a=false):∀ (xs done:List α),jF r done->jF r (cR r done xs)
 |[],done,h=>h
 |x::xs,done,h=>mP r y u xs _ (vz r y u x done h)
theorem oa {α:Type}(M:α->α->Bool):∀ {H u:List α},H.Perm u->jF M H->u.Pairwise (λa b=>M a b=true)->H=u
 |H,[],r,_,_=>r.eq_nil
 |[],z::u,r,_,_=>absurd r.symm.eq_nil (by simp)
 |y::H,z::u,r,I,J=>by
  unfold jF at I;rw[BQ]at I J;have e:y=z:=by
   rcases B6.1 (r.mem_iff.1 (Cw ..)) with h|h
   ·exact h
   ·have R:=J.1 y h;rcases B6.1 (r.symm.mem_iff.1 (Cw ..)) with O|O
    ·exact O.symm
    ·rw[I.1 z O]at R;cases R
  subst e;rw[oa M r.cons_inv I.2 J.2]
abbrev SoR (α:Type):=Unit×(List α×Unit)
theorem vA {α R:Type}(z:α->α->Bool)(i:Int)(r:List α×Int->Option R){step:(List α×Int×Int->Option R)->List α×Int×Int->Option R}
  (h:∀ (rec:List α×Int×Int->Option R) (A:List α) (y x:α) (B:List α),A.length+B.length<=1048576->step rec (A++y::x::B,i,((A.length+1:Nat):Int))=bif z x y then rec (A++x::y::B,i,(A.length:Int)) else r (A++y::x::B,wr .i64 (i+1)))
  (O:∀ (rec:List α×Int×Int->Option R) (M:List α),step rec (M,i,0)=r (M,wr .i64 (i+1))) :
  ∀ (A B:List α) (x:α) (k:Nat),A.length+B.length<=1048576->A.length<k->ae step k (A.reverse++x::B,i,(A.length:Int))=r (dy z x A B,wr .i64 (i+1)):=by
 intro A;induction A with
 |nil =>
  intro B x k I H;obtain⟨k,rfl⟩:∃ u,k=u+1:=⟨k-1,by simp at H;omega⟩;exact O (ae step k) (x::B)
 |cons y A X =>
  intro B x k I H;simp only[BG]at H I;obtain⟨k,rfl⟩:∃ u,k=u+1:=⟨k-1,by omega⟩;have J:=h (ae step k) A.reverse y x B (by simp;omega);simp only[CS]at J;show step (ae step k) _=_;rw[CD,B5];simp only[BG,C3,BO,dy];rw[J];cases z x y with
  |true=>exact X (y::B) x k (by simp;omega) (by omega)
  |false=>simp
theorem uc {α:Type}(r:α->α->Bool){step:(List α×Int->Option (SoR α))->List α×Int->Option (SoR α)}(n:Nat)(O:n<=1048576)
  (h:∀ (rec:List α×Int->Option (SoR α)) (done:List α) (x:α) (xs:List α),done.length+1+xs.length=n->step rec (done++x::xs,(done.length:Int))=rec (dy r x done.reverse xs,wr .i64 ((done.length:Int)+1)))
  (J:∀ (rec:List α×Int->Option (SoR α)) (H:List α) (i:Int),(n:Int)<=i->step rec (H,i)=some ((),(H,()))) :
  ∀ (xs done:List α) (k:Nat),done.length+xs.length=n->xs.length<k->ae step k (done++xs,(done.length:Int))=some ((),(cR r done xs,())):=by
 intro xs;induction xs with
 |nil =>
  intro done k y I;obtain⟨k,rfl⟩:∃ u,k=u+1:=⟨k-1,by omega⟩;show step (ae step k) _=_;rw[J _ _ _ (by simp at y;omega)];simp[cR]
 |cons x xs M =>
  intro done k y I;simp only[BG]at I y;obtain⟨k,rfl⟩:∃ u,k=u+1:=⟨k-1,by omega⟩;show step (ae step k) _=_;rw[h _ _ _ _ (by omega),ar _ (by omega)];have e:dy r x done.reverse xs=dy r x done.reverse []++xs:=oU r x done.reverse [] xs;have z:(dy r x done.reverse []).length=done.length+1:=by rw[oV];simp
  rw[e,<- z];exact M _ k (by rw[z];omega) (by omega)
theorem ym {α:Type}(u:α->α->Bool){step:(List α×Int->Option (SoR α))->List α×Int->Option (SoR α)}(xs:List α)(J:xs.length<=1048576)
  (h:∀ (rec:List α×Int->Option (SoR α)) (done:List α) (x:α) (r:List α),done.length+1+r.length=xs.length->step rec (done++x::r,(done.length:Int))=rec (dy u x done.reverse r,wr .i64 ((done.length:Int)+1)))
  (H:∀ (rec:List α×Int->Option (SoR α)) (y:List α) (i:Int),(xs.length:Int)<=i->step rec (y,i)=some ((),(y,()))) {k:Nat} (z:xs.length<k) :
  ae step k (xs,1)=some ((),(cR u [] xs,())):=by
 cases xs with
 |nil =>
  obtain⟨k,rfl⟩:∃ I,k=I+1:=⟨k-1,by simp at z;omega⟩;exact H (ae step k) [] 1 (by simp)
 |cons x xs =>
  simp only[BG]at z;have:=uc u (xs.length+1) (by simpa using J) h H xs [x] k (by simp;omega) (by omega);exact this
theorem uL {α:Type}(A B:List α)(x:α):idx (A++x::B) (A.length:Int)=some x:=by
 rw[qm];simp
theorem sP {α:Type}(A B:List α)(y x:α):idx (A++y::x::B) ((A.length+1:Nat):Int)=some x:=by
 rw[qm];simp[List.getElem?_append_right]
theorem uM {α:Type}(A B:List α)(x v:α):(A++x::B).set A.length v=A++v::B:=by simp
theorem sQ {α:Type}(A B:List α)(y x v:α):(A++y::x::B).set (A.length+1) v=A++y::v::B:=by
 simp[Cr]
theorem ud {α R:Type}(P:α->Prop)(I:α->α->Bool)(i:Int)(r:List α×Int->Option R){step:(List α×Int×Int->Option R)->List α×Int×Int->Option R}
  (h:∀ (rec:List α×Int×Int->Option R) (A:List α) (y x:α) (B:List α),P y->P x->A.length+B.length<=1048576->step rec (A++y::x::B,i,((A.length+1:Nat):Int))=bif I x y then rec (A++x::y::B,i,(A.length:Int)) else r (A++y::x::B,wr .i64 (i+1)))
  (h0:∀ (rec:List α×Int×Int->Option R) (Y:List α),step rec (Y,i,0)=r (Y,wr .i64 (i+1))) :
  ∀ (A B:List α) (x:α) (k:Nat),(∀ y∈A,P y)->P x->A.length+B.length<=1048576->A.length<k->ae step k (A.reverse++x::B,i,(A.length:Int))=r (dy I x A B,wr .i64 (i+1)):=by
 intro A;induction A with
 |nil =>
  intro B x k u J O M;obtain⟨k,rfl⟩:∃ H,k=H+1:=⟨k-1,by simp at M;omega⟩;exact h0 (ae step k) (x::B)
 |cons y A ih =>
  intro B x k u J O M;simp only[BG]at M O;obtain⟨k,rfl⟩:∃ H,k=H+1:=⟨k-1,by omega⟩;have X:=h (ae step k) A.reverse y x B (u y (by simp)) J (by simp;omega);simp only[CS]at X;show step (ae step k) _=_;rw[CD,B5];simp only[BG,C3,BO,dy];rw[X];cases I x y with
  |true=>exact ih (y::B) x k (λz Z=>u z (by simp[Z])) J (by simp;omega) (by omega)
  |false=>simp
theorem sR {α:Type}(P:α->Prop)(r:α->α->Bool){step:(List α×Int->Option (SoR α))->List α×Int->Option (SoR α)}(n:Nat)(hn:n<=1048576)
  (h:∀ (rec:List α×Int->Option (SoR α)) (done:List α) (x:α) (xs:List α),(∀ y∈done,P y)->P x->done.length+1+xs.length=n->step rec (done++x::xs,(done.length:Int))=rec (dy r x done.reverse xs,wr .i64 ((done.length:Int)+1)))
  (Z:∀ (rec:List α×Int->Option (SoR α)) (X:List α) (i:Int),(n:Int)<=i->step rec (X,i)=some ((),(X,()))) :
  ∀ (xs done:List α) (k:Nat),(∀ y∈done,P y)->(∀ y∈xs,P y)->done.length+xs.length=n->xs.length<k->ae step k (done++xs,(done.length:Int))=some ((),(cR r done xs,())):=by
 intro xs;induction xs with
 |nil =>
  intro done k M u O Y;obtain⟨k,rfl⟩:∃ J,k=J+1:=⟨k-1,by omega⟩;show step (ae step k) _=_;rw[Z _ _ _ (by simp at O;omega)];simp[cR]
 |cons x xs ih =>
  intro done k M u O Y;simp only[BG]at Y O;obtain⟨k,rfl⟩:∃ J,k=J+1:=⟨k-1,by omega⟩;show step (ae step k) _=_;rw[h _ _ _ _ M (u x (by simp)) (by omega),ar _ (by omega)];have e:dy r x done.reverse xs=dy r x done.reverse []++xs:=oU r x done.reverse [] xs;have R:(dy r x done.reverse []).length=done.length+1:=by rw[oV];simp
  rw[e,<- R];refine ih _ k (λz I=>?_) (λz I=>u z (by simp[I])) (by rw[R];omega) (by omega);have H:=(mO r x done.reverse []).mem_iff.1 I;simp only[Bq,BN,B6]at H;rcases H with rfl|H
  ·exact u z (by simp)
  ·exact M z H
theorem wV {α:Type}(P:α->Prop)(z:α->α->Bool){step:(List α×Int->Option (SoR α))->List α×Int->Option (SoR α)}(xs:List α)(I:∀ y∈xs,P y)(R:xs.length<=1048576)
  (h:∀ (rec:List α×Int->Option (SoR α)) (done:List α) (x:α) (r:List α),(∀ y∈done,P y)->P x->done.length+1+r.length=xs.length->step rec (done++x::r,(done.length:Int))=rec (dy z x done.reverse r,wr .i64 ((done.length:Int)+1)))
  (H:∀ (rec:List α×Int->Option (SoR α)) (J:List α) (i:Int),(xs.length:Int)<=i->step rec (J,i)=some ((),(J,()))) {k:Nat} (M:xs.length<k) :
  ae step k (xs,1)=some ((),(cR z [] xs,())):=by
 cases xs with
 |nil =>
  obtain⟨k,rfl⟩:∃ O,k=O+1:=⟨k-1,by simp at M;omega⟩;exact H (ae step k) [] 1 (by simp)
 |cons x xs =>
  simp only[BG]at M;have:=sR P z (xs.length+1) (by simpa using R) h H xs [x] k (λy u=>I y (by simpa using .inl (by simpa using u))) (λy u=>I y (by simp[u])) (by simp;omega) (by omega);exact this
def ltZ (a b:Int):Bool:=decide (a<b)
theorem AD (K:Nat)(a b:Int):Q113.f K (a,b,())=some ((ltZ a b,()),()):=by
 simp only[Q113.f,Q70.f,ltZ];simp
theorem yn (K:Nat)(xs:List Int)(H:Int×Int×Unit->Option Int)(I:Int->Int->Bool)(P:Int->Prop)(Z:∀ y∈xs,P y)(hφ:∀ y z,P y->P z->∃ c,H (y,z,())=some c/\decide (c<0)=I y z)(hx:xs.length<=1048576)(hK:1048577<K) :
  Q123.f K (xs,0,(xs.length:Int),H,())=some ((),(cR I [] xs,())):=by
 refine wV P (step:=λrec a=>Q123.s0 K (xs,0,(xs.length:Int),H,()) (Q123.l1 K (xs,0,(xs.length:Int),H,()) rec) rec a) I xs Z hx ?_ ?_ (by omega)
 ·intro rec done x r M O hl;simp only[Q123.s0];rw[decide_eq_true (by omega:((done.length:Int))<(xs.length:Int))];simp only[cond_true];have:=ud P I (done.length:Int) rec (step:=λu a=>Q123.s1 K (xs,0,(xs.length:Int),H,()) rec u a) ?_ ?_ done.reverse r x K (λy J=>M y (by simpa using J)) O (by simp;omega) (by simp;omega)
  ·rw[Bq,CS]at this;exact this
  ·intro u A y z B J R Y;simp only[Q123.s1];have X:wr .i64 (((A.length+1:Nat):Int)-1)=(A.length:Int):=(aJ (by omega) (by omega)).trans (by omega);rw[decide_eq_true (by omega:((A.length+1:Nat):Int)>0)];obtain⟨c,hc,M⟩:=hφ z y R J;simp only[cond_true,X,BE,sP,uL,BA,hc,M,sQ,uM]
  ·intro u ys;simp only[Q123.s1];rw[decide_eq_false (by omega:¬ (0:Int)>0)];rfl
 ·intro rec ys i hi;simp only[Q123.s0];rw[decide_eq_false (by omega:¬ i<(xs.length:Int))];rfl
theorem yp (K:Nat)(xs:List Int)(u:Int×Int×Unit->Option Int)(H:Int->Int->Bool)(P:Int->Prop)(J:∀ y∈xs,P y)(hφ:∀ y z,P y->P z->∃ c,u (y,z,())=some c/\decide (c<0)=H y z)(R:xs.length<=19)(O:1048577<K) :
  Q125.f K (xs,u,())=some ((),(cR H [] xs,())):=by
 simp only[Q125.f];have:Q124.f K (xs,(xs.length:Int),u,())=some ((),(cR H [] xs,())):=by
  obtain⟨k,rfl⟩:∃ I,K=I+1:=⟨K-1,by omega⟩;show Q124.s0 _ _ _ _ _=_;simp only[Q124.s0];rw[decide_eq_false (by omega:¬ (20:Int)<=(xs.length:Int))];simp only[cond_false];rw[yn (k+1) xs u H P J hφ (by omega) O];simp only[BA];have M:∀ (r:Q124.A1->Option Q124.Res),Q124.s1 (k+1) (xs,(xs.length:Int),u,()) (Q124.l2 (k+1) (xs,(xs.length:Int),u,()) r) r (cR H [] xs,20)=some ((),(cR H [] xs,())):=by
   intro r;simp only[Q124.s1];rw[decide_eq_false (by omega:¬ (20:Int)<(xs.length:Int))];rfl
  exact M _
 rw[this];rfl
theorem yq (K:Nat)(xs:List Int)(J:xs.length<=1048576)(X:1048577<K) :
  Q129.f K (xs,0,(xs.length:Int),())=some ((),(cR ltZ [] xs,())):=by
 refine ym (step:=λrec a=>Q129.s0 K (xs,0,(xs.length:Int),()) (Q129.l1 K (xs,0,(xs.length:Int),()) rec) rec a) ltZ xs J ?_ ?_ (by omega)
 ·intro rec done x r R;simp only[Q129.s0];rw[decide_eq_true (by omega:((done.length:Int))<(xs.length:Int))];simp only[cond_true];have:=vA ltZ (done.length:Int) rec (step:=λu a=>Q129.s1 K (xs,0,(xs.length:Int),()) rec u a) ?_ ?_ done.reverse r x K (by simp;omega) (by simp;omega)
  ·rw[Bq,CS]at this;exact this
  ·intro u A y z B I;simp only[Q129.s1];have H:wr .i64 (((A.length+1:Nat):Int)-1)=(A.length:Int):=(aJ (by omega) (by omega)).trans (by omega);rw[decide_eq_true (by omega:((A.length+1:Nat):Int)>0)];simp only[cond_true,H,BE,sP,uL,BA,sQ,uM];rw[show Q113.f K (z,y,())=_ from AD K z y];rfl
  ·intro u M;simp only[Q129.s1];rw[decide_eq_false (by omega:¬ (0:Int)>0)];rfl
 ·intro rec M i O;simp only[Q129.s0];rw[decide_eq_false (by omega:¬ i<(xs.length:Int))];rfl
theorem yt (K:Nat)(xs:List Int)(y:xs.length<=12)(H:1048577<K) :
  Q137.f K (xs,())=some ((),(cR ltZ [] xs,())):=by
 simp only[Q137.f,Q136.f];obtain⟨l,u⟩:∃ l:Int,Q135.f K (wr .u64 (xs.length:Int),())=some ((l,()),()):=by
  have e:wr .u64 (xs.length:Int)=(xs.length:Int):=by
   show IntKind.u64.wrap _=_;have I:IntKind.u64.wrap (xs.length:Int)=(xs.length:Int) % 18446744073709551616:=by simp[IntKind.wrap,IntKind.bits,IntKind.signed]
   rw[I];omega
  rw[e];generalize J:xs.length=n at y;have:n=0\/n=1\/n=2\/n=3\/n=4\/n=5\/n=6\/n=7\/n=8\/n=9\/n=10\/n=11\/n=12:=by omega
  rcases this with rfl|rfl|rfl|rfl|rfl|rfl|rfl|rfl|rfl|rfl|rfl|rfl|rfl
  ·exact⟨0,by kernel_rfl⟩
  ·exact⟨1,by kernel_rfl⟩
  ·exact⟨2,by kernel_rfl⟩
  ·exact⟨2,by kernel_rfl⟩
  ·exact⟨3,by kernel_rfl⟩
  ·exact⟨3,by kernel_rfl⟩
  ·exact⟨3,by kernel_rfl⟩
  ·exact⟨3,by kernel_rfl⟩
  ·exact⟨4,by kernel_rfl⟩
  ·exact⟨4,by kernel_rfl⟩
  ·exact⟨4,by kernel_rfl⟩
  ·exact⟨4,by kernel_rfl⟩
  ·exact⟨4,by kernel_rfl⟩
 rw[u];simp only[BA];have:Q134.f K (xs,0,(xs.length:Int),l,())=some ((),(cR ltZ [] xs,())):=by
  obtain⟨k,rfl⟩:∃ r,K=r+1:=⟨K-1,by omega⟩;have z:∀ (rec:Q134.A0->Option Q134.Res) (a:Q134.A0),Q134.s0 (k+1) (xs,0,(xs.length:Int),l,()) rec a=some ((),(cR ltZ [] xs,())):=by
   intro rec a;simp only[Q134.s0];have e:wr .i64 ((xs.length:Int)-0)=(xs.length:Int):=(aJ (by omega) (by omega)).trans (by omega);rw[e,decide_eq_true (by omega:(xs.length:Int)<=12)];simp only[cond_true];rw[yq (k+1) xs (by omega) H];rfl
  exact z (λ_=>none) ()
 rw[this];rfl
def d5 (l:List aL)(i:Int):Int:=((l[i.toNat]?).map (·.2)).getD 0
def ltL (l:List aL)(a b:Int):Bool:=decide (d5 l b<d5 l a)
def lt2 (l:List aL)(a b:Int):Prop:=d5 l b<d5 l a\/(d5 l a=d5 l b/\a<b)
def cz (n:Nat):List Int:=(List.range n).map λ (i:Nat)=>(i:Int)
def bw (l:List aL):List Int:=cR (ltL l) [] (cz l.length)
theorem im {n:Nat}{i:Int}:i∈cz n<->0<=i/\i<n:=by
 unfold cz;rw[BZ];constructor
 ·rintro⟨j,hj,rfl⟩;have:=DC.1 hj;omega
 ·rintro⟨h0,h1⟩;exact⟨i.toNat,DC.2 (by omega),by omega⟩
theorem ja (n:Nat):(cz n).Pairwise (·<·):=by
 unfold cz;rw[Bs];exact List.pairwise_lt_range.imp λh=>by omega
theorem dL {l:List aL}{i:Nat}(h:i<l.length):d5 l (i:Int)=l[i].2:=by
 unfold d5;rw[BE,BK h];rfl
theorem sS (l:List aL):∀ (xs done:List Int),done.Pairwise (lt2 l)->(∀ a∈done,∀ b∈xs,a<b)->xs.Pairwise (·<·)->(cR (ltL l) done xs).Pairwise (lt2 l)
 |[],done,h,_,_=>h
 |x::xs,done,h,H,R=>by
  have z:=BQ.1 R;have J:jF (ltL l) done:=h.imp λ {a b} M=>by
   unfold ltL;rw[decide_eq_false_iff_not];rcases M with y|⟨y,_⟩ <;> omega
  have e:=kU (ltL l) (λa b c y I=>by
   unfold ltL at y I ⊢;rw[decide_eq_false_iff_not]at y I ⊢;omega) x done.reverse [] (by rw[Bq];exact J)
  rw[Bq,BN]at e;simp only[cR];rw[e];refine sS l xs _ ?_ ?_ z.2
  ·rw[CB,BQ];refine⟨h.filter _,⟨λb u=>?_,h.filter _⟩,λa r b u=>?_⟩
   ·have y:ltL l x b=true:=by simpa using (BH.1 u).2
    exact .inl (by simpa[ltL]using y)
   ·have y:ltL l x a=false:=by simpa using (BH.1 r).2
    have X:¬ d5 l a<d5 l x:=by simpa[ltL]using y
    have O:=H a (BH.1 r).1 x (by simp);rcases B6.1 u with rfl|u
    ·by_cases I:d5 l b<d5 l a
     ·exact .inl I
     ·exact .inr ⟨by omega,O⟩
    ·have I:ltL l x b=true:=by simpa using (BH.1 u).2
     have Y:d5 l b<d5 l x:=by simpa[ltL]using I
     exact .inl (by omega)
  ·intro a r b u;rcases Bx.1 r with r|r
   ·exact H a (BH.1 r).1 b (by simp[u])
   ·rcases B6.1 r with rfl|r
    ·exact z.1 b u
    ·exact H a (BH.1 r).1 b (by simp[u])
theorem pJ (l:List aL):(bw l).Pairwise (lt2 l):=sS l _ [] List.Pairwise.nil (by simp) (ja _)
theorem l6 (l:List aL):(bw l).Perm (cz l.length):=by
 unfold bw;simpa using lZ (ltL l) (cz l.length) []
theorem iE {l:List aL}{i:Int}:i∈bw l<->0<=i/\i<l.length:=by rw[(l6 l).mem_iff,im]
theorem wW (l:List aL):(bw l).length=l.length:=by rw[(l6 l).length_eq];simp[cz]
theorem ue (l:List aL):(bw l).Nodup:=(l6 l).nodup_iff.2 ((ja _).imp λh=>by omega)
def dl (T:List Int)(n:Nat):List Bool:=(cz n).map λi=>decide (i∈T)
theorem eV (T:List Int)(n:Nat):(dl T n).length=n:=by simp[dl,cz]
theorem iF (T:List Int){n i:Nat}(h:i<n):(dl T n)[i]'(by rw[eV];exact h)=decide ((i:Int)∈T):=by
 simp[dl,cz]
theorem wX {T:List Int}{n b:Nat}(y:b<n):(dl T n).set b true=dl (T++[(b:Int)]) n:=by
 refine CP (by rw[Cq,eV,eV]) λi u r=>?_
 rw[eV]at r;rw[C4,iF _ r];by_cases h:b=i
 ·subst h;rw[if_pos rfl,iF _ r];simp
 ·rw[if_neg h,iF _ r];have:¬ (i:Int)=(b:Int):=by omega
  simp[this]
def pK (l:List aL)(T:List Int)(i:Nat)(r:Int):Prop :=
 (r=-1/\∀ j:Nat,j<i->(j:Int)∈T)\/(0<=r/\r<i/\r∉T/\∀ j:Nat,j<i->(j:Int)∉T->(j:Int)≠r->lt2 l r (j:Int))
theorem zN (K:Nat)(l:List aL)(T:List Int)(hl:l.length<=1048576):∀ (d i k:Nat) (r:Int),i+d=l.length->d<k->pK l T i r ->
  ∃ b:Int,ae (λrec a=>Q43.s0 K (l,dl T l.length,()) rec a) k (r,(i:Int))=some ((b,()),())/\pK l T l.length b:=by
 intro d;induction d with
 |zero =>
  intro i k r hi hk Y;obtain⟨k,rfl⟩:∃ k',k=k'+1:=⟨k-1,by omega⟩;have:i=l.length:=by omega
  subst this;refine⟨r,?_,Y⟩;show Q43.s0 K (l,dl T l.length,()) _ _=_;simp only[Q43.s0,aR];rfl
 |succ d ih =>
  intro i k r hi hk Y;obtain⟨k,rfl⟩:∃ k',k=k'+1:=⟨k-1,by omega⟩;have z:i<l.length:=by omega
  have I:∀ r,pK l T (i+1) r->∃ b:Int,ae (λrec a=>Q43.s0 K (l,dl T l.length,()) rec a) k (r,((i+1:Nat):Int))=some ((b,()),())/\pK l T l.length b:=λr h=>ih (i+1) k r (by omega) (by omega) h
  show ∃ b:Int,Q43.s0 K (l,dl T l.length,()) (ae (λrec a=>Q43.s0 K (l,dl T l.length,()) rec a) k) (r,(i:Int))=_/\_;generalize ae (λrec a=>Q43.s0 K (l,dl T l.length,()) rec a) k=REC at I ⊢;simp only[Q43.s0];rw[bm (by omega:(i:Int)<(BB l:Int)),af (show i<(dl T l.length).length by rw[eV];exact z),iF T z,ar i (by omega)];simp only[cond_true,BA];by_cases O:(i:Int)∈T
  ·rw[decide_eq_true O];simp only[BI,cond_false];refine I r ?_;rcases Y with ⟨rfl,h⟩|⟨h0,h1,h2,X⟩
   ·refine .inl ⟨rfl,λj Z=>?_⟩;by_cases y:j=i
    ·subst y;exact O
    ·exact h j (by omega)
   ·refine .inr ⟨h0,by omega,h2,λj Z u J=>?_⟩;by_cases y:j=i
    ·subst y;exact absurd O u
    ·exact X j (by omega) u J
  ·rw[decide_eq_false O];simp only[Bp,cond_true];rcases Y with ⟨rfl,h⟩|⟨h0,h1,h2,X⟩
   ·rw[show decide ((-1:Int)<0)=true from rfl];refine I (i:Int) (.inr ⟨by omega,by omega,O,λj Z u J=>?_⟩);exact absurd (h j (by omega)) u
   ·rw[decide_eq_false (by omega:¬ r<0)];obtain⟨b,rfl⟩:=BF h0;have H:b<l.length:=by omega
    simp only[cond_false];rw[af z,af H];simp only[BA];by_cases M:l[i].2>l[b].2
    ·rw[decide_eq_true M];refine I (i:Int) (.inr ⟨by omega,by omega,O,λj Z u J=>?_⟩);have y:j<i:=by omega
     have a1:j<l.length:=by omega
     by_cases R:(j:Int)=(b:Int)
     ·rw[R];exact .inl (by rw[dL z,dL H];exact M)
     ·have:=X j y u R;rcases this with h4|⟨h4,_⟩
      ·exact .inl (by rw[dL H]at h4;rw[dL z];omega)
      ·exact .inl (by rw[dL H]at h4;rw[dL z];omega)
    ·rw[decide_eq_false M];refine I (b:Int) (.inr ⟨by omega,by omega,h2,λj Z u J=>?_⟩);by_cases y:j=i
     ·subst y;by_cases a0:d5 l (b:Int)=d5 l (j:Int)
      ·exact .inr ⟨a0,h1⟩
      ·refine .inl ?_;rw[dL z,dL H]at *;omega
     ·exact X j (by omega) u J
theorem AE (K:Nat)(l:List aL)(n:Nat)(hl:l.length<=1048576)(hK:1048577<K):Q43.f K (l,dl ((bw l).take n) l.length,())=some ((((bw l)[n]?).getD (-1),()),()):=by
  obtain⟨b,e,Z⟩:=zN K l ((bw l).take n) hl l.length 0 K (-1) (by omega) (by omega) (.inl ⟨rfl,λj I=>by omega⟩);have:b=((bw l)[n]?).getD (-1):=by
    by_cases H:n<(bw l).length
    · rw[BK H]
      show b=(bw l)[n];have hm:(bw l)[n]∉(bw l).take n:=λh=>by
        obtain⟨j,I,e⟩:=BJ h;rw[BW]at I;rw[CT]at e;have:=CA.1 (pJ l) j n (by omega) H (by omega);rw[e]at this;rcases this with u|⟨_,u⟩ <;> omega
      have hr:=iE.1 (BC H);obtain⟨m,r⟩:=BF hr.1;rcases Z with ⟨rfl,h⟩|⟨O,Y,y,h3⟩
      · have:=h m (by omega)
        rw[<- r]at this;exact absurd this hm
      · by_cases M:b=(bw l)[n]
        · exact M
        · exfalso
          have z:=h3 m (by omega) (by rw[<- r];exact hm) (by rw[<- r];exact λh=>M h.symm);rw[<- r]at z;have X:b∈bw l:=iE.2 ⟨O,Y⟩;obtain⟨j,I,R⟩:=BJ X;have J:n<j:=by
            rcases Cg j n with h|h|h
            · exact absurd (List.mem_take_iff_getElem.2 ⟨j,by omega,R⟩) y
            · subst h;exact absurd R.symm M
            · exact h
          have u:=CA.1 (pJ l) n j H I J;rw[R]at u;rcases z with z|⟨z,h6⟩ <;> rcases u with u|⟨u,h7⟩ <;> omega
    · rw[CI (by omega)]
      show b=-1;rcases Z with ⟨rfl,_⟩|⟨O,Y,y,_⟩
      · rfl
      · exfalso
        rw[Bv (by omega)]at y;exact y (iE.2 ⟨O,Y⟩)
  rw[<- this];exact e
def bW (l:List aL):List Int:=(bw l).take 3
def gr (l:List aL)(i:Int):aL:=(l[i.toNat]?).getD ((0,0,0,false),0)
def dM (l:List aL)(T:List Int)(i:Int):aL:=bif decide (i∈T) then ((gr l i).1,(gr l i).2-1) else gr l i
def ee (l:List aL)(T:List Int)(n:Nat):List ag:=((cz n).filter λi=>decide (i∈T)).map λi=>(gr l i).1
def fV (l:List aL)(T:List Int)(n:Nat):List aL:=(cz n).map (dM l T)
def dA (l:List aL)(T:List Int)(n:Nat):List aL:=(fV l T n).filter λx=>decide (x.2>0)
theorem ct {l:List aL}{i:Nat}(h:i<l.length):gr l (i:Int)=l[i]:=by
 unfold gr;rw[BE,BK h];rfl
theorem mQ (n:Nat):cz (n+1)=cz n++[(n:Int)]:=by
 unfold cz;rw[List.range_succ,Cd];rfl
theorem vB (l:List aL)(T:List Int)(n:Nat):ee l T (n+1)=ee l T n++(bif decide ((n:Int)∈T) then [(gr l (n:Int)).1] else []):=by
 unfold ee;rw[mQ,By,Cd,BV];cases decide ((n:Int)∈T) <;> rfl
theorem vC (l:List aL)(T:List Int)(n:Nat):dA l T (n+1)=dA l T n++(bif decide ((dM l T (n:Int)).2>0) then [dM l T (n:Int)] else []):=by
 unfold dA fV;rw[mQ,Cd,By,Ci,BV];cases decide ((dM l T (n:Int)).2>0) <;> rfl
theorem wY (l:List aL)(T:List Int)(n:Nat):(ee l T n).length<=n:=by
 unfold ee;rw[BU];refine Br (B9 _ _) ?_;simp[cz]
theorem wZ (l:List aL)(T:List Int)(n:Nat):(dA l T n).length<=n:=by
 unfold dA;refine Br (B9 _ _) ?_;simp[fV,cz]
theorem zO (K:Nat)(l:List aL)(m:Int)(T:List Int)(J:l.length<=1048576)(H:cQ l)(O:1048577<K) :
  Q44.l1 K (l,m,()) (dl T l.length,[],[],0)=some ((ee l T l.length,dA l T l.length,()),()):=by
 refine fk (step:=λrec a=>Q44.s1 K (l,m,()) rec a) l.length (λi=>(dl T l.length,ee l T i,dA l T i,(i:Int))) (some ((ee l T l.length,dA l T l.length,()),())) ?_ ?_ (by omega)
 ·intro rec i r;simp only[Q44.s1];have u:i<(dl T l.length).length:=by rw[eV];exact r
  have R:=wY l T i;have M:=wZ l T i;obtain⟨X,I⟩:=(H.1 l[i] (BC r)).2;rw[bm (by omega:(i:Int)<(BB l:Int)),af r,af u,ar i (by omega),BE,af u,iF T r,vB,vC,ct r];simp only[cond_true,BA];cases z:decide ((i:Int)∈T) with
  |true =>
   have y:dM l T (i:Int)=(l[i].1,l[i].2-1):=by unfold dM;rw[z,ct r];rfl
   rw[y];simp only[cond_true];rw[szb _ _ _ (by omega) (by simp;omega),aJ (n:=l[i].2-1) (by omega) (by omega)];simp only[cond_true];cases decide (l[i].2-1>0) with
   |true =>
    simp only[cond_true];rw[szb _ _ _ (by omega) (by simp;omega)];rfl
   |false =>
    simp only[cond_false,BN]
  |false =>
   have y:dM l T (i:Int)=l[i]:=by unfold dM;rw[z,ct r];rfl
   rw[y];simp only[cond_false,BN];cases decide (l[i].2>0) with
   |true =>
    simp only[cond_true];rw[szb _ _ _ (by omega) (by simp;omega)];rfl
   |false =>
    simp only[cond_false,BN]
 ·intro rec;simp only[Q44.s1,aR];rfl
theorem AF (K:Nat)(l:List aL)(M:l.length<=1048576)(hC:cQ l)(R:1048577<K):Q44.f K (l,3,())=some ((ee l (bW l) l.length,dA l (bW l) l.length,()),()):=by
 have r:∀ T,Q44.l1 K (l,3,()) (dl T l.length,[],[],0)=some ((ee l T l.length,dA l T l.length,()),()):=λT=>zO K l 3 T M hC R
 have Y:∀ (d n k:Nat),n+d=3->d<k->ae (λrec a=>Q44.s0 K (l,3,()) (Q44.l1 K (l,3,())) rec a) k (dl ((bw l).take n) l.length,(n:Int))=some ((ee l (bW l) l.length,dA l (bW l) l.length,()),()):=by
  intro d;induction d with
  |zero =>
   intro n k hn hk;obtain⟨k,rfl⟩:∃ H,k=H+1:=⟨k-1,by omega⟩;have:n=3:=by omega
   subst this;exact r _
  |succ d ih =>
   intro n k hn hk;obtain⟨k,rfl⟩:∃ H,k=H+1:=⟨k-1,by omega⟩;have y:=ih (n+1) k (by omega) (by omega);show Q44.s0 K (l,3,()) (Q44.l1 K (l,3,())) (ae (λrec a=>Q44.s0 K (l,3,()) (Q44.l1 K (l,3,())) rec a) k) (dl ((bw l).take n) l.length,(n:Int))=_;generalize ae (λrec a=>Q44.s0 K (l,3,()) (Q44.l1 K (l,3,())) rec a) k=REC at y ⊢;simp only[Q44.s0];rw[decide_eq_true (by omega:(n:Int)<3),AE K l n M R,ar n (by omega)];simp only[cond_true,BA];by_cases u:n<(bw l).length
   ·rw[BK u];have X:=iE.1 (BC u);have I:(bw l).take (n+1)=(bw l).take n++[(bw l)[n]]:=CC u;rw[I]at y;simp only[C5];generalize (bw l)[n]=v at X y ⊢;obtain⟨b,rfl⟩:=BF X.1;have J:b<l.length:=by omega
    have z:b<(dl ((bw l).take n) l.length).length:=by rw[eV];exact J
    rw[decide_eq_false (by omega:¬ (b:Int)<0),af z,BE,af z,wX J];exact y
   ·rw[CI (by omega)];show Q44.l1 K (l,3,()) (dl ((bw l).take n) l.length,[],[],0)=_;rw[r,show (bw l).take n=bW l by unfold bW;rw[Bv (by omega),Bv (by omega)]]
 simp only[Q44.f,Q44.pre];rw[decide_eq_true (by omega:(0:Int)<=(BB l:Int)),show decide ((BB l:Int)*(1:Nat)<=an)=true from decide_eq_true (by simp only[an];omega),BE];simp only[decide_true,CH,cond_true];have Z:CN l.length false=dl ((bw l).take 0) l.length:=by
  refine CP (by rw[CZ,eV]) λi h1 O=>?_
  rw[eV]at O;rw[List.getElem_replicate,iF _ O];simp
 have:=Y 3 0 K (by omega) (by omega);rw[<- Z]at this;exact this
theorem rR {a b:List Int}(u:a.Nodup)(r:b.Nodup)(h:∀ x,x∈a<->x∈b):a.Perm b:=by
 rw[List.perm_iff_count];intro x;rw[u.count,r.count];simp[h]
def cV (l:List aL):List Int:=(cz l.length).filter λi=>decide (i∈bW l)
theorem uf (l:List aL):cR ltZ [] (bW l)=cV l:=by
 have r:(bW l).Nodup:=(ue l).sublist (List.take_sublist _ _);have u:((cz l.length).filter λi=>decide (i∈bW l)).Nodup:=((ja l.length).imp (λh=>by omega:∀ {a b:Int},a<b->a≠b)).filter _;refine oa ltZ ?_ (mP ltZ (λa b c r u=>by
  unfold ltZ at r u ⊢;rw[decide_eq_false_iff_not]at r u ⊢;omega) (λa b h=>by
  unfold ltZ at h ⊢;rw[decide_eq_true_eq]at h;rw[decide_eq_false_iff_not];omega) (bW l) [] List.Pairwise.nil) ?_
 ·refine (by simpa using lZ ltZ (bW l) []:(cR ltZ [] (bW l)).Perm (bW l)).trans (rR r u λx=>?_);rw[cV,BH,decide_eq_true_eq,im];exact⟨λh=>⟨iE.1 (Ct h),h⟩,λh=>h.2⟩
 ·exact ((ja l.length).filter _).imp λh=>by unfold ltZ;exact decide_eq_true h
theorem w8 {l:List aL}{i:Int}:i∈cV l<->i∈bW l:=by
 unfold cV;rw[BH,decide_eq_true_eq,im];exact⟨λh=>h.2,λh=>⟨iE.1 (Ct h),h⟩⟩
theorem xa (l:List aL):(cV l).Pairwise (·<·):=(ja l.length).filter _
theorem eB (l:List aL)(T:List Int)(n:Nat):(fV l T n).length=n:=by simp[fV,cz]
theorem e8 (l:List aL)(T:List Int){n i:Nat}(h:i<n):(fV l T n)[i]'(by rw[eB];exact h)=dM l T (i:Int):=by
 simp[fV,cz]
theorem yu (l:List aL):fV l [] l.length=l:=by
 refine CP (eB _ _ _) λi u r=>?_
 rw[e8 l [] r];unfold dM;rw[ct r];simp
theorem yw {l:List aL}{T:List Int}{b:Nat}(y:b<l.length):(fV l T l.length).set b ((gr l (b:Int)).1,(gr l (b:Int)).2-1)=fV l (T++[(b:Int)]) l.length:=by
 refine CP (by rw[Cq,eB,eB]) λi u r=>?_
 rw[eB]at r;rw[C4,e8 _ _ r];by_cases h:b=i
 ·subst h;rw[if_pos rfl,e8 _ _ r];unfold dM;rw[decide_eq_true (by simp:(b:Int)∈T++[(b:Int)])];rfl
 ·rw[if_neg h,e8 _ _ r];unfold dM;have:((i:Int)∈T++[(b:Int)])<->(i:Int)∈T:=by
   rw[Bx,Bt];exact⟨λu=>u.resolve_right (by omega),.inl⟩
  rw[show decide ((i:Int)∈T++[(b:Int)])=decide ((i:Int)∈T) by rw[decide_eq_decide];exact this]
theorem vD {l:List aL}{T T':List Int}(h:∀ i,i∈T<->i∈T')(n:Nat):fV l T n=fV l T' n:=by
 unfold fV;refine List.map_congr_left λi _=>?_
 unfold dM;rw[show decide (i∈T)=decide (i∈T') by rw[decide_eq_decide];exact h i]
theorem ug (K:Nat)(x:ab Q139.ps)(l:List aL)(hl:l.length<=1048576)(Y:cQ l)(hK:1048577<K) :
  Q139.l1 K x (l,cV l,[],(BB (cV l):Int),0)=some ((ee l (bW l) l.length,dA l (bW l) l.length,()),()):=by
 have a0:(cV l).length<=l.length:=by
  refine Br (B9 _ _) ?_;simp[cz]
 refine Ck ?_ (fk (step:=λrec a=>Q139.s1 K x rec a) (cV l).length (λi=>(fV l ((cV l).take i) l.length,cV l,((cV l).take i).map (λj=>(gr l j).1),(BB (cV l):Int),(i:Int))) (some ((ee l (bW l) l.length,dA l (bW l) l.length,()),())) ?_ ?_ (by omega:(cV l).length<K))
 ·simp only[List.take_zero,DE,yu];rfl
 ·intro rec i r;simp only[Q139.s1];have X:=im.1 ((BH.1 (BC r)).1);have u:(cV l)[i]∉(cV l).take i:=λh=>by
   obtain⟨j,hj,e⟩:=BJ h;rw[BW]at hj;rw[CT]at e;have:=CA.1 (xa l) j i (by omega) r (by omega);omega
  have R:(cV l).take (i+1)=(cV l).take i++[(cV l)[i]]:=CC r;rw[R,Cd];have I:(((cV l).take i).map (λj=>(gr l j).1)).length<=1048576:=by rw[BU,BW];omega
  rw[bm (by omega:(i:Int)<(BB (cV l):Int)),af r,ar i (by omega),BE,af r];simp only[cond_true,BA];generalize (cV l)[i]=v at X u ⊢;obtain⟨b,rfl⟩:=BF X.1;have z:b<l.length:=by omega
  have H:b<(fV l ((cV l).take i) l.length).length:=by rw[eB];exact z
  have hd:dM l ((cV l).take i) (b:Int)=l[b]:=by
   unfold dM;rw[decide_eq_false u,ct z];rfl
  obtain⟨c0,Z⟩:=(Y.1 l[b] (BC z)).2;rw[af H,BE,af H,e8 l _ z,hd];simp only[BA];rw[szb _ _ _ (by omega) (by simp only[BU,BG,BM]at I ⊢;omega),aJ (n:=l[b].2-1) (by omega) (by omega),<- yw z,ct z];simp only[cond_true,Ci,DE,ct z]
 ·intro rec;simp only[Q139.s1,aR,cond_false,CF,Q9.f];have e:∀ J:List aL,J.length<=1048576->gH t3 J (λM=>(Q138.f K (M.1,())).map λy=>y.1.1)=some ((J.filter (λx=>!(x.2==0)),()),()):=λJ O=>qW (e:=t3) (λx=>x.2==0) O (λx _=>rfl)
  rw[e _ (by rw[eB];exact hl)];simp only[BA];rw[vD (l:=l) (T:=cV l) (T':=bW l) (λi=>w8) l.length];have ef:(fV l (bW l) l.length).filter (λx=>!(x.2==0))=dA l (bW l) l.length:=by
   unfold dA;refine Ch λx hx=>?_
   have h0:0<=x.2:=by
    obtain⟨i,r,rfl⟩:=BJ hx;rw[eB]at r;rw[e8 l _ r];obtain⟨c0,Z⟩:=(Y.1 l[i] (BC r)).2;unfold dM;rw[ct r];cases decide ((i:Int)∈bW l) with
    |true=>show 0<=l[i].2-1;omega
    |false=>show 0<=l[i].2;omega
   rw[CG];simp;omega
  rw[ef];rfl
theorem vE (K:Nat)(l:List aL)(hl:l.length<=8)(I:cQ l)(H:1048577<K):Q139.f K (l,3,())=some ((ee l (bW l) l.length,dA l (bW l) l.length,()),()):=by
 simp only[Q139.f,Q139.pre];obtain⟨b1,e1,e2⟩:=oQ K l (by omega) H;have R:=e2.2 I;subst R;rw[e1];simp only[BA,BI,cond_false];rw[decide_eq_true (by omega:(0:Int)<=(BB l:Int)),show decide ((BB l:Int)*(8:Nat)<=an)=true from decide_eq_true (by simp only[an];omega),BE];simp only[decide_true,CH,cond_true];have Y:(cz l.length).length=l.length:=by simp[cz]
 have hS:∀ i,i<=l.length->(cz i++CN (l.length-i) (0:Int)).length=l.length:=λi Z=>by simp[cz];omega
 refine Ck ?_ (fk (step:=λrec a=>Q139.s0 K (l,3,()) (Q139.l1 K (l,3,())) rec a) l.length (λi=>(cz i++CN (l.length-i) (0:Int),(i:Int))) (some ((ee l (bW l) l.length,dA l (bW l) l.length,()),())) ?_ ?_ (by omega:l.length<K))
 ·rfl
 ·intro rec i Z;simp only[Q139.s0];have u:i<(cz i++CN (l.length-i) (0:Int)).length:=by rw[hS i (by omega)];exact Z
  rw[decide_eq_true (by rw[CZ];show (i:Int)<((BD (BB l:Int):Nat):Int);omega),af u,ar i (by omega),BE,af u];simp only[cond_true,BA];have e:(cz i++CN (l.length-i) (0:Int)).set i (i:Int)=cz (i+1)++CN (l.length-(i+1)) (0:Int):=by
   obtain⟨m,hm⟩:∃ m,l.length-i=m+1:=⟨l.length-i-1,by omega⟩;have M:(cz i).length=i:=by simp[cz]
   rw[hm,show l.length-(i+1)=m by omega,mQ,Cr _ _ (by omega),M,Nat.sub_self,List.replicate_succ,List.set_cons_zero,B5];rfl
  rw[e]
 ·intro rec;simp only[Q139.s0];rw[decide_eq_false (by rw[CZ];show ¬ (BB l:Int)<((BD (BB l:Int):Nat):Int);omega),Nat.sub_self,List.replicate_zero,BN];simp only[cond_false,Q2.f];have r:=yp K (cz l.length) (λy4=>(Q126.f K (y4.1,y4.2.1,l,())).map λy=>y.1.1) (ltL l) (λi=>0<=i/\i<l.length) (λy O=>im.1 O) (λy z O hz=>by
   obtain⟨a,rfl⟩:=BF O.1;obtain⟨b,rfl⟩:=BF hz.1;have X:a<l.length:=by omega
   have J:b<l.length:=by omega
   obtain⟨c0,c1⟩:=(I.1 l[a] (BC X)).2;obtain⟨c2,c3⟩:=(I.1 l[b] (BC J)).2;refine⟨l[b].2-l[a].2,?_,?_⟩
   ·simp only[Q126.f];rw[af X,af J];simp only[BA];rw[aJ (n:=l[b].2-l[a].2) (by omega) (by omega)];rfl
   ·unfold ltL;rw[dL X,dL J,decide_eq_decide];omega) (by rw[Y];omega) H
  rw[r];simp only[BA];rw[dY (by omega)];simp only[BA];rw[show Q128.f K (cR (ltL l) [] (cz l.length),3,())=some ((bW l,()),()) from zD K (bw l) 3 (by rw[wW];omega)];simp only[BA];rw[yt K (bW l) (Br (CR _ _) (by omega)) H,uf];simp only[BA];exact ug K (l,3,()) l (by omega) I H
theorem AG {a b:Int}(y:0<=a)(z:a<4611686018427387904)(r:0<=b)(u:b<4611686018427387904):0<=qk .i64 a b:=by
 obtain⟨m,rfl⟩:=BF y;obtain⟨n,rfl⟩:=BF r;have h:(BitVec.ofInt 64 (m:Int) ^^^ BitVec.ofInt 64 (n:Int)).toNat=m ^^^ n:=by
  rw[BitVec.toNat_xor,BitVec.toNat_ofInt,BitVec.toNat_ofInt];congr 1
  ·omega
  ·omega
 have H:m ^^^ n<2 ^ 62:=Nat.xor_lt_two_pow (by omega) (by omega);show 0<=IntKind.i64.wrap (((BitVec.ofInt 64 (m:Int) ^^^ BitVec.ofInt 64 (n:Int)).toNat:Nat):Int);rw[h,C6];omega
structure fG (b:List Int):Prop where
 byte:∀ y∈b,0<=y/\y<=255
 len:b.length<=2000
theorem zP (K:Nat)(b:List Int)(q:Nat)(n:Int)(h:fG b)(hq:q<=100000)(hn:1<=n):∃ v:Int,Q150.f K ((b,(q:Int)),n,())=some ((v,()),((b,((q+1:Nat):Int)),()))/\0<=v/\v<n:=by
 have w1:wr .i64 ((q:Int)+1)=((q+1:Nat):Int):=ar q (by omega);have w2:wr .i64 (((q+1:Nat):Int)-1)=(q:Int):=by rw[aJ (n:=((q+1:Nat):Int)-1) (by omega) (by omega)];omega
 have hl:=h.len;have I:decide (n=0)=false:=decide_eq_false (by omega);have r:∀ x:Int,0<=x->0<=CO x n/\CO x n<n:=λx u=>⟨DA _ u,Cx _ (by omega)⟩
 simp only[Q150.f];rw[decide_eq_false (by omega:¬ n<1)];simp only[cond_false,w1,w2,I];by_cases M:b.length=0
 ·rw[show ((b.length:Int)==0)=true by simpa using M];exact⟨0,rfl,by omega,by omega⟩
 ·rw[show ((b.length:Int)==0)=false by simpa using M];simp only[cond_false];by_cases H:q<b.length
  ·rw[decide_eq_true (by omega:(q:Int)<(b.length:Int)),af H];simp only[cond_true,BA];obtain⟨J,O⟩:=h.byte b[q] (BC H);rw[aJ (n:=b[q]) (by omega) (by omega)];exact⟨_,rfl,r _ J⟩
  ·rw[decide_eq_false (by omega:¬ (q:Int)<(b.length:Int)),decide_eq_false (by omega:¬ (b.length:Int)=0)];simp only[cond_false];have t1:CO (q:Int) (b.length:Int)=((q % b.length:Nat):Int):=by rw[Cf (by omega)];rfl
   have t2:wr .i64 (wr .i64 ((q:Int)*7)+3)=((q*7+3:Nat):Int):=by rw[aJ (n:=(q:Int)*7) (by omega) (by omega),aJ (n:=(q:Int)*7+3) (by omega) (by omega)];omega
   have t3:CO (((q*7+3:Nat)):Int) (b.length:Int)=(((q*7+3) % b.length:Nat):Int):=by rw[Cf (by omega)];rfl
   have R:q % b.length<b.length:=Nat.mod_lt _ (by omega);have Y:(q*7+3) % b.length<b.length:=Nat.mod_lt _ (by omega);rw[t1,t2,t3,af R,af Y];simp only[BA];obtain⟨J,O⟩:=h.byte b[q % b.length] (BC R);obtain⟨z0,z1⟩:=h.byte b[(q*7+3) % b.length] (BC Y);generalize b[q % b.length]=y at J O ⊢;generalize b[(q*7+3) % b.length]=z at z0 z1 ⊢;have d1:0<=CV (q:Int) (b.length:Int)/\CV (q:Int) (b.length:Int)<=q:=⟨DB (by omega) (by omega),C7 _ (by omega)⟩;generalize CV (q:Int) (b.length:Int)=e at d1 ⊢;have Z:wr .i64 (wr .i64 (wr .i64 (wr .i64 (wr .i64 y*131)+wr .i64 (wr .i64 z*1117))+wr .i64 ((q:Int)*29))+wr .i64 (wr .i64 e*53))=y*131+z*1117+q*29+e*53:=by
    rw[aJ (n:=y) (by omega) (by omega),aJ (n:=z) (by omega) (by omega),aJ (n:=e) (by omega) (by omega),aJ (n:=y*131) (by omega) (by omega),aJ (n:=z*1117) (by omega) (by omega),aJ (n:=(q:Int)*29) (by omega) (by omega),aJ (n:=e*53) (by omega) (by omega),
     aJ (n:=y*131+z*1117) (by omega) (by omega),aJ (n:=y*131+z*1117+(q:Int)*29) (by omega) (by omega),aJ (n:=y*131+z*1117+(q:Int)*29+e*53) (by omega) (by omega)]
   rw[Z];have u:0<=y*131+z*1117+q*29+e*53/\y*131+z*1117+q*29+e*53<=10000000:=by omega
   generalize y*131+z*1117+(q:Int)*29+e*53=X at u ⊢;have d2:0<=CV X 64/\CV X 64<=X:=⟨DB u.1 (by omega),C7 _ u.1⟩;rw[aJ (n:=CV X 64) (by omega) (by omega)];exact⟨_,rfl,r _ (AG u.1 (by omega) d2.1 (by omega))⟩
theorem vF (K:Nat)(t:List ag)(f:ag)(ht:t.length<=1048576)(O:Asc (λg:ag=>g.1) t)(hK:1048577<K):Q36.f K (t,f,())=some (((bR t f).1,(bR t f).2,()),()):=by
 simp only[Q36.f,Q36.pre];obtain⟨o,H,M⟩:=fh K t f.1 ht hK;rw[M];simp only[BA];cases H with
 |at_ i r e =>
  simp only;rw[kh O r e,decide_eq_true (by omega:((i:Nat):Int)>=0),af r];simp only[cond_true,BA,BE,af r];rw[show Q19.f K (f,t[i],())=_ from pE K f t[i]];simp only[BA];by_cases H:bI f t[i]
  ·rw[decide_eq_true H,if_pos H];simp only[BI,cond_false];rw[szb _ _ _ (by omega) (by show (BB ([]:List ag))+t.length<=_;simp;omega)];simp only[cond_true,BO,af r,BA,BE];rw[ii (k:=λg:ag=>g.1) O r e]
  ·rw[decide_eq_false H,if_neg H];rfl
 |no h =>
  simp only;rw[ij h,decide_eq_false (by omega:¬ (-1:Int)>=0)];simp only[cond_false];have J:∀ m:Nat,m<=t.length->(bif decide ((0:Int)<=0)&&decide ((0:Int)<=(m:Int))&&decide ((m:Int)<=(BB t:Int))&&true then (bif decide ((BB ([]:List ag)+BB ((t.take (BD (m:Int))).drop (BD 0)))*32<=an) then (bif decide ((BB ([]++((t.take (BD (m:Int))).drop (BD 0)))+BB ([f]))*32<=an) then (bif decide ((0:Int)<=(m:Int))&&decide ((m:Int)<=(BB t:Int))&&decide ((BB t:Int)<=(BB t:Int))&&true then (bif decide ((BB (([]++((t.take (BD (m:Int))).drop (BD 0)))++([f]))+BB ((t.take (BD (BB t:Int))).drop (BD (m:Int))))*32<=an) then (some (((([]++((t.take (BD (m:Int))).drop (BD 0)))++([f]))++((t.take (BD (BB t:Int))).drop (BD (m:Int))),true,()),())) else none) else none) else none) else none) else (none:Option ((List ag×Bool×Unit)×Unit)))=some ((t.take m++[f]++t.drop m,true,()),()):=by
   intro m X;rw[decide_eq_true (by omega:(0:Int)<=0),decide_eq_true (by omega:(0:Int)<=(m:Int)),decide_eq_true (by omega:(m:Int)<=(BB t:Int)),decide_eq_true (by omega:(BB t:Int)<=(BB t:Int))];simp only[BE,CL,Bo,BO,CF,CH,cond_true];have M:(t.take m).length=m:=by rw[BW];omega
   have z:(t.drop m).length=t.length-m:=Bu;rw[szb _ _ _ (by omega) (by simp only[BM];omega),szb _ _ _ (by omega) (by simp only[BG,BM];omega),szb _ _ _ (by omega) (by simp only[BP,BG,BM];omega)];rfl
  have:=cq (step:=λrec a=>Q36.s0 K (t,f,()) rec a) t.length (λi=>(i:Int)) (λj=>∃ h:j<t.length,¬ t[j].1<f.1) (some ((t.take t.length++[f]++t.drop t.length,true,()),())) (λj=>some ((t.take j++[f]++t.drop j,true,()),())) ?_ ?_ t.length K 0 (by omega) (by omega)
  ·have I:∀ m,m<=t.length->(∀ i,(r:i<t.length)->i<m->t[i].1<f.1)->(∀ i,(r:i<t.length)->m<=i->f.1<t[i].1)->t.take m++[f]++t.drop m=bu (λg=>g.1) f t:=λm X lo r=>gp (k:=λg:ag=>g.1) X lo r
   rcases this with ⟨M,z⟩|⟨j,_,M,⟨Y,h4⟩,Z,z⟩
   ·rw[I t.length (BR _) (λi r _=>by
     have:=M i (BX _) r;exact CK.1 λh=>this ⟨r,h⟩) (λi r h=>by omega)]at z
    exact z
   ·rw[I j (by omega) (λi r y=>by
     have:=Z i (BX _) y;exact CK.1 λh=>this ⟨r,h⟩) (λi r y=>by
     have a0:=h t[i] (BC r);rcases Bz y with R|R
     ·have:=cC.1 O j i Y r R;omega
     ·subst R;omega)]at z
    exact z
  ·intro rec i r;simp only[Q36.s0];rw[bm (by omega:(i:Int)<(BB t:Int)),af r,ar i (by omega)];simp only[cond_true,BA];rw[show idx t ((BD (i:Int):Nat):Int)=some t[i] by rw[BE];exact af r];simp only[BA];by_cases u:t[i].1<f.1
   ·exact .inl ⟨λ⟨_,h⟩=>h u,by rw[decide_eq_true u];rfl⟩
   ·exact .inr ⟨⟨r,u⟩,by rw[decide_eq_false u];exact J i (by omega)⟩
  ·intro rec;simp only[Q36.s0,aR,cond_false];exact J t.length (BR _)
def eW (t:List ag)(fs:List ag):List ag:=fs.foldl (λt f=>(bR t f).1) t
theorem qX:∀ {fs t:List ag},aA t->(∀ f∈fs,bk f)->aA (eW t fs)
 |[],_,h,_=>h
 |f::fs,t,h,r=>qX (fs:=fs) (ki h (r f (by simp))) (λg u=>r g (by simp[u]))
theorem bX {t:List ag}(h:aA t):t.length<=1048576:=Br (iM h.2 (λg r=>(h.1 g r).1)) (by decide)
theorem oc {R:Type}(a fs:List ag)(O:aA a)(M:∀ f∈fs,bk f)(r:List ag->Option R){step:(List ag×Int->Option R)->List ag×Int->Option R}
  (h:∀ (rec:List ag×Int->Option R) (t:List ag) (i:Nat) (I:i<fs.length),aA t->step rec (t,(i:Int))=rec ((bR t fs[i]).1,((i+1:Nat):Int)))
  (y:∀ (rec:List ag×Int->Option R) (t:List ag),step rec (t,(fs.length:Int))=r t) {k:Nat} (H:fs.length<k):ae step k (a,0)=r (eW a fs):=by
 have:∀ (d i k:Nat) (t:List ag),i+d=fs.length->d<k->aA t->ae step k (t,(i:Int))=r (eW t (fs.drop i)):=by
  intro d;induction d with
  |zero =>
   intro i k t I H _;obtain⟨k,rfl⟩:∃ z,k=z+1:=⟨k-1,by omega⟩;have:i=fs.length:=by omega
   subst this;show step (ae step k) _=_;rw[y,Ca];rfl
  |succ d X =>
   intro i k t I H J;obtain⟨k,rfl⟩:∃ z,k=z+1:=⟨k-1,by omega⟩;have u:i<fs.length:=by omega
   show step (ae step k) _=_;rw[h _ _ _ u J,BL u];exact X (i+1) k _ (by omega) (by omega) (ki J (M _ (BC u)))
 have:=this fs.length 0 k a (by omega) H O
 rwa [Bo]at this
theorem AH (K:Nat)(a b:List ag)(r:aA a)(u:aA b)(y:1048577<K):Q106.f K (a,b,())=some ((eW a b,()),()):=by
 simp only[Q106.f,Q106.pre,Q0.f];obtain⟨Z,X,Y⟩:=gn K a (bX r) y;obtain⟨b2,O,J⟩:=gn K b (bX u) y;have I:=Y.2 r;have R:=J.2 u;subst I R;have H:=bX u;rw[X,O];simp only[BA,BI,cond_false];rw[dY (by have:=bX r;omega)];simp only[BA];refine oc a b r u.1 (step:=λrec x=>Q106.s0 K (a,b,()) rec x) (λt=>some ((t,()),())) ?_ ?_ (by omega)
 ·intro rec t i M z;simp only[Q106.s0];rw[bm (by omega:(i:Int)<(BB b:Int)),af M,ar i (by omega)];simp only[cond_true,BA];rw[vu K t _ (bX z) z.2 y];rfl
 ·intro rec t;simp only[Q106.s0,aR];rfl
theorem xb (f:ag):¬ bI f f:=by
 unfold bI;simp
theorem iO (K:Nat)(xs:List ag)(y:xs.length<=1048576)(z:1048577<K):Q223.f K (xs,xs,())=rb true:=by
 have r:Q223.l0 K (xs,xs,()) 0=rb true:=by
  refine fk (step:=λrec a=>Q223.s0 K (xs,xs,()) rec a) xs.length (λi=>(i:Int)) (rb true) ?_ ?_ (by omega)
  ·intro rec i u;simp only[Q223.s0];rw[decide_eq_true (by omega:(i:Int)<(BB xs:Int)),af u,ar i (by omega)];simp only[cond_true,BA];rw[show Ty.eqv t2 xs[i] xs[i]=decide (xs[i]=xs[i]) from gS _ _,decide_eq_true rfl];rfl
  ·intro rec;simp only[Q223.s0,aR];rfl
 simp only[Q223.f,Q223.pre,bne_self_eq_false,cond_false];exact r
theorem oW {l:List aL}(M:cQ l)(T:List Int):aA (ee l T l.length):=by
 unfold ee;constructor
 ·intro f Y;obtain⟨i,H,rfl⟩:=BZ.1 Y;obtain⟨R,h1⟩:=im.1 (BH.1 H).1;obtain⟨b,rfl⟩:=BF R;have J:b<l.length:=by omega
  rw[ct J];exact (M.1 l[b] (BC J)).1
 ·unfold Asc;rw[Bs];have hp:((cz l.length).filter λi=>decide (i∈T)).Pairwise λ (a b:Int)=>(0<=a/\a<l.length)/\(0<=b/\b<l.length)/\a<b:=by
   refine CM _ ?_;have:∀ u:List Int,(∀ x∈u,0<=x/\x<l.length)->u.Pairwise (·<·)->u.Pairwise λ (a b:Int)=>(0<=a/\a<l.length)/\(0<=b/\b<l.length)/\a<b:=by
    intro u z r;induction u with
    |nil=>exact List.Pairwise.nil
    |cons x u ih =>
     rw[BQ]at r ⊢;exact⟨λy I=>⟨z x (by simp),z y (by simp[I]),r.1 y I⟩,ih (λy I=>z y (by simp[I])) r.2⟩
   exact this _ (λx z=>im.1 z) (ja _)
  refine hp.imp λ {a b} h=>?_
  obtain⟨⟨a0,a1⟩,⟨Z,b1⟩,X⟩:=h;obtain⟨i,rfl⟩:=BF a0;obtain⟨j,rfl⟩:=BF Z;have H:i<l.length:=by omega
  have O:j<l.length:=by omega
  rw[ct H,ct O];exact cC.1 M.2 i j H O (by omega)
theorem yx {l:List aL}(J:cQ l)(T:List Int):cQ (dA l T l.length):=by
 have r:∀ i (h:i<l.length),(dM l T (i:Int)).1=l[i].1:=λi h=>by
  unfold dM;rw[ct h];cases decide ((i:Int)∈T) <;> rfl
 have I:∀ i (h:i<l.length),(dM l T (i:Int)).2<=l[i].2:=λi h=>by
  unfold dM;rw[ct h];cases decide ((i:Int)∈T) with
  |true=>show l[i].2-1<=l[i].2;omega
  |false=>exact B7 _
 unfold dA;constructor
 ·intro x O;obtain⟨M,z⟩:=BH.1 O;have z:x.2>0:=by simpa using z
  obtain⟨i,u,rfl⟩:=BJ M;rw[eB]at u;rw[e8 l T u]at z ⊢;have:=(J.1 l[i] (BC u));refine⟨by rw[r i u];exact this.1,?_,?_⟩
  ·omega
  ·have R:=I i u;have X:=this.2.2;omega
 ·unfold Asc;refine CM _ ?_;rw[CA];intro i j u y H;rw[eB]at u y;show (fV l T l.length)[i].1.1<(fV l T l.length)[j].1.1;rw[e8 l T u,e8 l T y,r i u,r j y];exact cC.1 J.2 i j u y H
def gV (n:aa)(to:Int):List ag :=
 bif (aP (aa.table n) to).2.2.1==2 then (bR (ee (aa.cast n) (bW (aa.cast n)) (aa.cast n).length) (aP (aa.table n) to)).1 else ee (aa.cast n) (bW (aa.cast n)) (aa.cast n).length
def iP (n:aa):aa:=fU n (aa.table n) (dA (aa.cast n) (bW (aa.cast n)) (aa.cast n).length) (aa.doubts n)
theorem nM {n:aa}(h:cr n)(to:Int):aA (gV n to):=by
 have r:=oW h.cast (bW (aa.cast n));unfold gV;cases y:(aP (aa.table n) to).2.2.1==2 with
 |false=>exact r
 |true =>
  refine ki r (ek h.table ?_).1;by_cases u:∃ f∈aa.table n,f.1=to
  ·exact u
  ·rw[jx (λg z e=>u ⟨g,z,e⟩)]at y;simp at y
theorem clen {n:aa}(h:cr n):(aa.cast n).length<=8:=iM h.cast.2 (λx r=>(h.cast.1 x r).1.1)
theorem uN (K:Nat)(n:aa)(to:Int)(h:cr n)(y:1048577<K):Q190.f K (n,to,())=some ((gV n to,iP n,()),()):=by
 have M:=clen h;simp only[Q190.f,zcp8];rw[show Q44.f K (n.2.2.2.2.2.2.2.2.2.1,3,())=_ from AF K (aa.cast n) (by omega) h.cast y];simp only[BA];obtain⟨o,J,I⟩:=fh K (aa.table n) to h.lt y;rw[show Q16.f K (n.2.2.2.2.2.2.2.2.1,to,())=_ from I];simp only[BA,gV];have z:=oW h.cast (bW (aa.cast n));cases J with
 |no r =>
  rw[jx r];rfl
 |at_ j H e =>
  have u:aP (aa.table n) to=(aa.table n)[j]:=by rw[<- e];exact jv h.table.2 (BC H)
  rw[u];simp only;rw[decide_eq_true (by omega:((j:Nat):Int)>=0),show idx n.2.2.2.2.2.2.2.2.1 ((j:Nat):Int)=some (aa.table n)[j] from af H];simp only[cond_true,BA];cases (aa.table n)[j].2.2.1==2 with
  |false=>rfl
  |true =>
   simp only[cond_true];rw[vF K _ _ (bX z) z.2 y];rfl
theorem vG (K:Nat)(n:aa)(to:Int)(h:cr n)(r:1048577<K):Q140.f K (n,to,())=some ((gV n to,()),(iP n,())):=by
 simp only[Q140.f,zcp8];rw[show Q139.f K (n.2.2.2.2.2.2.2.2.2.1,3,())=_ from vE K (aa.cast n) (clen h) h.cast r];simp only[BA];obtain⟨b,y⟩:=mM K (aa.table n) to h.table h.lt r;rw[show Q74.f K (n.2.2.2.2.2.2.2.2.1,to,())=_ from y];simp only[BA,gV];have u:=oW h.cast (bW (aa.cast n));cases (aP (aa.table n) to).2.2.1==2 with
 |false=>rfl
 |true =>
  simp only[cond_true];rw[vu K _ _ (bX u) u.2 r];rfl
def cH (n:aa)(k:Nat):Int:=CO (n.2.2.2.2.2.2.2.1+(k:Int)) 8
def gZ (n:aa)(k:Nat):Prop:=cH n k≠n.1/\ez (aP (aa.table n) (cH n k))=true
def askN (n:aa)(to:Int):aa :=
 let m:=iP n
 (m.1,m.2.1,m.2.2.1,m.2.2.2.1,m.2.2.2.2.1,m.2.2.2.2.2.1,m.2.2.2.2.2.2.1+1,to+1,m.2.2.2.2.2.2.2.2.1,m.2.2.2.2.2.2.2.2.2.1,(to,m.2.2.2.2.2.1,m.2.2.2.2.2.2.1+1,false),m.2.2.2.2.2.2.2.2.2.2.2)
def pingW (n:aa)(to:Int):aj:=(1,1,n.1,to,n.2.2.2.2.2.2.1+1,n.1,aa.coord n,gV n to)
theorem zQ (K:Nat)(n:aa)(h:cr n)(O:0<=n.2.2.2.2.2.2.2.1)(X:n.2.2.2.2.2.2.2.1<=8)(hK:1048577<K) :
  ∃ to:Int,Q191.f K (n,())=some ((to,()),())/\((to=-1/\∀ k,k<8->¬ gZ n k)\/∃ k,k<8/\gZ n k/\(∀ j,j<k->¬ gZ n j)/\to=cH n k):=by
 have u:∀ k:Nat,k<8->wr .i64 (n.2.2.2.2.2.2.2.1+(k:Int))=n.2.2.2.2.2.2.2.1+(k:Int):=λk M=>aJ (by omega) (by omega)
 have:=cq (step:=λrec a=>Q191.s0 K (n,()) rec a) 8 (λi=>(i:Int)) (gZ n) (some ((-1,()),())) (λj=>some ((cH n j,()),())) ?_ ?_ 8 K 0 (by omega) (by omega)
 ·rcases this with ⟨I,z⟩|⟨j,_,I,R,Z,z⟩
  ·exact⟨-1,z,.inl ⟨rfl,λk M=>I k (BX _) M⟩⟩
  ·exact⟨_,z,.inr ⟨j,I,R,λm hm=>Z m (BX _) hm,rfl⟩⟩
 ·intro rec i Y;simp only[Q191.s0];rw[decide_eq_true (by omega:(i:Int)<=7),u i Y,ar i (by omega)];simp only[cond_true];show (¬ gZ n i/\(bif cH n i != n.1 then ((Q187.f K (aa.table n,cH n i,())).bind λH=>bif H.1.1 then (some ((cH n i,()),())) else (rec ((i+1:Nat):Int))) else (rec ((i+1:Nat):Int)))=rec ((i+1:Nat):Int))\/(gZ n i/\(bif cH n i != n.1 then ((Q187.f K (aa.table n,cH n i,())).bind λH=>bif H.1.1 then (some ((cH n i,()),())) else (rec ((i+1:Nat):Int))) else (rec ((i+1:Nat):Int)))=some ((cH n i,()),()));rw[sM K (aa.table n) (cH n i) h.table h.lt hK];by_cases r:cH n i=n.1
  ·exact .inl ⟨λJ=>J.1 r,by rw[show (cH n i != n.1)=false by simpa using r];rfl⟩
  ·rw[show (cH n i != n.1)=true by simpa using r];cases y:ez (aP (aa.table n) (cH n i)) with
   |true=>exact .inr ⟨⟨r,y⟩,rfl⟩
   |false=>exact .inl ⟨λJ=>(by rw[J.2]at y;cases y),rfl⟩
 ·intro rec;simp only[Q191.s0];rfl
abbrev lw:=Int×ByteArray×Bool
abbrev bQ:=List aa×List lw×List Int×List ag
abbrev bQ.radio (w:bQ):List lw:=w.2.1
abbrev bQ.sides (w:bQ):List Int:=w.2.2.1
abbrev bQ.born (w:bQ):List ag:=w.2.2.2
theorem jb {n:Int}(h:InP n 0 7):am n=n / 4:=by
 obtain⟨r,u⟩:=h;unfold am;rw[Bw r,aJ (by omega) (by omega)]
theorem zR {α:Type}{k:α->Int}{xs:List α}(h:Asc k xs):∀ i (r:i<xs.length),k (xs[0]'(by omega))+i<=k xs[i]:=by
 rw[gJ]at h;intro i;induction i with
 |zero=>intro r;simp
 |succ i y =>
  intro r;have z:=y (by omega);have u:=h (i+1) r (by omega);simp only[Nat.add_sub_cancel]at u;omega
theorem uh {t:List ag}{s:Int}(u:aA t)(y:ca t s):t.length<=4:=by
 cases h:t.length with
 |zero=>omega
 |succ m =>
  have r:m<t.length:=by omega
  have z:0<t.length:=by omega
  have O:=zR u.2 m r;have M:=y _ (BC r);have I:=y _ (BC z);have H:=(u.1 _ (BC r)).1;have J:=(u.1 _ (BC z)).1;rw[jb H]at M;rw[jb J]at I;omega
theorem sU {z:Int}{l:List bY}(u:InP z 0 7)(h:cZ z l):l=[]\/∃ x,l=[x]:=by
 match l,h with
 |[],_=>exact .inl rfl
 |[x],_=>exact .inr ⟨x,rfl⟩
 |x::y::r,h =>
  exfalso;have J:=h.1 x (by simp);have H:=h.1 y (by simp);have O:x.1<y.1:=by
   have:=h.2;unfold Asc at this;rw[BQ]at this;exact this.1 y (by simp)
  have e:=jb u;obtain⟨⟨a1,Z⟩,M,_⟩:=J;obtain⟨⟨Y,b2⟩,I,_⟩:=H;obtain⟨R,X⟩:=u;rw[e]at M I;omega
theorem lx {a:Int}{m:Nat}(u:m<4611686018427387904):0<=bA .i64 a (m:Int)/\bA .i64 a (m:Int)<=m:=by
 have h:(BitVec.ofInt 64 a &&& BitVec.ofInt 64 (m:Int)).toNat<=m:=by
  rw[BitVec.toNat_and];refine Br Nat.and_le_right ?_;rw[BitVec.toNat_ofInt];omega
 show 0<=IntKind.i64.wrap (((BitVec.ofInt 64 a &&& BitVec.ofInt 64 (m:Int)).toNat:Nat):Int)/\IntKind.i64.wrap (((BitVec.ofInt 64 a &&& BitVec.ofInt 64 (m:Int)).toNat:Nat):Int)<=m;generalize (BitVec.ofInt 64 a &&& BitVec.ofInt 64 (m:Int)).toNat=r at h ⊢;rw[C6];omega
def gK (g:List Int)(d:Int):Int:=g.getD (BD (CO (bA .i64 d 255) (g.length:Int))) 0
theorem ip {g:List Int}{d:Int}(h:g≠[]):idx g (CO (bA .i64 d 255) (g.length:Int))=some (gK g d)/\idx g ((BD (CO (bA .i64 d 255) (g.length:Int)):Nat):Int)=some (gK g d)/\gK g d∈g:=by
 have I:0<g.length:=Ce.2 h;have H:=(lx (a:=d) (m:=255) (by omega)).1;have y:0<=CO (bA .i64 d 255) (g.length:Int):=DA _ H;have z:CO (bA .i64 d 255) (g.length:Int)<g.length:=Cx _ (by omega);unfold gK;obtain⟨v,u⟩:=BF y;rw[u]at z ⊢;have r:v<g.length:=by omega
 rw[BE,af r,List.getD_eq_getElem?_getD,BK r];exact⟨rfl,rfl,BC r⟩
def l7 (n:aa)(r d:Int):Int :=
 bif decide (fF (eF (aa.others n) r)≠[])&&bA .i64 d 4==0 then gK (fF (eF (aa.others n) r)) (B4 d (2 ^ 3)) else r*4+bA .i64 (B4 d (2 ^ 3)) 3
structure nN (n:aa):Prop where
 short:(aa.others n).length<=1
 table:∀ x∈aa.others n,aA x.2/\x.2.length<=1048576
theorem AI {r d:Int}(H:0<=r)(z:r<=1):wr .i64 (wr .i64 (r*4)+bA .i64 (B4 d (2 ^ 3)) 3)=r*4+bA .i64 (B4 d (2 ^ 3)) 3:=by
 obtain⟨y,u⟩:=lx (a:=B4 d (2 ^ 3)) (m:=3) (by omega);have y:0<=bA .i64 (B4 d (2 ^ 3)) 3:=y;have u:bA .i64 (B4 d (2 ^ 3)) 3<=3:=u;rw[aJ (n:=r*4) (by omega) (by omega),aJ (by omega) (by omega)]
theorem far_s (K:Nat)(n:aa)(r d:Int)(h:nN n)(J:0<=r)(X:r<=1)(O:1048577<K):Q196.f K (n,r,d,())=some ((l7 n r d,()),()):=by
 obtain⟨k,rfl⟩:∃ k,K=k+2:=⟨K-2,by omega⟩;show Q196.s0 (k+2) (n,r,d,()) (ae (λrec a=>Q196.s0 (k+2) (n,r,d,()) rec a) (k+1)) 0=_;have y:∀ (rec:Int->Option ((Int×Unit)×Unit)) (a:Int),¬ a<(aa.others n).length->Q196.s0 (k+2) (n,r,d,()) rec a=some ((r*4+bA .i64 (B4 d (2 ^ 3)) 3,()),()):=by
  intro rec a R;simp only[Q196.s0];rw[show decide (a<(BB n.2.2.2.2.2.2.2.2.2.2.2.2.2.2:Int))=false from decide_eq_false R,AI J X];rfl
 match z:aa.others n with
 |[] =>
  rw[y _ _ (by rw[z];simp),l7,z];rfl
 |[x] =>
  have M:=h.table x (by rw[z];simp);have u:ae (λrec a=>Q196.s0 (k+2) (n,r,d,()) rec a) (k+1) 1=some ((r*4+bA .i64 (B4 d (2 ^ 3)) 3,()),()):=y _ _ (by rw[z];simp);generalize ae (λrec a=>Q196.s0 (k+2) (n,r,d,()) rec a) (k+1)=rec at u ⊢;simp only[Q196.s0];rw[show decide ((0:Int)<(BB n.2.2.2.2.2.2.2.2.2.2.2.2.2.2:Int))=true from decide_eq_true (by show (0:Int)<((aa.others n).length:Int);rw[z];simp),show idx n.2.2.2.2.2.2.2.2.2.2.2.2.2.2 (0:Int)=some x by show idx (aa.others n) (0:Int)=some x;rw[z];rfl,show wr .i64 ((0:Int)+1)=1 from rfl];simp only[cond_true,BA,u];rw[l7,z];cases I:x.1==r with
  |false =>
   simp only[cond_false,eF,Co,I,List.find?_nil];rfl
  |true =>
   simp only[cond_true,eF,Co,I,C8,C5];rw[uG (k+2) x.2 M.2 O];simp only[BA];by_cases H:fF x.2=[]
   ·rw[H];rfl
   ·have Y:0<(fF x.2).length:=Ce.2 H;rw[decide_eq_true H,decide_eq_true (by omega:((fF x.2).length:Int)>0)];simp only[cond_true,B3];cases bA .i64 d 4==0 with
    |false=>rfl
    |true =>
     simp only[cond_true];rw[decide_eq_false (by omega:¬ ((fF x.2).length:Int)=0),(ip H).1,(ip H).2.1];rfl
 |_::_::_=>exact absurd h.short (by rw[z];simp)
def ly (n:aa):Bool:=decide (n.1∈fF (aa.table n))
theorem yy (K:Nat)(n:aa)(J:(aa.table n).length<=1048576)(M:1048577<K):Q195.f K (n,())=rb (ly n):=by
 simp only[Q195.f,Q195.pre];rw[show Q194.f K (n.2.2.2.2.2.2.2.2.1,2,())=_ from uG K (aa.table n) J M];simp only[BA];have H:=wQ (aa.table n);unfold ly;generalize fF (aa.table n)=g at H ⊢;have:=cq (step:=λrec a=>Q195.s0 K (n,()) rec a) g.length (λi=>(g,(i:Int))) (λj=>∃ h:j<g.length,g[j]=n.1) (rb false) (λ_=>rb true) ?_ ?_ g.length K 0 (by omega) (by omega)
 ·rcases this with ⟨y,u⟩|⟨j,_,y,⟨z,I⟩,_,u⟩
  ·rw[decide_eq_false (λO=>by
    obtain⟨i,r,e⟩:=BJ O;exact y i (BX _) r ⟨r,e⟩)]
   exact u
  ·rw[decide_eq_true (I ▸ BC z:n.1∈g)];exact u
 ·intro rec i r;simp only[Q195.s0];rw[bm (by omega:(i:Int)<(BB g:Int)),af r,ar i (by omega),BE,af r];simp only[cond_true,BA];by_cases h:g[i]=n.1
  ·exact .inr ⟨⟨r,h⟩,by rw[show (g[i]==n.1)=true by simpa using h];rfl⟩
  ·exact .inl ⟨λ⟨_,R⟩=>h R,by rw[show (g[i]==n.1)=false by simpa using h];rfl⟩
 ·intro rec;simp only[Q195.s0,aR];rfl
def wanW (n:aa)(d r:Int):aj:=(2,(nK 6 n (l7 n r d)).2)
def l8 (n:aa)(d:Int):List aj:=bif ly n then (([0,1]:List Int).filter (λs=>s != am n.1)).map (wanW n d) else []
theorem wan_s (K:Nat)(n:aa)(d:Int)(h:nN n)(u:(aa.table n).length<=1048576)(y:1048577<K):Q197.f K (n,d,())=some ((l8 n d,()),()):=by
 simp only[Q197.f,Q197.pre];rw[yy K n u y];simp only[BA,l8];cases ly n with
 |false=>rfl
 |true =>
  simp only[BI,cond_false,cond_true];refine qp (step:=λrec a=>Q197.s0 K (n,d,()) rec a) ([0,1]:List Int) (λs=>s != am n.1) (wanW n d) (λr i=>(r,(i:Int))) (λz=>some ((z,()),())) ?_ ?_ (by simp;omega)
  ·intro rec r i H J;have M:i<2:=H;have I:([0,1]:List Int)[i]=(i:Int):=by
    have:i=0\/i=1:=by omega
    rcases this with rfl|rfl <;> rfl
   simp only[Q197.s0,I];rw[decide_eq_true (by omega:(i:Int)<=1),ar i (by omega),dj K n.1];simp only[cond_true,BA];cases (i:Int) != am n.1 with
   |false=>rfl
   |true =>
    simp only[cond_true];rw[far_s K n (i:Int) d h (by omega) (by omega) y];simp only[BA];refine (congrArg (λo=>BS o _) (nL K n 6 (l7 n (i:Int) d) u)).trans ?_;simp only[BA];rw[szw _ _ _ (by omega) (by simp;omega)];rfl
  ·intro rec r J;simp only[Q197.s0];rfl
def sW (n:aa)(f:ag):Bool:=f.2.2.1 != 4&&f.1 != n.1
def fm (n:aa):List Int:=((aa.table n).filter (sW n)).map (·.1)
def sX (n:aa)(to:Int):List aj:=match aa.others n with
 |[]=>[]
 |x::_=>[(1,6,n.1,to,0,n.1,aa.coord n,x.2)]
def j9 (n:aa)(r:Int):List aj :=
 bif bA .i64 r 3==1 then l8 n (B4 r (2 ^ 2)) else
 bif bA .i64 r 3==3||decide (fm n=[]) then [] else
 bif bA .i64 r 3==0 then [nK 4 n (gK (fm n) (B4 r (2 ^ 2)))] else sX n (gK (fm n) (B4 r (2 ^ 2)))
theorem and3 (a:Int):bA .i64 a 3=0\/bA .i64 a 3=1\/bA .i64 a 3=2\/bA .i64 a 3=3:=by
 obtain⟨r,u⟩:=lx (a:=a) (m:=3) (by omega);have r:0<=bA .i64 a 3:=r;have u:bA .i64 a 3<=3:=u;omega
theorem xc {n:aa}(y:aA (aa.table n)){v:Int}(r:v∈fm n):0<=v:=by
 obtain⟨f,u,rfl⟩:=BZ.1 r;exact (y.1 f (BH.1 u).1).1.1
theorem AJ (K:Nat)(n:aa)(d:Int)(J:(aa.table n).length<=1048576)(M:1048577<K):Q193.f K (n,d,())=some ((bif decide (fm n=[]) then -1 else gK (fm n) d,()),()):=by
 refine (vt (step:=λrec a=>Q193.s0 K (n,d,()) rec a) (aa.table n) (sW n) (λf=>f.1) (λy=>some ((bif decide (y=[]) then -1 else gK y d,()),())) ?_ ?_ (by omega)).trans rfl
 ·intro rec r i z I;simp only[Q193.s0];rw[show decide ((i:Int)<(BB n.2.2.2.2.2.2.2.2.1:Int))=true from bm (by omega:(i:Int)<(BB (aa.table n):Int)),show idx n.2.2.2.2.2.2.2.2.1 (i:Int)=some (aa.table n)[i] from af z,ar i (by omega)];simp only[cond_true,BA,sW];rw[szb _ _ _ (by omega) (by simp;omega)];cases (aa.table n)[i].1 != n.1 <;> cases (aa.table n)[i].2.2.1 != 4 <;> rfl
 ·intro rec r _;simp only[Q193.s0];rw[show decide ((BB (aa.table n):Int)<(BB n.2.2.2.2.2.2.2.2.1:Int))=false from aR _];simp only[cond_false];by_cases u:r=[]
  ·subst u;rfl
  ·have H:0<r.length:=Ce.2 u;rw[show ((r.length:Int)==0)=false by simp;exact u,decide_eq_false (by omega:¬ (r.length:Int)=0),decide_eq_false u,(ip u).1,(ip u).2.1];rfl
theorem AK (K:Nat)(n:aa)(r:Int)(h:nN n)(M:aA (aa.table n))(H:(aa.table n).length<=1048576)(I:1048577<K):Q198.f K (n,r,())=some ((j9 n r,()),()):=by
 simp only[Q198.f];rw[AJ K n _ H I];simp only[BA];rw[wan_s K n _ h H I];simp only[BA,j9];by_cases u:fm n=[]
 ·rw[decide_eq_true u];simp only[cond_true,DD,show decide ((-1:Int)>=0)=false from rfl,cond_false];rcases and3 r with e|e|e|e <;> rw[e] <;> rfl
 ·have O:=xc M (ip (d:=B4 r (2 ^ 2)) u).2.2;rw[decide_eq_false u];simp only[cond_false,Bool.or_false];rw[decide_eq_true (by omega:gK (fm n) (B4 r (2 ^ 2))>=0)];simp only[cond_true];rw[show Q41.f K (n,4,gK (fm n) (B4 r (2 ^ 2)),0,n.1,n.2.2.2.2.2.2.2.2.1,())=_ from nL K n 4 _ H];simp only[BA];rcases and3 r with e|e|e|e
  ·rw[e];rfl
  ·rw[e];rfl
  ·rw[e];simp only[show ((2:Int)==0)=false from rfl,show ((2:Int)==1)=false from rfl,show ((2:Int)==2)=true from rfl,show ((2:Int)==3)=false from rfl,cond_false,cond_true];unfold sX
   match y:aa.others n with
   |[] =>
    rw[show decide ((BB n.2.2.2.2.2.2.2.2.2.2.2.2.2.2:Int)>0)=false by show decide (((aa.others n).length:Int)>0)=false;rw[y];rfl];rfl
   |[x] =>
    have J:=h.table x (by rw[y];simp);have z:(aa.others n).length=1:=by rw[y];rfl
    rw[show decide ((BB n.2.2.2.2.2.2.2.2.2.2.2.2.2.2:Int)>0)=true by show decide (((aa.others n).length:Int)>0)=true;rw[z];rfl,show decide ((BB n.2.2.2.2.2.2.2.2.2.2.2.2.2.2:Int)=0)=false by show decide (((aa.others n).length:Int)=0)=false;rw[z];rfl];simp only[cond_true,cond_false];rw[show idx n.2.2.2.2.2.2.2.2.2.2.2.2.2.2 (CO (bA .i64 (B4 r (2 ^ 10)) 255) (BB n.2.2.2.2.2.2.2.2.2.2.2.2.2.2:Int))=some x by
     show idx (aa.others n) (CO (bA .i64 (B4 r (2 ^ 10)) 255) ((aa.others n).length:Int))=some x;rw[z,y,show ((1:Nat):Int)=1 from rfl,Int.tmod_one];rfl]
    simp only[BA,Q41.f];rw[szb _ _ _ (by omega) (by have:=J.2;simp;omega)];rfl
   |_::_::_=>exact absurd h.short (by rw[y];simp)
  ·rw[e];rfl
def rk (f:ag):Int:=f.2.1*16+f.2.2.1*2+(if f.2.2.2=true then 1 else 0)
theorem qs {f g:ag}(r:bk f)(u:bk g):bI f g<->rk g<rk f:=by
 obtain⟨_,_,y,z⟩:=r;obtain⟨_,_,H,I⟩:=u;unfold bI rk;by_cases a:f.2.1=g.2.1
 ·rw[if_neg (by simpa using a)];by_cases c:f.2.2.1=g.2.2.1
  ·rw[if_neg (by simpa using c),a,c];cases f.2.2.2 <;> cases g.2.2.2 <;> simp <;> omega
  ·rw[if_pos c];cases f.2.2.2 <;> cases g.2.2.2 <;> simp <;> omega
 ·rw[if_pos a];cases f.2.2.2 <;> cases g.2.2.2 <;> simp <;> omega
theorem od {t:List ag}(z:Asc (λg:ag=>g.1) t)(f:ag):bR t f=(t,false)\/(bR t f=(bu (λg=>g.1) f t,true)/\∀ g∈t,g.1=f.1->bI f g):=by
 by_cases h:∃ g∈t,g.1=f.1
 ·obtain⟨g,r,e⟩:=h;obtain⟨i,J,rfl⟩:=BJ r;rw[kh z J e];by_cases y:bI f t[i]
  ·rw[if_pos y];refine .inr ⟨rfl,λM u I=>?_⟩;rw[ig z u r (by rw[e,I])];exact y
  ·rw[if_neg y];exact .inl rfl
 ·have H:∀ g∈t,g.1≠f.1:=λg r e=>h ⟨g,r,e⟩
  exact .inr ⟨ij H,λg r e=>absurd e (H g r)⟩
theorem oe {n:aa}(X:aA (aa.table n)):iB n<->(∀ d∈aa.doubts n,lr n d)/\Asc (λd:bN=>d.1) (aa.doubts n)/\∀ f∈aa.table n,f.2.2.1=2->∃ d∈aa.doubts n,d.1=f.1:=by
 have I:((aT (aa.table n)).map (λf:ag=>f.1)).Pairwise (·<·):=by
  rw[Bs];exact CM _ X.2
 constructor
 ·rintro⟨h1,h2,h3⟩;refine⟨h1,h2,λf z u=>?_⟩;have r:((aa.doubts n).map (λd:bN=>d.1)).Pairwise (·<·):=by rw[Bs];exact h2
  have:=(i8 _ _ r I (λx y=>by
   obtain⟨d,r,rfl⟩:=BZ.1 y;obtain⟨⟨g,M,e,H,_⟩,_⟩:=h1 d r;exact BZ.2 ⟨g,BH.2 ⟨M,by simpa using H⟩,e⟩)).2 (by rw[BU,BU,h3])
  have O:f.1∈(aT (aa.table n)).map (λf:ag=>f.1):=BZ.2 ⟨f,BH.2 ⟨z,by simpa using u⟩,rfl⟩;rw[<- this]at O;obtain⟨d,r,e⟩:=BZ.1 O;exact⟨d,r,e⟩
 ·rintro⟨h1,h2,h3⟩;refine⟨h1,h2,?_⟩;have r:((aa.doubts n).map (λd:bN=>d.1)).Pairwise (·<·):=by rw[Bs];exact h2
  have R:=(i8 _ _ r I (λx y=>by
   obtain⟨d,r,rfl⟩:=BZ.1 y;obtain⟨⟨g,M,e,H,_⟩,_⟩:=h1 d r;exact BZ.2 ⟨g,BH.2 ⟨M,by simpa using H⟩,e⟩)).1
  have Y:=(i8 _ _ I r (λx y=>by
   obtain⟨f,z,rfl⟩:=BZ.1 y;obtain⟨J,u⟩:=BH.1 z;obtain⟨d,r,e⟩:=h3 f J (by simpa using u);exact BZ.2 ⟨d,r,e⟩)).1
  rw[BU,BU]at R Y;omega
def cg (n:aa):Int:=n.2.2.2.2.2.1
def fp (n:aa)(b:Int):Prop:=InP b 0 7/\am b=am n.1
theorem oh {n:aa}(r:Asc (λg:ag=>g.1) (aa.table n))(f:ag)(b:Int):sayOf n f b=n \/
  (sayOf n f b=fU n (bu (λg=>g.1) f (aa.table n)) (dq (aa.cast n) f) (bif jS n f then aa.doubts n else cN (cg n) (aa.doubts n) f b)/\∀ g∈aa.table n,g.1=f.1->bI f g):=by
 rcases od r f with h|⟨h,u⟩
 ·left;unfold sayOf;rw[h];rfl
 ·right;refine⟨?_,u⟩;unfold sayOf;rw[h];rfl
theorem vH {n:aa}{f:ag}{b:Int}(X:aA (aa.table n))(hD:iB n)(hf:bk f)(hb:fp n b)(hn:0<=cg n)(c:List aL) :
  iB (fU n (bu (λg=>g.1) f (aa.table n)) c (bif jS n f then aa.doubts n else cN (cg n) (aa.doubts n) f b)):=by
 obtain⟨h1,h2,h3⟩:=(oe X).1 hD;have Z:aA (bu (λg:ag=>g.1) f (aa.table n)):=⟨λg y=>by
  rcases aY.1 y with rfl|⟨y,_⟩
  ·exact hf
  ·exact X.1 g y,eZ X.2⟩
 refine (oe (n:=fU n _ c _) Z).2 ?_;have J:∀ d∈aa.doubts n,d.1≠f.1->∀ ds,lr (fU n (bu (λg:ag=>g.1) f (aa.table n)) c ds) d:=λd z u ds=>by
  obtain⟨⟨g,y,O,R,Y⟩,r⟩:=h1 d z;exact⟨⟨g,aY.2 (.inr ⟨y,by rw[O];exact u⟩),O,R,Y⟩,r⟩
 have I:∀ g∈bu (λg:ag=>g.1) f (aa.table n),g.1≠f.1->g.2.2.1=2->∃ d∈aa.doubts n,d.1=g.1:=λg y u h=>by
  rcases aY.1 y with rfl|⟨y,_⟩
  ·exact absurd rfl u
  ·exact h3 g y h
 cases hs:jS n f with
 |true =>
  obtain⟨g0,M,s1,s2,s3⟩:=of_decide_eq_true hs;refine⟨λd z=>?_,h2,λg y h=>?_⟩
  ·by_cases u:d.1=f.1
   ·obtain⟨⟨g,y,O,R,Y⟩,r⟩:=h1 d z;rw[ig X.2 y M (by rw[O,s1,u])]at R Y;exact⟨⟨f,aY.2 (.inl rfl),u.symm,by rw[<- s3];exact R,by rw[<- s2];exact Y⟩,r⟩
   ·exact J d z u _
  ·by_cases u:g.1=f.1
   ·have a0:g=f:=by
     rcases aY.1 y with h|⟨_,h⟩
     ·exact h
     ·exact absurd u h
    rw[a0]at h ⊢;obtain⟨d,z,e⟩:=h3 g0 M (by rw[s3];exact h);exact⟨d,z,by rw[e,s1]⟩
   ·exact I g y u h
 |false =>
  by_cases H:f.2.2.1=2
  ·have e:cN (cg n) (aa.doubts n) f b=bu (λd=>d.1) (mkD (cg n) f b) (aa.doubts n):=by unfold cN;rw[if_pos H]
   simp only[cond_false];rw[e];refine⟨λd z=>?_,eZ h2,λg y h=>?_⟩
   ·rcases aY.1 z with rfl|⟨z,u⟩
    ·exact⟨⟨f,aY.2 (.inl rfl),rfl,H,rfl⟩,⟨hn,B7 _⟩,List.cons_ne_nil _ _,λx hx=>by rw[Bt.1 hx];exact hb,Cl _ _⟩
    ·exact J d z u _
   ·by_cases u:g.1=f.1
    ·exact⟨mkD (cg n) f b,aY.2 (.inl rfl),u.symm⟩
    ·obtain⟨d,z,e⟩:=I g y u h;exact⟨d,aY.2 (.inr ⟨z,λe'=>u (e.symm.trans e')⟩),e⟩
  ·have e:cN (cg n) (aa.doubts n) f b=(aa.doubts n).filter (λd=>!(d.1==f.1)):=by unfold cN;rw[if_neg H]
   simp only[cond_false];rw[e];refine⟨λd z=>?_,lW h2 _,λg y h=>?_⟩
   ·obtain⟨z,u⟩:=BH.1 z;exact J d z (by simpa using u) _
   ·have u:g.1≠f.1:=λu=>by
     rcases aY.1 y with h'|⟨_,h'⟩
     ·rw[h']at h;exact H h
     ·exact h' u
    obtain⟨d,z,e⟩:=I g y u h;exact⟨d,BH.2 ⟨z,by rw[e];simpa using u⟩,e⟩
theorem vI {n:aa}{f:ag}(O:aA (aa.table n))(Y:cQ (aa.cast n))(R:gR (aa.table n) (aa.cast n))(M:bk f)(X:∀ g∈aa.table n,g.1=f.1->bI f g) :
  gR (bu (λg=>g.1) f (aa.table n)) (dq (aa.cast n) f):=by
 have z:∀ x∈aa.cast n,∃ g∈bu (λg:ag=>g.1) f (aa.table n),g.1=x.1.1/\¬ bI x.1 g:=λx r=>by
  obtain⟨g,J,e,y⟩:=R x r;by_cases u:g.1=f.1
  ·refine⟨f,aY.2 (.inl rfl),by rw[<- e,u],λh=>y ?_⟩;have I:=(Y.1 x r).1;have H:=O.1 g J;have:=X g J u;rw[qs M H]at this;rw[qs I M]at h;rw[qs I H];omega
  ·exact⟨g,aY.2 (.inr ⟨J,u⟩),e,y⟩
 intro x r;unfold dq at r;split at r
 ·exact z x r
 ·rcases aY.1 r with rfl|⟨r,_⟩
  ·exact⟨f,aY.2 (.inl rfl),rfl,xb f⟩
  ·exact z x r
structure UpX (n:aa):Prop where
 me:InP n.1 0 7
 now0:0<=cg n
 table:aA (aa.table n)
 site:ca (aa.table n) (am n.1)
 cast:cQ (aa.cast n)
 vs:gR (aa.table n) (aa.cast n)
 probe:cY n
 doubts:iB n
 coord:cG (aa.coord n)
 places:er n.1 (aa.places n)
 others:cZ n.1 (aa.others n)
theorem UpX.of {n:aa}(h:UpP n)(z:InP n.1 0 7)(O:0<=cg n):UpX n:=by
 obtain⟨X,M,_,⟨H,I⟩,J,R,u,r,y⟩:=h;exact⟨z,O,X,M,H,I,J,R,u,r,y⟩
theorem UpX.up {n:aa}(h:UpX n)(r:da n):UpP n:=⟨h.table,h.site,r,⟨h.cast,h.vs⟩,h.probe,h.doubts,h.coord,h.places,h.others⟩
theorem UpX.say {n:aa}(h:UpX n):cr n:=by
 refine cr.mk' h.table h.cast h.doubts.2.1 λd u=>?_
 obtain⟨f,r,e,_⟩:=(h.doubts.1 d u).1;rw[<- e];exact (h.table.1 f r).1
theorem fp.me {n:aa}(h:InP n.1 0 7):fp n n.1:=⟨h,rfl⟩
theorem qY {n m:aa}(h:cY n)(Y:m.1=n.1)(R:aa.probe m=aa.probe n)(M:∀ g∈aa.table n,∃ r∈aa.table m,r.1=g.1)(X:cg n<=cg m)(I:n.2.2.2.2.2.2.1<=m.2.2.2.2.2.2.1):cY m:=by
 unfold cY at h ⊢;rw[R,Y];split at h
 ·rename_i y;rw[if_pos y];exact h
 ·rename_i y;rw[if_neg y];obtain⟨z,⟨g,hg,eg⟩,⟨O,Z⟩,⟨J,H⟩⟩:=h;obtain⟨r,u,e'⟩:=M g hg;exact⟨z,⟨r,u,e'.trans eg⟩,⟨O,CW Z X⟩,⟨J,CW H I⟩⟩
theorem UpX.said {n:aa}{f:ag}{b:Int}(h:UpX n)(u:bk f)(H:am f.1=am n.1)(z:fp n b):UpX (sayOf n f b):=by
 rcases oh h.table.2 f b with e|⟨e,I⟩
 ·rw[e];exact h
 ·have y:=λg r=>jy (n:=n) (f:=f) (b:=b) (g:=g) r
  rw[e]at y ⊢;refine⟨h.me,h.now0,⟨λg r=>?_,eZ h.table.2⟩,λg r=>?_,pG h.cast u,vI h.table h.cast h.vs u I,qY h.probe rfl rfl y (B7 _) (B7 _),vH h.table h.doubts u z h.now0 _,h.coord,h.places,h.others⟩
  ·rcases aY.1 r with rfl|⟨r,_⟩
   ·exact u
   ·exact h.table.1 g r
  ·rcases aY.1 r with rfl|⟨r,_⟩
   ·exact H
   ·exact h.site g r
theorem xd {n:aa}(u:Asc (λg:ag=>g.1) (aa.table n)){f g:ag}{b:Int}(r:g.1≠f.1):g∈aa.table (sayOf n f b)<->g∈aa.table n:=by
 rcases oh u f b with e|⟨e,_⟩
 ·rw[e]
 ·rw[e];exact aY.trans ⟨λh=>h.elim (λh=>absurd (by rw[h]) r) (·.1),λh=>.inr ⟨h,r⟩⟩
theorem qZ {n:aa}(u:Asc (λg:ag=>g.1) (aa.table n)){f:ag}{b:Int}(h:∀ g∈aa.table n,g.1=f.1->bI f g):f∈aa.table (sayOf n f b):=by
 have H:bR (aa.table n) f=(bu (λg=>g.1) f (aa.table n),true):=by
  rcases od u f with e|⟨e,_⟩
  ·by_cases y:∃ g∈aa.table n,g.1=f.1
   ·obtain⟨g,r,z⟩:=y;obtain⟨i,I,rfl⟩:=BJ r;rw[kh u I z,if_pos (h _ r z)]
   ·exact ij λg r e=>y ⟨g,r,e⟩
  ·exact e
 unfold Go.Proofs.YtaelpfghkndliaaGreatEv.sayOf;rw[H];exact aY.2 (.inl rfl)
def OnN (n m:aa):Prop:=∃ t c r,m=fU n t c r
theorem OnN.refl (n:aa):OnN n n:=⟨_,_,_,rfl⟩
theorem OnN.say {n m:aa}(h:OnN n m)(f:ag)(b:Int):OnN n (Go.Proofs.YtaelpfghkndliaaGreatEv.sayOf m f b):=by
 obtain⟨t,c,u,rfl⟩:=h;obtain⟨y,z,r,e,_⟩:=iD (fU n t c u) f b;exact⟨y,z,r,e⟩
def l9 (n:aa):ag:=(n.1,n.2.2.2.2.1,(if n.2.2.1=true then 4 else 1),n.2.2.2.1)
theorem oX {n m:aa}(z:Asc (λg:ag=>g.1) (aa.table m))(y:OnN n m){f:ag}{b:Int}(r:f.1≠n.1)(h:da m):da (sayOf m f b):=by
 obtain⟨t,c,O,e⟩:=y.say f b;obtain⟨R,M,J,I⟩:=y;have H:l9 n∈aa.table m:=by rw[I]at h ⊢;exact h
 have u:=(xd z (f:=f) (b:=b) (g:=l9 n) (λh=>r h.symm)).2 H;rw[e]at u ⊢;exact u
theorem yz {n:aa}(h:UpX n)(z:da n){d:bN}(I:d∈aa.doubts n):d.1≠n.1:=by
 obtain⟨⟨g,y,e,r,_⟩,_⟩:=h.doubts.1 d I;intro H;have u:l9 n∈aa.table n:=z;have:=ig h.table.2 y u (by rw[e,H];rfl);rw[this]at r;revert r;show (if n.2.2.1=true then (4:Int) else 1)=2->False;split <;> omega
theorem mR {n:aa}(h:UpX n)(hs:da n):UpX (kk n)/\da (kk n)/\OnN n (kk n):=by
 have:=lX (st:=il) (Inv:=λm=>(UpX m/\da m/\OnN n m)/\∀ g∈aa.table n,∃ z∈aa.table m,z.1=g.1) (ds:=aa.doubts n) (n:=n) ⟨⟨h,hs,OnN.refl n⟩,λg u=>⟨g,u,rfl⟩⟩ ?_
 ·exact this.1
 ·rintro m d Z ⟨⟨r,y,M⟩,X⟩;have J:=yz h hs Z;unfold il;cases qq m.2.2.2.2.2.1 d.2.2.1 d.2.2.2.length with
  |false=>exact⟨⟨r,y,M⟩,X⟩
  |true =>
   obtain⟨⟨g,u,e,_⟩,_⟩:=h.doubts.1 d Z;obtain⟨z,I,e'⟩:=X g u;obtain⟨h1,h2,h3⟩:=ek r.table ⟨z,I,e'.trans e⟩;have Y:am (kD (aP (aa.table m) d.1)).1=am m.1:=by
    show am (aP (aa.table m) d.1).1=am m.1;exact r.site _ h3
   have H:(kD (aP (aa.table m) d.1)).1≠n.1:=by rw[show (kD (aP (aa.table m) d.1)).1=_ from h2];exact J
   refine⟨⟨r.said (uI h1) Y (fp.me r.me),oX r.table.2 M H y,M.say _ _⟩,λg u=>?_⟩;obtain⟨g1,O,e1⟩:=X g u;obtain⟨g2,R,e2⟩:=jy (f:=kD (aP (aa.table m) d.1)) (b:=m.1) O;exact⟨g2,R,e2.trans e1⟩
theorem UpX.setProbe {n:aa}(h:UpX n){p:ag}(r:cY (setP n p)):UpX (setP n p):=⟨h.me,h.now0,h.table,h.site,h.cast,h.vs,r,h.doubts,h.coord,h.places,h.others⟩
theorem xe (n:aa):cY (setP n noP):=by
 unfold cY;exact (if_pos rfl).mpr rfl
theorem xf {n:aa}(h:UpX n)(z:da n):UpX (dk n).1/\da (dk n).1/\∃ p,OnN (setP n p) (dk n).1:=by
 have r:UpX n/\da n/\∃ p,OnN (setP n p) n:=⟨h,z,aa.probe n,OnN.refl n⟩;have y:UpX (setP n noP):=h.setProbe (xe n);unfold dk;cases X:(aa.probe n).1==-1 with
 |true=>exact r
 |false =>
  have H:(aa.probe n).1≠-1:=by simpa using X
  have u:=h.probe;unfold cY at u;rw[if_neg H]at u;simp only[cond_false];cases M:ez (aP (aa.table n) (aa.probe n).1) with
  |false=>exact⟨y,z,_,OnN.refl _⟩
  |true =>
   obtain⟨J,O,R⟩:=ek h.table (gU M);simp only[BI,cond_false];cases decide (n.2.2.2.2.2.1-(aa.probe n).2.1>=4) with
   |true =>
    simp only[cond_true];cases (aP (aa.table n) (aa.probe n).1).2.2.1==1 with
    |true =>
     have I:am (pI (aP (aa.table n) (aa.probe n).1)).1=am (setP n noP).1:=by
      show am (aP (aa.table n) (aa.probe n).1).1=am n.1;exact h.site _ R
     refine⟨y.said (zL J) I (fp.me (n:=setP n noP) h.me),oX (n:=setP n noP) (m:=setP n noP) h.table.2 (OnN.refl (setP n noP)) ?_ z,noP,(OnN.refl (setP n noP)).say _ _⟩;rw[show (pI (aP (aa.table n) (aa.probe n).1)).1=_ from O];exact u.1
    |false=>exact⟨y,z,_,OnN.refl _⟩
   |false =>
    simp only[cond_false];cases decide (n.2.2.2.2.2.1-(aa.probe n).2.1>=2) with
    |false=>exact r
    |true =>
     simp only[cond_true];cases (aa.probe n).2.2.2 with
     |true=>exact r
     |false =>
      refine⟨h.setProbe ?_,z,_,OnN.refl _⟩;show cY (lv n);unfold cY;rw[if_neg (show ¬ (aa.probe (lv n)).1=-1 from H)];exact u
def iQ (n:aa):Option Int:=((List.range 8).map (cH n)).find? λx=>x != n.1&&ez (aP (aa.table n) x)
def jG (n:aa):Int:=n.2.2.2.2.2.2.1
def dR (n:aa):aa×List aj:=bif decide (jG n>=999999) then (n,[]) else match iQ n with
 |some to=>(askN n to,[pingW n to])
 |none=>(n,[])
theorem q8 {n:aa}{to:Int}(h:iQ n=some to):to≠n.1/\ez (aP (aa.table n) to)=true:=by
 have:=Cp h;simpa using this
theorem xg {l:List aL}{T:List Int}{x:aL}(h:x∈dA l T l.length):∃ y∈l,x.1=y.1:=by
 unfold dA at h;obtain⟨u,_⟩:=BH.1 h;obtain⟨i,r,rfl⟩:=BJ u;rw[eB]at r;rw[e8 l T r];refine⟨l[i],BC r,?_⟩;unfold dM;rw[ct r];cases decide ((i:Int)∈T) <;> rfl
theorem UpX.way {n:aa}(h:UpX n):UpX (iP n):=⟨h.me,h.now0,h.table,h.site,yx h.cast _,λx z=>by
 obtain⟨y,I,e⟩:=xg z;obtain⟨g,H,r,u⟩:=h.vs y I;exact⟨g,H,by rw[e,r],by rw[e];exact u⟩,h.probe,h.doubts,h.coord,h.places,h.others⟩
structure sY (n:aa):Prop where
 seq:InP (jG n) 0 999999
 turn:InP n.2.2.2.2.2.2.2.1 0 8
theorem AL {n:aa}(h:UpX n)(z:da n)(u:sY n):UpX (dR n).1/\da (dR n).1/\sY (dR n).1/\(dR n).1.1=n.1/\cg (dR n).1=cg n/\(dR n).1.2.2.2.2.1=n.2.2.2.2.1:=by
 unfold dR;by_cases H:jG n>=999999
 ·rw[decide_eq_true H];exact⟨h,z,u,rfl,rfl,rfl⟩
 ·rw[decide_eq_false H];simp only[cond_false];cases R:iQ n with
  |none=>exact⟨h,z,u,rfl,rfl,rfl⟩
  |some to =>
   obtain⟨y,M⟩:=q8 R;obtain⟨O,I,X⟩:=ek h.table (gU M);obtain⟨⟨Y,Z⟩,_⟩:=u;have r:InP to 0 7:=I ▸ O.1;have J:=h.way;refine⟨⟨h.me,h.now0,h.table,h.site,J.cast,J.vs,?_,h.doubts,h.coord,h.places,h.others⟩,z,⟨⟨show 0<=jG n+1 by omega,show jG n+1<=999999 by omega⟩,show 0<=to+1 by have:=r.1;omega,show to+1<=8 by have:=r.2;omega⟩,rfl,rfl,rfl⟩;show cY (askN n to);unfold cY;rw[if_neg (show ¬ (aa.probe (askN n to)).1=-1 by have:=r.1;show ¬ to=-1;omega)];exact⟨y,⟨_,X,I⟩,⟨h.now0,B7 _⟩,show 1<=jG n+1 by omega,B7 _⟩
def d6 (n:aa):aa:=(n.1,n.2.1,n.2.2.1,n.2.2.2.1,n.2.2.2.2.1,n.2.2.2.2.2.1+1,n.2.2.2.2.2.2)
def fq (m:aa):aa×List aj:=bif (aa.probe m).1==-1 then dR m else (m,[])
def ft (n:aa):aa×List aj:=dk (kk (d6 n))
def kE (n:aa):aa:=(fq (ft n).1).1
def pL (n:aa)(r:Int):List aj:=(ft n).2++(fq (ft n).1).2++j9 (kE n) r
theorem UpX.later {n:aa}(h:UpX n):UpX (d6 n):=by
 have J:cg (d6 n)=cg n+1:=rfl;have M:=h.now0;refine⟨h.me,by omega,h.table,h.site,h.cast,h.vs,qY h.probe rfl rfl (λg z=>⟨g,z,rfl⟩) (by omega) (B7 _),⟨λd I=>?_,h.doubts.2⟩,h.coord,h.places,h.others⟩;obtain⟨r,⟨u,y⟩,H⟩:=h.doubts.1 d I;exact⟨r,⟨u,CW y (show cg n<=cg (d6 n) by omega)⟩,H⟩
structure UpN (n:aa):Prop where
 x:UpX n
 self:da n
 now1:cg n<=999999
 seq:sY n
 inc:InP n.2.2.2.2.1 0 999
 up:n.2.1=true
theorem UpN.of {n:aa}(h:fE n)(u:n.2.1=true):UpN n:=by
 obtain⟨z,y,H,J,I,r⟩:=h;rw[if_pos u]at r;exact⟨UpX.of r z y.1,r.2.2.1,y.2,⟨H,J⟩,I,u⟩
theorem UpN.ok {n:aa}(h:UpN n):fE n:=⟨h.x.me,⟨h.x.now0,h.now1⟩,h.seq.seq,h.seq.turn,h.inc,by rw[if_pos h.up];exact h.x.up h.self⟩
theorem pM {n:aa}(h:UpN n)(Z:cg n<999999):UpN (ft n).1/\(ft n).1.1=n.1/\(ft n).1.2.2.1=n.2.2.1:=by
 have H:da (d6 n):=h.self;obtain⟨J,R,I⟩:=mR h.x.later H;obtain⟨r,y,p,z⟩:=xf J R;obtain⟨t,c,Y,M⟩:=I;obtain⟨t',X,O,u⟩:=z;have e:(ft n).1=_:=u;rw[M]at e;refine⟨⟨r,y,?_,⟨?_,?_⟩,?_,?_⟩,?_,?_⟩
 ·show cg (ft n).1<=999999;rw[e];show cg n+1<=999999;omega
 ·show InP (jG (ft n).1) 0 999999;rw[e];exact h.seq.seq
 ·show InP (ft n).1.2.2.2.2.2.2.2.1 0 8;rw[e];exact h.seq.turn
 ·show InP (ft n).1.2.2.2.2.1 0 999;rw[e];exact h.inc
 ·show (ft n).1.2.1=true;rw[e];exact h.up
 ·rw[e];rfl
 ·rw[e];rfl
theorem sZ {m:aa}:(dR m).1.2.1=m.2.1/\(dR m).1.2.2.1=m.2.2.1:=by
 unfold dR;cases decide (jG m>=999999) with
 |true=>exact⟨rfl,rfl⟩
 |false =>
  cases iQ m with
  |none=>exact⟨rfl,rfl⟩
  |some to=>exact⟨rfl,rfl⟩
theorem vJ {m:aa}(h:UpN m):UpN (fq m).1/\(fq m).1.1=m.1/\(fq m).1.2.2.1=m.2.2.1:=by
 unfold fq;cases (aa.probe m).1==-1 with
 |false=>exact⟨h,rfl,rfl⟩
 |true =>
  obtain⟨I,u,z,r,y,H⟩:=AL h.x h.self h.seq;refine⟨⟨I,u,?_,z,?_,?_⟩,r,sZ.2⟩
  ·show cg (dR m).1<=999999;rw[y];exact h.now1
  ·show InP (dR m).1.2.2.2.2.1 0 999;rw[H];exact h.inc
  ·show (dR m).1.2.1=true;rw[sZ.1];exact h.up
theorem qt {n:aa}(h:UpN n)(r:cg n<999999):UpN (kE n)/\(kE n).1=n.1/\(kE n).2.2.1=n.2.2.1:=by
 obtain⟨u,y,H⟩:=pM h r;obtain⟨J,I,z⟩:=vJ u;exact⟨J,I.trans y,z.trans H⟩
theorem yA {f g:ag}(h:g.2.1<f.2.1):bI f g:=by
 unfold bI;rw[if_pos (by omega)];exact h
theorem zS {f g:ag}(h:bI f g):g.2.1<=f.2.1:=by
 unfold bI at h;split at h <;> omega
theorem UpX.inc {n:aa}(h:UpX n)(i:Int):UpX (gq n i):=⟨h.me,h.now0,h.table,h.site,h.cast,h.vs,h.probe,h.doubts,h.coord,h.places,h.others⟩
theorem q9 {n:aa}(h:UpX n)(u:da n){g:ag}(r:g∈aa.table n)(e:g.1=n.1):g=l9 n:=ig h.table.2 r u (by rw[e];rfl)
theorem xh {n:aa}(h:UpX n)(r:da n):aP (aa.table n) n.1=l9 n:=jv h.table.2 (f:=l9 n) r
theorem yB {n:aa}(h:UpN n)(H:n.2.2.1=false):UpN (mL n)/\(mL n).1=n.1:=by
 have z:bk (n.1,n.2.2.2.2.1,4,n.2.2.2.1):=⟨h.x.me,h.inc,show (1:Int)<=4 by omega,show (4:Int)<=4 by omega⟩;have r:=h.x.said z rfl (fp.me h.x.me);have y:(n.1,n.2.2.2.2.1,(4:Int),n.2.2.2.1)∈aa.table (sayOf n (n.1,n.2.2.2.2.1,4,n.2.2.2.1) n.1):=qZ h.x.table.2 λg u e=>by
  rw[q9 h.x h.self u e];unfold bI l9;rw[H];simp
 obtain⟨t,c,I,e⟩:=(OnN.refl n).say (n.1,n.2.2.2.2.1,4,n.2.2.2.1) n.1;unfold mL;rw[e]at r y ⊢;exact⟨⟨⟨r.me,r.now0,r.table,r.site,r.cast,r.vs,r.probe,r.doubts,r.coord,r.places,r.others⟩,y,h.now1,⟨h.seq.seq,h.seq.turn⟩,h.inc,h.up⟩,rfl⟩
theorem xi {n:aa}{f:ag}(h:UpN n)(y:n.2.2.1=false)(J:bk f):UpN (eA n f)/\(eA n f).1=n.1/\(eA n f).2.2.1=false:=by
 unfold eA;cases H:decide (bI f (aP (aa.table n) n.1))&&decide (f.2.1<999) with
 |false=>exact⟨h,rfl,y⟩
 |true =>
  rw[B8,decide_eq_true_eq,decide_eq_true_eq,xh h.x h.self]at H;obtain⟨R,X⟩:=H;have O:n.2.2.2.2.1<=f.2.1:=zS R;have r:=qr (n:=n) h.x.me J X;have z:UpX (sayOf (gq n (f.2.1+1)) (n.1,f.2.1+1,1,n.2.2.2.1) n.1):=(h.x.inc (f.2.1+1)).said r rfl (fp.me (n:=gq n (f.2.1+1)) h.x.me);have I:(n.1,f.2.1+1,(1:Int),n.2.2.2.1)∈aa.table (sayOf (gq n (f.2.1+1)) (n.1,f.2.1+1,1,n.2.2.2.1) n.1):=qZ (n:=gq n (f.2.1+1)) h.x.table.2 λg u e=>by
   rw[q9 h.x h.self u e];exact yA (show n.2.2.2.2.1<f.2.1+1 by omega)
  obtain⟨t,c,M,e⟩:=(OnN.refl (gq n (f.2.1+1))).say (n.1,f.2.1+1,1,n.2.2.2.1) n.1;simp only[cond_true];rw[show sayOf (gq n (f.2.1+1)) (n.1,f.2.1+1,1,n.2.2.2.1) n.1=fU (gq n (f.2.1+1)) t c M from e]at z I ⊢;refine⟨⟨z,?_,h.now1,⟨h.seq.seq,h.seq.turn⟩,r.2.1,h.up⟩,rfl,y⟩;show (n.1,f.2.1+1,(if n.2.2.1=true then (4:Int) else 1),n.2.2.2.1)∈_;rw[y];exact I
theorem mS (f:ag)(b:Int)(d:bN):(dK f b d).1=d.1/\(dK f b d).2.1=d.2.1/\(dK f b d).2.2.1=d.2.2.1:=by
 unfold dK;cases d.1==f.1&&d.2.1==f.2.1&&f.2.2.1==2 <;> exact⟨rfl,rfl,rfl⟩
theorem UpX.conf {n:aa}(h:UpX n)(f:ag){b:Int}(J:fp n b):UpX (jz n f b):=by
 refine⟨h.me,h.now0,h.table,h.site,h.cast,h.vs,h.probe,⟨λd O=>?_,?_,?_⟩,h.coord,h.places,h.others⟩
 ·obtain⟨r,z,rfl⟩:=BZ.1 O;obtain⟨Z,M,k3⟩:=mS f b r;obtain⟨⟨g,hg,H,X,Y⟩,R,I,y⟩:=h.doubts.1 r z;refine⟨⟨g,hg,by rw[Z];exact H,X,by rw[M];exact Y⟩,by rw[k3];exact R,?_⟩;unfold dK;cases r.1==f.1&&r.2.1==f.2.1&&f.2.2.1==2 with
  |false=>exact⟨I,y⟩
  |true =>
   refine⟨List.ne_nil_of_mem (aY.2 (.inl rfl)),λx u=>?_,eZ y.2⟩;rcases aY.1 u with rfl|⟨u,_⟩
   ·exact J
   ·exact y.1 x u
 ·show Asc _ ((aa.doubts n).map (dK f b));unfold Asc;rw[Bs];exact h.doubts.2.1.imp λ {a c} h=>by show (dK f b a).1<(dK f b c).1;rw[(mS f b a).1,(mS f b c).1];exact h
 ·show _=((aa.doubts n).map (dK f b)).length;rw[BU];exact h.doubts.2.2
theorem ta {n:aa}{f:ag}{b:Int}(h:UpN n)(z:n.2.2.1=false)(y:bk f)(M:am f.1=am n.1)(H:fp n b):UpN (du b n f)/\(du b n f).1=n.1/\(du b n f).2.2.1=false:=by
 unfold du;by_cases r:f.1=n.1
 ·rw[show (f.1==n.1)=true by simpa using r];exact xi h z y
 ·rw[show (f.1==n.1)=false by simpa using r];have I:=h.x.said y M H;have u:=oX h.x.table.2 (OnN.refl n) (b:=b) r h.self;obtain⟨t,c,J,e⟩:=(OnN.refl n).say f b;simp only[cond_false];rw[show sayOf n f b=fU n t c J from e]at I u ⊢;exact⟨⟨I.conf f H,u,h.now1,⟨h.seq.seq,h.seq.turn⟩,h.inc,h.up⟩,rfl,z⟩
theorem kl {n:aa}{t:List ag}{b:Int}(h:UpN n)(I:n.2.2.1=false)(M:aA t)(J:ca t (am n.1))(y:fp n b):UpN (dQ n t b)/\(dQ n t b).1=n.1/\(dQ n t b).2.2.1=false:=by
 refine lX (st:=du b) (Inv:=λm=>UpN m/\m.1=n.1/\m.2.2.1=false) (ds:=t) (n:=n) ⟨h,rfl,I⟩ λm f u ⟨z,r,H⟩=>?_
 have:=ta (b:=b) z H (M.1 f u) (by rw[r];exact J f u) ⟨y.1,by rw[r];exact y.2⟩;exact⟨this.1,this.2.1.trans r,this.2.2⟩
theorem UpN.learns {n:aa}(h:UpN n):dr n:=⟨h.x.say,h.x.me,⟨_,h.self,rfl⟩,λd y=>by
 obtain⟨_,_,_,r⟩:=h.x.doubts.1 d y;exact⟨r.2,λx u=>(r.1 x u).1⟩⟩
def mT (n:aa)(o:List bY):aa:=(n.1,n.2.1,n.2.2.1,n.2.2.2.1,n.2.2.2.2.1,n.2.2.2.2.2.1,n.2.2.2.2.2.2.1,n.2.2.2.2.2.2.2.1,n.2.2.2.2.2.2.2.2.1,n.2.2.2.2.2.2.2.2.2.1,n.2.2.2.2.2.2.2.2.2.2.1,n.2.2.2.2.2.2.2.2.2.2.2.1,n.2.2.2.2.2.2.2.2.2.2.2.2.1,n.2.2.2.2.2.2.2.2.2.2.2.2.2.1,o)
theorem UpN.setOthers {n:aa}(h:UpN n){o:List bY}(r:cZ n.1 o):UpN (mT n o):=⟨⟨h.x.me,h.x.now0,h.x.table,h.x.site,h.x.cast,h.x.vs,h.x.probe,h.x.doubts,h.x.coord,h.x.places,r⟩,h.self,h.now1,⟨h.seq.seq,h.seq.turn⟩,h.inc,h.up⟩
theorem vK {z s:Int}{r:List ag}{o:List bY}(I:cZ z o)(J:InP s 0 1)(y:s≠am z)(M:r≠[])(O:aA r)(H:ca r s):cZ z (bu (λx:bY=>x.1) (s,r) o) :=
 ⟨λx u=>by
  rcases aY.1 u with rfl|⟨u,_⟩
  ·exact⟨J,y,M,O,H⟩
  ·exact I.1 x u,eZ I.2⟩
def gW (l:List Int)(t:Int):List Int:=(l++[t]).drop ((l++[t]).length-3)
def dF (l:List dI)(r:Int):List Int:=((l.find? λp=>p.1==r).map (·.2.2)).getD []
def oY (l:List dI)(r:Int)(c:dz)(t:Int):List dI:=bu (λp=>p.1) (r,c,gW (dF l r) t) l
def pN (n:aa)(c:dz)(p:List dI):aa:=(n.1,n.2.1,n.2.2.1,n.2.2.2.1,n.2.2.2.2.1,n.2.2.2.2.2.1,n.2.2.2.2.2.2.1,n.2.2.2.2.2.2.2.1,n.2.2.2.2.2.2.2.2.1,n.2.2.2.2.2.2.2.2.2.1,noP,n.2.2.2.2.2.2.2.2.2.2.2.1,c,p,n.2.2.2.2.2.2.2.2.2.2.2.2.2.2)
theorem ui {l:List dI}{r:Int}{t:Int}(h:t∈dF l r):∃ p∈l,t∈p.2.2:=by
 unfold dF at h;cases u:l.find? λp=>p.1==r with
 |none=>rw[u]at h;simp at h
 |some p =>
  rw[u]at h;exact⟨p,CQ u,h⟩
theorem xj {l:List Int}{t:Int}(r:∀ x∈l,InP x 1 60000)(y:InP t 1 60000):InP ((gW l t).length:Int) 1 3/\∀ x∈gW l t,InP x 1 60000:=by
 unfold gW;constructor
 ·simp only[Bu,BP,BG,BM];constructor <;> omega
 ·intro x u;have:=List.mem_of_mem_drop u;rcases Bx.1 this with h|h
  ·exact r x h
  ·rw[Bt.1 h];exact y
theorem vL {y r:Int}{l:List dI}{c:dz}{t:Int}(h:er y l)(O:InP r 0 7)(I:am r=am y)(J:r≠y)(M:cG c)(R:InP t 1 60000):er y (oY l r c t):=by
 have H:=xj (l:=dF l r) (t:=t) (λx z=>by
  obtain⟨p,u,z⟩:=ui z;exact (h.1 p u).2.2.2.2.2 x z) R
 exact⟨λp u=>by
  rcases aY.1 u with rfl|⟨u,_⟩
  ·exact⟨O,I,J,M,H.1,H.2⟩
  ·exact h.1 p u,eZ h.2⟩
theorem UpN.heard {n:aa}(h:UpN n){c:dz}{p:List dI}(u:cG c)(r:er n.1 p):UpN (pN n c p):=⟨⟨h.x.me,h.x.now0,h.x.table,h.x.site,h.x.cast,h.x.vs,xe n,h.x.doubts,u,r,h.x.others⟩,h.self,h.now1,⟨h.seq.seq,h.seq.turn⟩,h.inc,h.up⟩
theorem UpN.way {n:aa}(h:UpN n):UpN (iP n):=⟨h.x.way,h.self,h.now1,⟨h.seq.seq,h.seq.turn⟩,h.inc,h.up⟩
def Tot {α:Type}(o:Option α)(P:α->Prop):Prop:=∃ v,o=some v/\P v
section
variable {α β:Type} {P:α->Prop} {Q:β->Prop}
theorem Tot.ret {v:α}(h:P v):Tot (some v) P:=⟨v,rfl,h⟩
theorem Tot.mono {o:Option α}{r:α->Prop}(h:Tot o P)(k:∀ v,P v->r v):Tot o r:=by obtain⟨v,e,u⟩:=h;exact⟨v,e,k v u⟩
theorem Tot.bind {o:Option α}{g:α->Option β}(h:Tot o P)(k:∀ v,P v->Tot (g v) Q):Tot (o.bind g) Q:=by obtain⟨v,e,r⟩:=h;rw[e];exact k v r
theorem Tot.vl {o:Option α}{v:α}{g:α->Option β}(e:o=some v)(k:Tot (g v) Q):Tot (o.bind g) Q:=by rw[e];exact k
theorem Tot.cnd {b:Bool}{x y:Option α}(r:b=true->Tot x P)(u:b=false->Tot y P):Tot (bif b then x else y) P:=by
 cases b
 ·exact u rfl
 ·exact r rfl
theorem Tot.must {b:Bool}{x y:Option α}(r:b=true)(h:Tot x P):Tot (bif b then x else y) P:=by rw[r];exact h
theorem Tot.not {b:Bool}{x y:Option α}(r:b=false)(h:Tot x P):Tot (bif b then y else x) P:=by rw[r];exact h
theorem Tot.ix {xs:List α}{i:Int}{g:α->Option β}(u:0<=i)(z:i<xs.length)(k:∀ y∈xs,idx xs i=some y->Tot (g y) Q):Tot ((idx xs i).bind g) Q:=by
 obtain⟨n,rfl⟩:=BF u;have r:n<xs.length:=by omega
 have:=af r;rw[this];exact k _ (BC r) this
theorem Tot.iter {A:Type}{step:(A->Option β)->A->Option β}(Inv:A->Prop)(m:A->Nat)(h:∀ (rec:A->Option β) (a:A),Inv a->(∀ r,Inv r->m r<m a->Tot (rec r) Q)->Tot (step rec a) Q):∀ (k:Nat) (a:A),m a<k->Inv a->Tot (ae step k a) Q:=by
 intro k;induction k with
 |zero=>intro a y;omega
 |succ k I =>
  intro a y H;exact h (ae step k) a H λr u z=>I r (by omega) u
end
theorem Ret.tot {o:Option RB}{P:Prop}(h:Ret o P):Tot o λv=>(v.1.1=true<->P):=by
 obtain⟨b,e,r⟩:=h;exact⟨_,e,r⟩
section
variable {α β:Type} {Q:β->Prop}
theorem Tot.cat {x y:ByteArray}{k:ByteArray->Option β}{a b:Nat}(u:x.size<=a)(r:y.size<=b)(h:∀ z:ByteArray,z.size<=a+b->Tot (k z) Q)(H:a+b<=4611686018427387904:=by omega):Tot (aU x y k) Q:=by
 unfold aU;rw[decide_eq_true (by omega)];exact h _ (by rw[ByteArray.size_append];omega)
theorem Tot.fit {a b c:Nat}{x y:Option β}(h:Tot x Q)(u:c<=1000:=by omega)(r:a+b<=2097152:=by omega):Tot (bif decide ((a+b)*c<=an) then x else y) Q:=by
 have:=CU r u;rw[decide_eq_true (by unfold an;omega)];exact h
theorem Tot.ix2 {xs:List α}{i:Int}{g:α->Option β}(r:0<=i)(u:i<xs.length)(k:∀ y∈xs,idx xs i=some y->Tot (g y) Q):Tot ((idx xs i).bind λ_=>(idx xs ((BD i:Nat):Int)).bind g) Q :=
 Tot.ix r u λy z e=>by rw[Int.toNat_of_nonneg r,e];exact k y z e
end
theorem fH (s:ByteArray):s.data.toList.length=s.size:=Array.length_toList
theorem iR (xs:List Int):(gF xs).size=xs.length:=by
 unfold gF;show (List.toArray _).size=_;rw[List.size_toArray,BU]
theorem ra (s:ByteArray):(eq s).length=s.size:=by
 unfold eq;rw[BU];exact fH s
theorem dec_t:∀ (d k:Nat) (n:Int),0<=n->n<10 ^ (d+1)->n<=1000000000->d<=100->d<k->Tot (Q10.f k (n,())) λr=>r.1.1.size<=d+1:=by
 intro d;induction d with
 |zero =>
  intro k n H y R M Y;obtain⟨k,rfl⟩:∃ m,k=m+1:=⟨k-1,by omega⟩;show Tot (Q10.step (Q10.f k) (n,())) _;simp only[Q10.step];refine Tot.not (decide_eq_false (show ¬ n< -9223372036854775807 by omega)) (Tot.not (decide_eq_false (show ¬ n<0 by omega)) (Tot.must (decide_eq_true (show n<10 by exact y)) (Tot.ret ?_)));show (gF _).size<=1;rw[iR];exact BR _
 |succ d X =>
  intro k n H y R M Y;obtain⟨k,rfl⟩:∃ m,k=m+1:=⟨k-1,by omega⟩;show Tot (Q10.step (Q10.f k) (n,())) _;simp only[Q10.step];refine Tot.not (decide_eq_false (show ¬ n< -9223372036854775807 by omega)) (Tot.not (decide_eq_false (show ¬ n<0 by omega)) (Tot.cnd (λ_=>Tot.ret ?_) λh=>?_))
  ·show (gF _).size<=_;rw[iR];exact Nat.succ_le_succ (BX _)
  ·have h:¬ n<10:=of_decide_eq_false h;have e:CV n 10=n / 10:=by rw[Bw H]
   have u:(10:Int) ^ (d+1+1)=10 ^ (d+1)*10:=Int.pow_succ ..;have J:n / 10<10 ^ (d+1):=Int.ediv_lt_of_lt_mul (by omega) (by rw[<- u];exact y);rw[e,aJ (by omega) (by omega)];refine Tot.bind (X k (n / 10) (by omega) J (by omega) (by omega) (by omega)) λv O=>Tot.cat O (b:=1) (by rw[iR];exact BR _) (λz I=>Tot.ret I) (by omega)
theorem kV (K:Nat)(n:Int)(u:0<=n)(y:n<=999999)(z:1048577<K):Tot (Q10.f K (n,())) λr=>r.1.1.size<=6 :=
 dec_t 5 K n u (by show n<1000000;omega) (by omega) (by omega) (by omega)
theorem tc (K:Nat)(i:Int)(y:0<=i)(u:i<=4):Tot (Q159.f K (i,())) λr=>r.1.1.size<=7:=by
 have:i=0\/i=1\/i=2\/i=3\/i=4:=by omega
 rcases this with rfl|rfl|rfl|rfl|rfl <;> exact⟨_,rfl,by decide⟩
theorem td (K:Nat)(i:Int)(y:0<=i)(u:i<=6):Tot (Q156.f K (i,())) λr=>r.1.1.size<=4:=by
 have:i=0\/i=1\/i=2\/i=3\/i=4\/i=5\/i=6:=by omega
 rcases this with rfl|rfl|rfl|rfl|rfl|rfl|rfl <;> exact⟨_,rfl,by decide⟩
theorem yC (K:Nat)(t:List ag)(R:aA t)(hK:1048577<K):Tot (Q162.f K (t,())) λr=>r.1.1.size<=240:=by
 have hl:=iM R.2 (λg hg=>(R.1 g hg).1);refine Tot.iter (step:=λrec a=>Q162.s0 K (t,()) rec a) (λa=>0<=a.2/\a.2<=t.length/\(a.1.size:Int)<=30*a.2) (λa=>t.length-a.2.toNat) ?_ K _ (by show t.length-BD 0<K;omega) ⟨by show (0:Int)<=0;omega,by show (0:Int)<=_;omega,by show (0:Int)<=30*0;omega⟩;rintro rec ⟨s,i⟩ ⟨h0,h1,h2⟩ ih;simp only at h0 h1 h2 ih ⊢;simp only[Q162.s0];refine Tot.cnd (λh=>?_) λh=>?_
 ·have h:=of_decide_eq_true h;obtain⟨n,rfl⟩:=BF h0;have hn:n<t.length:=by omega
  obtain⟨⟨f1,f2⟩,⟨f3,f4⟩,f5,f6⟩:=R.1 t[n] (BC hn);rw[af hn,ar n (by omega)];simp only[BA];have go:∀ z:ByteArray,z.size<=s.size+29->Tot (rec (z,((n+1:Nat):Int))) λr=>r.1.1.size<=240:=λz hz=>ih _ ⟨by show (0:Int)<=((n+1:Nat):Int);omega,by show ((n+1:Nat):Int)<=_;omega,by show (z.size:Int)<=30*((n+1:Nat):Int);omega⟩ (by show t.length-BD ((n+1:Nat):Int)<t.length-BD (n:Int);omega)
  have body:∀ J:ByteArray,J.size<=s.size+1->Tot ((Q10.f K (t[n].1,())).bind λy3=>aU J y3.1.1 λy4=>aU y4 (ByteArray.mk #[58]) λy5=>(Q10.f K (t[n].2.1,())).bind λy7=>aU y5 y7.1.1 λy8=>aU y8 (ByteArray.mk #[58]) λy9=>(Q159.f K (t[n].2.2.1,())).bind λY=>aU y9 Y.1.1 λu=>bif t[n].2.2.2 then (aU u (ByteArray.mk #[42]) λy=>rec (y,((n+1:Nat):Int))) else (rec (u,((n+1:Nat):Int)))) λr=>r.1.1.size<=240:=λJ M =>
   Tot.bind (kV K _ f1 (by omega) hK) λv1 s1=>Tot.cat M s1 λz1 Z=>Tot.cat Z (b:=1) (by decide) λz2 H =>
   Tot.bind (kV K _ f3 (by omega) hK) λv2 s2=>Tot.cat H s2 λz3 O=>Tot.cat O (b:=1) (by decide) λz4 X =>
   Tot.bind (tc K _ (by omega) f6) λv3 s3=>Tot.cat X s3 λz5 I =>
   Tot.cnd (λ_=>Tot.cat I (b:=1) (by decide) λz6 a0=>go z6 (by omega)) λ_=>go z5 (by omega)
  exact Tot.cnd (λ_=>Tot.cat (BR _) (b:=1) (by decide) λz hz=>body z hz) λ_=>body s (by omega)
 ·have h:=of_decide_eq_false h;exact Tot.ret (by show s.size<=240;omega)
theorem oi (K:Nat)(t:List ag)(H:t.length<=1048576)(u:1048577<K):Tot (Q163.f K (t,())) λr=>r.1.1.size<=240:=by
 simp only[Q163.f];refine Tot.bind (gm K t H u).tot λv y=>Tot.cnd (λ_=>Tot.ret (by show (0:Nat)<=240;omega)) λh=>?_
 have z:=y.1 (by simpa using h);exact Tot.cnd (λ_=>Tot.ret (by show (1:Nat)<=240;omega)) λ_=>Tot.bind (yC K t z u) λv h=>Tot.ret h
theorem pO (K:Nat)(n:Int)(I:-999999<=n)(H:n<=999999)(y:1048577<K):Tot (Q165.f K (n,())) λr=>r.1.1.size<=7:=by
 simp only[Q165.f];refine Tot.cnd (λh=>?_) λh=>?_
 ·have h:n<0:=of_decide_eq_true h;rw[aJ (by omega) (by omega)];exact Tot.bind (kV K _ (by omega) (by omega) y) λv s=>Tot.cat (a:=1) (by decide) s λz u=>Tot.ret u
 ·have h:¬ n<0:=of_decide_eq_false h;exact Tot.bind (kV K _ (by omega) (by omega) y) λv s=>Tot.cat (a:=1) (by decide) s λz u=>Tot.ret u
theorem yD (K:Nat)(w:aj)(Y:dJ w)(y:1048577<K):Tot (Q166.f K (w,())) λr=>r.1.1.size<=400:=by
 obtain⟨_,⟨a1,O⟩,⟨M,b2⟩,⟨z,c2⟩,⟨R,d2⟩,⟨H,e2⟩,⟨⟨x1,x2⟩,⟨y1,y2⟩,⟨X,Z⟩,⟨u1,u2⟩⟩,J,_⟩:=Y;have I:=bX J;simp only[Q166.f];have u:(ByteArray.mk #[32]).size<=1:=by decide
 refine Tot.cnd (λ_=>?_) λ_=>?_ <;>
 exact Tot.cat (a:=3) (by decide) u λ_ h=>Tot.bind (td K _ (by omega) O) λ_ s=>Tot.cat h s λ_ h=>Tot.cat h u λ_ h =>
  Tot.bind (kV K _ M (by omega) y) λ_ s=>Tot.cat h s λ_ h=>Tot.cat h u λ_ h =>
  Tot.bind (kV K _ z (by omega) y) λ_ s=>Tot.cat h s λ_ h=>Tot.cat h u λ_ h =>
  Tot.bind (kV K _ R (by omega) y) λ_ s=>Tot.cat h s λ_ h=>Tot.cat h u λ_ h =>
  Tot.bind (kV K _ H (by omega) y) λ_ s=>Tot.cat h s λ_ h=>Tot.cat h u λ_ h =>
  Tot.bind (pO K _ (by show -999999<=(aj.coord w).1;omega) (by show (aj.coord w).1<=999999;omega) y) λ_ s=>Tot.cat h s λ_ h=>Tot.cat h u λ_ h =>
  Tot.bind (pO K _ (by show -999999<=(aj.coord w).2.1;omega) (by show (aj.coord w).2.1<=999999;omega) y) λ_ s=>Tot.cat h s λ_ h=>Tot.cat h u λ_ h =>
  Tot.bind (kV K _ X (by show (aj.coord w).2.2.1<=999999;omega) y) λ_ s=>Tot.cat h s λ_ h=>Tot.cat h u λ_ h =>
  Tot.bind (kV K _ (by show 0<=(aj.coord w).2.2.2;omega) (by show (aj.coord w).2.2.2<=999999;omega) y) λ_ s=>Tot.cat h s λ_ h=>Tot.cat h u λ_ h =>
  Tot.bind (oi K _ I y) λ_ s=>Tot.cat h s λ_ h=>Tot.ret (Br h (by decide))
theorem yE (K:Nat)(n:Int)(I:1048577<K):Tot (Q168.f K (n,())) λ_=>True:=by
 refine Tot.iter (step:=λrec a=>Q168.s0 K (n,()) rec a) (λa=>0<=a.2/\a.2<=8) (λa=>8-a.2.toNat) ?_ K _ (by show 8-BD 0<K;omega) ⟨by show (0:Int)<=0;omega,by show (0:Int)<=8;omega⟩;rintro rec ⟨s,i⟩ ⟨y,H⟩ u;simp only at y H u ⊢;simp only[Q168.s0];obtain⟨i,rfl⟩:=BF y;refine Tot.cnd (λh=>?_) λ_=>Tot.ret trivial
 have h:=of_decide_eq_true h;rw[ar i (by omega)];have r:∀ z:Int,Tot (rec (z,((i+1:Nat):Int))) λ_=>True:=λz=>u _ ⟨by show (0:Int)<=((i+1:Nat):Int);omega,by show ((i+1:Nat):Int)<=8;omega⟩ (by show 8-BD ((i+1:Nat):Int)<8-BD (i:Int);omega)
 exact Tot.cnd (λ_=>r _) λ_=>r _
theorem zT (K:Nat)(s:ByteArray)(J:s.size<=1000000)(I:1048577<K):Tot (Q169.f K (s,())) λ_=>True:=by
 refine Tot.iter (step:=λrec a=>Q169.s0 K (s,()) rec a) (λa=>0<=a.2/\a.2<=s.size) (λa=>s.size-a.2.toNat) ?_ K _ (by show s.size-BD 0<K;omega) ⟨by show (0:Int)<=0;omega,by show (0:Int)<=_;omega⟩;rintro rec ⟨z,i⟩ ⟨r,H⟩ u;simp only at r H u ⊢;simp only[Q169.s0];obtain⟨i,rfl⟩:=BF r;refine Tot.cnd (λh=>?_) λ_=>Tot.ret trivial
 have h:=of_decide_eq_true h;rw[ar i (by omega)];exact Tot.ix r (by rw[fH];exact h) λy _ _=>Tot.bind (yE K _ I) λv _=>u _ ⟨by show (0:Int)<=((i+1:Nat):Int);omega,by show ((i+1:Nat):Int)<=_;omega⟩ (by show s.size-BD ((i+1:Nat):Int)<s.size-BD (i:Int);omega)
theorem hex_t (K:Nat)(n:Int)(R:1048577<K):Tot (Q167.f K (n,())) λr=>r.1.1.size<=8:=by
 refine Tot.iter (step:=λrec a=>Q167.s0 K (n,()) rec a) (λa=>-1<=a.2/\a.2<=7/\a.1.length=7-a.2) (λa=>(a.2+1).toNat) ?_ K _ (by show BD 8<K;omega) ⟨by show (-1:Int)<=7;omega,by show (7:Int)<=7;omega,by show (0:Int)=7-7;omega⟩;rintro rec ⟨z,i⟩ ⟨O,H,I⟩ u;simp only at O H I u ⊢;simp only[Q167.s0];refine Tot.cnd (λh=>?_) λh=>?_
 ·have h:=of_decide_eq_true h;rw[aJ (n:=4*i) (by omega) (by omega),aJ (n:=i-1) (by omega) (by omega)];obtain⟨J,M⟩:=lx (a:=B4 n (2 ^ min (BD (4*i)) 64)) (m:=15) (by omega);refine Tot.not (decide_eq_false (by omega)) (Tot.ix J (Int.lt_of_le_of_lt M (by decide)) λy _ _=>Tot.fit ?_ (by omega) (by simp only[BG,BM];omega));exact u _ ⟨by show -1<=i-1;omega,by show i-1<=7;omega,by show ((z++[_]).length:Int)=7-(i-1);rw[BP,CJ];omega⟩ (by show BD (i-1+1)<BD (i+1);omega)
 ·have h:=of_decide_eq_false h;refine Tot.ret ?_;show (gF z).size<=8;rw[iR];omega
theorem oj (K:Nat)(w:aj)(J:(aj.table w).length<=1048576)(u:1048577<K):Tot (Q170.f K (w,())) λr=>r.1.1.size<=409/\(¬ dJ w->r.1.1=ByteArray.mk #[]):=by
 simp only[Q170.f];refine Tot.bind (lV K w J u).tot λv I=>Tot.cnd (λ_=>Tot.ret ⟨by show (0:Nat)<=409;omega,λ_=>rfl⟩) λh=>?_
 have H:=I.1 (by simpa using h);exact Tot.bind (yD K w H u) λb O=>Tot.cat O (b:=1) (by decide) λz y=>Tot.bind (zT K _ (by omega) u) λs _=>Tot.bind (hex_t K _ u) λx M=>Tot.cat y M λz y=>Tot.ret ⟨y,λh=>absurd H h⟩
theorem vM (K:Nat)(s:ByteArray)(c:Int)(hs:s.size<=100000)(hK:1048577<K):Tot (Q155.f K (s,c,())) λr=>r.1.1.length<=s.size+1/\∀ p∈r.1.1,p.size<=s.size:=by
 have I:∀ i j:Nat,(s.extract i j).size<=s.size:=λi j=>by rw[CX];omega
 refine Tot.iter (step:=λrec a=>Q155.s0 K (s,c,()) rec a) (λa=>0<=a.2.1/\a.2.1<=a.2.2/\a.2.2<=s.size/\a.1.length<=a.2.2/\∀ p∈a.1,p.size<=s.size) (λa=>s.size-a.2.2.toNat) ?_ K _ (by show s.size-BD 0<K;omega) ⟨by show (0:Int)<=0;omega,by show (0:Int)<=0;omega,by show (0:Int)<=_;omega,by show (0:Int)<=0;omega,λp O=>by cases O⟩;rintro rec ⟨u,from_,i⟩ ⟨z,J,X,Y,M⟩ R;simp only at z J X Y M R ⊢;simp only[Q155.s0];obtain⟨i,rfl⟩:=BF (CW z J);have H:∀ x:ByteArray,x.size<=s.size->∀ p∈u++[x],p.size<=s.size:=λx Z p O=>by
  rcases Bx.1 O with h|h
  ·exact M p h
  ·rw[Bt.1 h];exact Z
 refine Tot.cnd (λh=>?_) λh=>?_
 ·have h:=of_decide_eq_true h;rw[ar i (by omega)];refine Tot.ix (CW z J) (by rw[fH];exact h) λy _ _=>Tot.cnd (λ_=>Tot.must (by rw[decide_eq_true z,decide_eq_true J,decide_eq_true X];rfl) (Tot.fit (R _ ⟨?_,?_,?_,?_,H _ (I _ _)⟩ ?_) (by omega) (by simp only[BG,BM];omega))) λ_=>R _ ⟨z,?_,?_,?_,M⟩ ?_
  ·show (0:Int)<=((i+1:Nat):Int);omega
  ·show ((i+1:Nat):Int)<=((i+1:Nat):Int);omega
  ·show ((i+1:Nat):Int)<=s.size;omega
  ·show ((u++[_]).length:Int)<=((i+1:Nat):Int);rw[BP,CJ];omega
  ·show s.size-BD ((i+1:Nat):Int)<s.size-BD (i:Int);omega
  ·show from_<=((i+1:Nat):Int);omega
  ·show ((i+1:Nat):Int)<=s.size;omega
  ·show (u.length:Int)<=((i+1:Nat):Int);omega
  ·show s.size-BD ((i+1:Nat):Int)<s.size-BD (i:Int);omega
 ·refine Tot.must (by rw[decide_eq_true z,decide_eq_true (by omega),decide_eq_true (B7 _)];rfl) (Tot.fit (Tot.ret ⟨?_,H _ (I _ _)⟩) (by omega) (by simp only[BG,BM];omega));show (u++[_]).length<=_;rw[BP,CJ];omega
theorem jU (K:Nat)(s:ByteArray)(R:s.size<=100000)(X:1048577<K):Tot (Q157.f K (s,())) λ_=>True:=by
 simp only[Q157.f,Q157.pre];have r:((s.size:Int)<=6)->Tot (Q157.l0 K (s,()) (0,0)) λ_=>True:=λY=>by
  refine Tot.iter (step:=λrec a=>Q157.s0 K (s,()) rec a) (λa=>0<=a.2/\a.2<=s.size) (λa=>s.size-a.2.toNat) ?_ K _ (by show s.size-BD 0<K;omega) ⟨by show (0:Int)<=0;omega,by show (0:Int)<=_;omega⟩;rintro rec ⟨z,i⟩ ⟨H,O⟩ J;simp only at H O J ⊢;simp only[Q157.s0];obtain⟨i,rfl⟩:=BF H;refine Tot.cnd (λh=>?_) λ_=>Tot.ret trivial
  have h:=of_decide_eq_true h;have I:((i:Nat):Int)<s.data.toList.length:=by rw[fH];exact h
  rw[ar i (by omega)];exact Tot.ix H I λy _ _=>Tot.cnd (λ_=>Tot.ret trivial) λ_=>Tot.ix H I λy _ _=>Tot.cnd (λ_=>Tot.ret trivial) λ_=>Tot.ix H I λy _ _=>J _ ⟨by show (0:Int)<=((i+1:Nat):Int);omega,by show ((i+1:Nat):Int)<=_;omega⟩ (by show s.size-BD ((i+1:Nat):Int)<s.size-BD (i:Int);omega)
 refine Tot.bind (cF K _ _ _).tot λv M=>Tot.cnd (λ_=>Tot.ret trivial) λh=>?_
 have u:=M.1 (by simpa using h);exact Tot.cnd (λh=>Tot.ix (by omega) (by rw[fH];have:=of_decide_eq_true h;omega) λy _ _=>Tot.cnd (λ_=>Tot.ret trivial) λ_=>r u.2) λ_=>r u.2
theorem uO (K:Nat)(s:ByteArray)(J:s.size<=100000)(I:1048577<K):Tot (Q158.f K (s,())) λ_=>True:=by
 simp only[Q158.f];refine Tot.cnd (λ_=>Tot.ret trivial) λh=>?_
 have h:=of_decide_eq_false h;have z:(0:Int)<s.data.toList.length:=by rw[fH];omega
 have r:Tot (bif decide ((0:Int)<=1)&&decide ((1:Int)<=(s.size:Int))&&decide ((s.size:Int)<=(s.size:Int)) then ((Q157.f K (s.extract (BD 1) (BD (s.size:Int)),())).bind λu=>bif decide (u.1.1<0) then (some (((-1),false,()),())) else (bif s.toList==(ByteArray.mk #[45,48]).toList then (some (((-1),false,()),())) else ((idx s.data.toList 0).bind λH=>bif (H.toNat:Int)==45 then (some ((wr .i64 (0-u.1.1),true,()),())) else (some ((u.1.1,true,()),()))))) else none) λ (_:(Int×Bool×Unit)×Unit)=>True :=
  Tot.must (by rw[decide_eq_true (by omega:(0:Int)<=1),decide_eq_true (by omega:(1:Int)<=s.size),decide_eq_true (B7 _)];rfl) (Tot.bind (jU K _ (by rw[CX];omega) I) λv _=>Tot.cnd (λ_=>Tot.ret trivial) λ_=>Tot.cnd (λ_=>Tot.ret trivial) λ_=>Tot.ix (by omega) z λy _ _=>Tot.cnd (λ_=>Tot.ret trivial) λ_=>Tot.ret trivial)
 exact Tot.ix (by omega) z λy _ _=>Tot.cnd (λ_=>Tot.ix (by omega) z λy _ _=>Tot.cnd (λ_=>Tot.ret trivial) λ_=>r) λ_=>r
theorem zU (K:Nat)(s:ByteArray)(hs:s.size<=100000)(J:1048577<K):Tot (Q160.f K (s,())) λ_=>True:=by
 simp only[Q160.f,Q160.pre];have H:∀ (O:List ByteArray) (n1 n2:Int) (b:Bool),O.length=3->Tot (Q160.l0 K (s,()) (O,1,n1,n2,0,b)) λ_=>True:=λO n1 n2 b hx=>by
  refine Tot.iter (step:=λrec a=>Q160.s0 K (s,()) rec a) (λa=>a.1.length=3/\1<=a.2.1/\a.2.1<=5) (λa=>5-a.2.1.toNat) ?_ K _ (by show 5-BD 1<K;omega) ⟨hx,by show (1:Int)<=1;omega,by show (1:Int)<=5;omega⟩;rintro rec ⟨ys,i,m1,m2,m3,m4⟩ ⟨h0,h1,h2⟩ ih;simp only at h0 h1 h2 ih ⊢;simp only[Q160.s0];refine Tot.cnd (λh=>?_) λ_=>Tot.bind (oO K _).tot λ_ _=>Tot.ret trivial
  have h:=of_decide_eq_true h;rw[aJ (n:=i+1) (by omega) (by omega)];have Z:∀ m:Int,Tot (rec (ys,i+1,m1,m2,m,m4)) λ_=>True:=λm=>ih _ ⟨h0,by show 1<=i+1;omega,by show i+1<=5;omega⟩ (by show 5-BD (i+1)<5-BD i;omega)
  exact Tot.bind (tc K i (by omega) h) λv _=>Tot.ix2 (by omega) (by omega) λy _ _=>Tot.cnd (λ_=>Z _) λ_=>Z _
 have u:∀ (z:ByteArray) (b:Bool),z.size<=s.size->Tot ((Q155.f K (z,58,())).bind λr=>bif (BB r.1.1:Int) != 3 then (some (((0,(0,(0,b))),false,()),())) else ((idx r.1.1 0).bind λ_=>(idx r.1.1 (BD 0:Nat)).bind λR=>(Q157.f K (R,())).bind λX=>(idx r.1.1 1).bind λ_=>(idx r.1.1 (BD 1:Nat)).bind λY=>(Q157.f K (Y,())).bind λM=>Q160.l0 K (s,()) (r.1.1,1,X.1.1,M.1.1,0,b))) λ_=>True:=λz b hz =>
  Tot.bind (vM K z 58 (by omega) J) λv ⟨_,hp⟩=>Tot.cnd (λ_=>Tot.ret trivial) λh=>by
   have h3:(v.1.1.length:Int)=3:=by simpa using h
   exact Tot.ix2 (by omega) (by omega) λy I _=>Tot.bind (jU K y (by have:=hp y I;omega) J) λ_ _=>Tot.ix2 (by omega) (by omega) λy I _=>Tot.bind (jU K y (by have:=hp y I;omega) J) λ_ _=>H _ _ _ _ (by omega)
 refine Tot.cnd (λh=>?_) λ_=>u s false (BR _)
 have h:=of_decide_eq_true h;rw[aJ (n:=(s.size:Int)-1) (by omega) (by omega)];exact Tot.ix (by omega) (by rw[fH];omega) λy _ _=>Tot.cnd (λ_=>Tot.must (by simp only[B8,decide_eq_true_eq];omega) (u _ true (by rw[CX];omega))) λ_=>u s false (BR _)
theorem zV (K:Nat)(s:ByteArray)(R:s.size<=100000)(H:1048577<K):Tot (Q161.f K (s,())) λr=>r.1.1.length<=100001:=by
 simp only[Q161.f,Q161.pre];refine Tot.cnd (λ_=>Tot.ret (by show (0:Nat)<=_;omega)) λ_=>Tot.bind (vM K s 44 R H) ?_
 rintro⟨⟨xs,⟨⟩⟩,⟨⟩⟩ ⟨hl,hp⟩;dsimp only at hl hp ⊢;refine Tot.iter (step:=λrec a=>Q161.s0 K (s,()) rec a) (λa=>a.2.1=xs/\0<=a.2.2/\a.2.2<=xs.length/\(a.1.length:Int)<=a.2.2) (λa=>xs.length-a.2.2.toNat) ?_ K _ (by show xs.length-BD 0<K;omega) ⟨rfl,by show (0:Int)<=0;omega,by show (0:Int)<=_;omega,by show (0:Int)<=0;omega⟩;rintro rec ⟨u,J,i⟩ ⟨rfl,z,X,O⟩ I;simp only at z X O hl hp I ⊢;simp only[Q161.s0];obtain⟨i,rfl⟩:=BF z;refine Tot.cnd (λh=>?_) λ_=>Tot.ret (by show u.length<=_;omega)
 have h:=of_decide_eq_true h;rw[ar i (by omega)];exact Tot.ix2 z h λy M _=>Tot.bind (zU K y (by have:=hp y M;omega) H) λv _=>Tot.cnd (λ_=>Tot.ret (by show (0:Nat)<=_;omega)) λ_=>Tot.fit (I _ ⟨rfl,by show (0:Int)<=((i+1:Nat):Int);omega,by show ((i+1:Nat):Int)<=_;omega,by show ((u++[_]).length:Int)<=((i+1:Nat):Int);rw[BP,CJ];omega⟩ (by show J.length-BD ((i+1:Nat):Int)<J.length-BD (i:Int);omega)) (by omega) (by simp only[BG,BM];omega)
theorem zW (K:Nat)(s:ByteArray)(z:s.size<=100000)(u:1048577<K):Tot (Q164.f K (s,())) λr=>r.1.1.length<=100001:=by
 simp only[Q164.f];exact Tot.bind (zV K s z u) λv y=>Tot.cnd (λ_=>Tot.ret (by show (0:Nat)<=_;omega)) λ_=>Tot.bind (oi K _ (by omega) u) λx _=>Tot.cnd (λ_=>Tot.ret (by show (0:Nat)<=_;omega)) λ_=>Tot.ret y
theorem ma (K:Nat)(s:ByteArray)(X:s.size<=100000)(H:1048577<K):Tot (Q171.f K (s,())) λr=>r.1.2.1=true->dJ r.1.1:=by
 simp only[Q171.f,Q171.pre];refine Tot.bind (vM K s 32 X H) ?_;rintro⟨⟨xs,⟨⟩⟩,⟨⟩⟩ ⟨hl,hp⟩;dsimp only at hl hp ⊢;refine Tot.cnd (λ_=>Tot.ret λh=>by cases h) λ_=>Tot.cnd (λ_=>Tot.ret λh=>by cases h) λh=>?_
 have M:(xs.length:Int)=12:=by simpa using h
 have u:∀ y∈xs,y.size<=100000:=λy z=>Br (hp y z) X
 have I:∀ p:Int,Tot (Q171.l0 K (s,()) (xs,1,p,0)) λr=>r.1.2.1=true->dJ r.1.1:=λp=>by
  refine Tot.iter (step:=λrec a=>Q171.s0 K (s,()) rec a) (λa=>a.1=xs/\1<=a.2.1/\a.2.1<=7) (λa=>7-a.2.1.toNat) ?_ K _ (by show 7-BD 1<K;omega) ⟨rfl,by show (1:Int)<=1;omega,by show (1:Int)<=7;omega⟩;rintro rec ⟨ys,i,p,k⟩ ⟨rfl,Z,h2⟩ Y;simp only at Z h2 hl M u Y ⊢;simp only[Q171.s0];refine Tot.cnd (λh=>?_) λ_=>?_
  ·have h:=of_decide_eq_true h;rw[aJ (n:=i+1) (by omega) (by omega)];have R:∀ m:Int,Tot (rec (ys,i+1,p,m)) λr=>r.1.2.1=true->dJ r.1.1:=λm=>Y _ ⟨rfl,by show 1<=i+1;omega,by show i+1<=7;omega⟩ (by show 7-BD (i+1)<7-BD i;omega)
   exact Tot.bind (td K i (by omega) h) λv _=>Tot.ix2 (by omega) (by omega) λy _ _=>Tot.cnd (λ_=>R _) λ_=>R _
  ·refine Tot.ix2 (by omega) (by omega) λy z _=>Tot.bind (jU K y (u y z) H) λ_ _=>Tot.ix2 (by omega) (by omega) λy z _=>Tot.bind (jU K y (u y z) H) λ_ _=>Tot.ix2 (by omega) (by omega) λy z _=>Tot.bind (jU K y (u y z) H) λ_ _=>Tot.ix2 (by omega) (by omega) λy z _=>Tot.bind (jU K y (u y z) H) λ_ _ =>
    Tot.ix2 (by omega) (by omega) λy z _=>Tot.bind (uO K y (u y z) H) λ_ _=>Tot.ix2 (by omega) (by omega) λy z _=>Tot.bind (uO K y (u y z) H) λ_ _=>Tot.ix2 (by omega) (by omega) λy z _=>Tot.bind (zW K y (u y z) H) λt ht=>Tot.ix2 (by omega) (by omega) λy z _=>Tot.bind (jU K y (u y z) H) λ_ _=>Tot.ix2 (by omega) (by omega) λy z _=>Tot.bind (jU K y (u y z) H) λ_ _ =>
    Tot.cnd (λ_=>Tot.ret λh=>by cases h) λ_=>Tot.cnd (λ_=>Tot.ret λh=>by cases h) λ_=>Tot.cnd (λ_=>Tot.ret λh=>by cases h) λ_=>Tot.bind (oj K _ (by show t.1.1.length<=1048576;omega) H) λx ⟨_,hx⟩=>Tot.cnd (λ_=>Tot.ret λh=>by cases h) λJ=>Tot.ret λ_=>?_
   refine Classical.byContradiction λhn=>?_
   rw[hx hn]at J;have O:(ByteArray.mk #[]).toList=s.toList:=by
    have:((ByteArray.mk #[]).toList != s.toList)=false:=J;simpa using this
   rw[Cu,Cu]at O;have h0:=congrArg BB O;rw[fH,fH]at h0;have Z:(ByteArray.mk #[]).size=0:=rfl;omega
 exact Tot.ix2 (by omega) (by omega) λy _ _=>Tot.cnd (λ_=>I 2) λ_=>I 1
def Rt (v r:Nat):Prop:=r*r<=v/\v<(r+1)*(r+1)
theorem AM (K:Nat)(v:Nat)(hv:v<1500000001*1500000001)(hK:1048577<K):∃ r,Rt v r/\Q50.f K ((v:Int),())=some (((r:Int),()),()):=by
 have I:∀ (e k l h:Nat),h-l<2 ^ e->e<k->l<=h->h<=1500000000->l*l<=v->v<(h+1)*(h+1)->∃ r,Rt v r/\ae (λrec a=>Q50.s0 K ((v:Int),()) rec a) k ((l:Int),(h:Int))=some (((r:Int),()),()):=by
  intro e;induction e with
  |zero =>
   intro k l h O hk H X y u;obtain⟨k,rfl⟩:∃ z,k=z+1:=⟨k-1,by omega⟩;have:l=h:=by omega
   subst this;refine⟨l,⟨y,u⟩,?_⟩;show Q50.s0 K _ _ _=_;simp only[Q50.s0];rw[decide_eq_false (by omega)];rfl
  |succ e M =>
   intro k l h O hk H X y u;obtain⟨k,rfl⟩:∃ z,k=z+1:=⟨k-1,by omega⟩;show ∃ r,Rt v r/\Q50.s0 K _ _ _=_;simp only[Q50.s0];by_cases hl:l<h
   ·rw[decide_eq_true (show (l:Int)<(h:Int) by omega)];have e1:wr .i64 ((l:Int)+(h:Int))=(l:Int)+h:=aJ (by omega) (by omega);have e2:wr .i64 ((l:Int)+(h:Int)+1)=((l+h+1:Nat):Int):=(aJ (by omega) (by omega)).trans (by omega);have e3:CV ((l+h+1:Nat):Int) 2=(((l+h+1) / 2:Nat):Int):=by
     rw[Bw (by omega)];omega
    rw[e1,e2,e3];have hm:l<(l+h+1) / 2/\(l+h+1) / 2<=h:=by omega
    have R:h-(l+h+1) / 2<2 ^ e/\(l+h+1) / 2-1-l<2 ^ e:=by
     rw[Nat.pow_succ]at O;omega
    generalize (l+h+1) / 2=m at *;have e4:wr .i64 (m:Int)=m:=aJ (by omega) (by omega);have Z:CV (v:Int) (m:Int)=((v / m:Nat):Int):=by
     rw[Bw (by omega)];rfl
    have a1:v / m<=v:=Nat.div_le_self _ _;have J:m<=v / m<->m*m<=v:=Nat.le_div_iff_mul_le (by omega);generalize v / m=q at *;have e6:wr .i64 (q:Int)=(q:Int):=aJ (by omega) (by omega);rw[e4,Z,e6,decide_eq_false (show ¬ (m:Int)=0 by omega)];simp only[cond_true,cond_false];by_cases Y:m<=q
    ·rw[decide_eq_true (by omega)];exact M k m h R.1 (by omega) (by omega) X (J.1 Y) u
    ·rw[decide_eq_false (by omega)];have a0:¬ m*m<=v:=λh4=>Y (J.2 h4)
     have e7:wr .i64 ((m:Int)-1)=((m-1:Nat):Int):=eO m (by omega) (by omega);rw[e7];exact M k l (m-1) R.2 (by omega) (by omega) (by omega) y (by rw[show m-1+1=m by omega];omega)
   ·have:l=h:=by omega
    subst this;refine⟨l,⟨y,u⟩,?_⟩;rw[decide_eq_false (by omega)];rfl
 exact I 31 K 0 1500000000 (by decide) (by omega) (by omega) (by omega) (by omega) hv
def iS (x:Int):Int:=if x< -1000000000 then -1000000000 else if x>1000000000 then 1000000000 else x
theorem qu (K:Nat)(x:Int):Q49.f K (x,())=some ((iS x,()),()):=by
 simp only[Q49.f,Q46.f,iS];by_cases h:x< -1000000000
 ·rw[decide_eq_true h,if_pos h];rfl
 ·rw[decide_eq_false h,if_neg h];by_cases r:x>1000000000
  ·rw[decide_eq_true r,if_pos r];rfl
  ·rw[decide_eq_false r,if_neg r];rfl
theorem te (x:Int):-1000000000<=iS x/\iS x<=1000000000:=by
 unfold iS;split
 ·omega
 ·split <;> omega
theorem zk {a:Int}(h:-1000000000<=a/\a<=1000000000):0<=a*a/\a*a<=1000000000000000000:=by
 have e:∃ b:Nat,b<=1000000000/\a*a=((b*b:Nat):Int):=by
  refine⟨a.natAbs,by omega,?_⟩;exact (Int.natAbs_mul_self).symm
 obtain⟨b,r,u⟩:=e;have:=CU r r;omega
theorem xk (K:Nat)(x y:Int)(J:1048577<K):Tot (Q51.f K (x,y,())) λ_=>True:=by
 simp only[Q51.f];rw[qu K x,qu K y];simp only[BA];have M:=zk (te x);have O:=zk (te y);generalize iS x*iS x=a at *;generalize iS y*iS y=b at *;have u:wr .i64 a=a:=aJ (by omega) (by omega);have H:wr .i64 b=b:=aJ (by omega) (by omega);have z:wr .i64 (a+b)=(((a+b).toNat:Nat):Int):=(aJ (by omega) (by omega)).trans (by omega);rw[u,H,z];obtain⟨r,_,I⟩:=AM K (a+b).toNat (by omega) J;rw[I];simp only[BA];rw[qu K r];exact⟨_,rfl,trivial⟩
theorem AN (K:Nat)(c d:dz)(r:1048577<K):Tot (Q52.f K (c,d,())) λ_=>True:=by
 simp only[Q52.f];exact Tot.bind (iA K c).tot λ_ _=>Tot.cnd (λ_=>Tot.ret trivial) λ_=>Tot.bind (iA K d).tot λ_ _=>Tot.cnd (λ_=>Tot.ret trivial) λ_=>Tot.bind (xk K _ _ r) λ_ _=>Tot.ret trivial
theorem kF (K:Nat)(n u y:Int)(h:u<=y):Tot (Q46.f K (n,u,y,())) λr=>InP r.1.1 u y:=by
 simp only[Q46.f];exact Tot.cnd (λ_=>Tot.ret ⟨B7 _,h⟩) λz=>Tot.cnd (λ_=>Tot.ret ⟨h,B7 _⟩) λH=>Tot.ret ⟨Int.not_lt.1 (of_decide_eq_false z),Int.not_lt.1 (of_decide_eq_false H)⟩
theorem AO (K:Nat)(c b:dz)(t s:Int)(H:cG c)(X:1048577<K):Tot (Q57.f K (c,b,t,s,())) λr=>cG r.1.1:=by
 simp only[Q57.f];refine Tot.bind (iA K c).tot λv I=>Tot.cnd (λh=>?_) λ_=>Tot.bind (iA K b).tot λv I=>Tot.cnd (λ_=>Tot.ret H) λy=>Tot.bind (cF K _ _ _).tot λv' J=>Tot.cnd (λ_=>Tot.ret H) λu=>?_
 ·rw[I.2 H]at h;cases h
 have Z:=I.1 (by simpa using y);have ht:=J.1 (by simpa using u);obtain⟨_,_,_,⟨c1,c2⟩⟩:=H;obtain⟨_,_,_,⟨b1,b2⟩⟩:=Z;obtain⟨t1,t2⟩:=ht;have R:¬ wr .i64 (c.2.2.2+b.2.2.2)=0:=by rw[aJ (by omega) (by omega)];omega
 have z:∀ w:Int,Tot (Q56.f K (c,b,w,t,())) λr=>InP r.1.1 1 1500:=λw=>by
  simp only[Q56.f,Q55.f];refine Tot.bind (P:=λ_=>True) (Tot.cnd (λ_=>Tot.ret trivial) λ_=>Tot.ret trivial) λ_ _=>Tot.not (decide_eq_false (show ¬ t=0 by omega)) (Tot.bind (kF K _ _ _ (by omega)) λ_ _=>Tot.not (decide_eq_false R) (Tot.bind (kF K _ _ _ (by omega)) λ_ h=>Tot.ret h))
 refine Tot.bind (AN K c b X) λ_ _=>?_
 simp only[Q53.f];refine Tot.bind (P:=λ_=>True) (Tot.not (decide_eq_false R) (Tot.ret trivial)) λ_ _=>Tot.bind (xk K _ _ X) λn _=>Tot.cnd (λ_=>?_) λh=>?_
 ·simp only[Q54.f];refine Tot.bind (P:=λ_=>True) (Tot.cnd (λ_=>Tot.ret trivial) λ_=>Tot.cnd (λ_=>Tot.ret trivial) λ_=>Tot.cnd (λ_=>Tot.ret trivial) λ_=>Tot.ret trivial) λ_ _=>Tot.cnd (λ_=>?_) λ_=>?_ <;>
  exact Tot.bind (kF K _ _ _ (by omega)) λ_ O=>Tot.bind (kF K _ _ _ (by omega)) λ_ y=>Tot.bind (kF K _ _ _ (by omega)) λ_ u=>Tot.bind (z _) λ_ M=>Tot.ret ⟨O,y,u,M⟩
 ·have Y:¬ n.1.1=0:=by simpa using h
  refine Tot.cnd (λ_=>?_) λ_=>?_ <;>
  exact Tot.not (decide_eq_false Y) (Tot.bind (kF K _ _ _ (by omega)) λ_ O=>Tot.not (decide_eq_false Y) (Tot.bind (kF K _ _ _ (by omega)) λ_ y=>Tot.bind (kF K _ _ _ (by omega)) λ_ u=>Tot.bind (z _) λ_ M=>Tot.ret ⟨O,y,u,M⟩))
noncomputable def pP (K:Nat)(c b:dz)(t s:Int):dz:=((Q57.f K (c,b,t,s,())).getD (((0,0,0,0),()),())).1.1
noncomputable def sa (K:Nat)(l:List Int):Int:=((Q58.f K (l,())).getD ((0,()),())).1.1
theorem xm (K:Nat)(c b:dz)(t s:Int)(r:cG c)(u:1048577<K):Q57.f K (c,b,t,s,())=some ((pP K c b t s,()),())/\cG (pP K c b t s):=by
 obtain⟨⟨⟨v,⟨⟩⟩,⟨⟩⟩,e,h⟩:=AO K c b t s r u;unfold pP;rw[e];exact⟨rfl,h⟩
theorem med_t (K:Nat)(l:List Int)(hl:l.length<=100)(hK:1048577<K):Tot (Q58.f K (l,())) λ_=>True:=by
 simp only[Q58.f,Q58.pre];have H:∀ I:List Int,I.length<=100->Tot (Q58.l0 K (l,()) (I,[],0)) λ_=>True:=λI hx=>by
  refine Tot.iter (step:=λrec a=>Q58.s0 K (l,()) (Q58.l1 K (l,()) rec) rec a) (λa=>a.1=I/\0<=a.2.2/\a.2.2<=I.length/\(a.2.1.length:Int)=a.2.2) (λa=>I.length-a.2.2.toNat) ?_ K _ (by show I.length-BD 0<K;omega) ⟨rfl,by show (0:Int)<=0;omega,by show (0:Int)<=_;omega,rfl⟩;rintro rec ⟨ys,u,i⟩ ⟨rfl,X,h1,h2⟩ ih;simp only at X h1 h2 hx ih ⊢;simp only[Q58.s0];obtain⟨i,rfl⟩:=BF X;refine Tot.cnd (λh=>?_) λ_=>Tot.cnd (λ_=>Tot.ret trivial) λh=>?_
  ·have J:=of_decide_eq_true h;clear h;refine Tot.iter (step:=λz a=>Q58.s1 K (l,()) rec z a) (λa=>a.1=ys/\a.2.1=u/\a.2.2.1=i/\0<=a.2.2.2/\a.2.2.2<=u.length) (λa=>u.length-a.2.2.2.toNat) ?_ K _ (by show u.length-BD 0<K;omega) ⟨rfl,rfl,rfl,by show (0:Int)<=0;omega,by show (0:Int)<=_;omega⟩;rintro z ⟨R,r,j,k⟩ ⟨rfl,rfl,e,Z,k1⟩ O;simp only at e Z k1 J h1 h2 hx O ih ⊢;subst e;simp only[Q58.s1];obtain⟨k,rfl⟩:=BF Z;have a0:∀ y:Int,Tot (rec (R,(([]++((r.take (BD (k:Int))).drop (BD 0)))++([y]))++((r.take (BD (BB r:Int))).drop (BD (k:Int))),wr .i64 ((i:Int)+1))) λ_=>True:=λy=>by
    rw[ar i (by omega)];refine ih _ ⟨rfl,by show (0:Int)<=((i+1:Nat):Int);omega,by show ((i+1:Nat):Int)<=_;omega,?_⟩ (by show R.length-BD ((i+1:Nat):Int)<R.length-BD (i:Int);omega);simp only[BE,CL,Bo,BO,BP,BW,Bu,BG,BM];omega
   have M:Tot (bif decide (0<=0)&&decide ((0:Int)<=(k:Int))&&decide ((k:Int)<=(BB r:Int))&&true then (bif decide ((BB ([]:List (Ty.den (.int .i64)))+BB ((r.take (BD (k:Int))).drop (BD 0)))*8<=an) then ((idx R (i:Int)).bind λY=>bif decide ((BB ([]++((r.take (BD (k:Int))).drop (BD 0)))+BB ([Y]))*8<=an) then (bif decide ((0:Int)<=(k:Int))&&decide ((k:Int)<=(BB r:Int))&&decide ((BB r:Int)<=(BB r:Int))&&true then (bif decide ((BB (([]++((r.take (BD (k:Int))).drop (BD 0)))++([Y]))+BB ((r.take (BD (BB r:Int))).drop (BD (k:Int))))*8<=an) then (rec (R,(([]++((r.take (BD (k:Int))).drop (BD 0)))++([Y]))++((r.take (BD (BB r:Int))).drop (BD (k:Int))),wr .i64 ((i:Int)+1))) else none) else none) else none) else none) else none) λ_=>True:=by
    refine Tot.must (by simp only[B8,decide_eq_true_eq,Cc];omega) (Tot.fit (Tot.ix X J λy _ _=>Tot.fit (Tot.must (by simp only[B8,decide_eq_true_eq,Cc];omega) (Tot.fit (a0 y) (by omega) ?_)) (by omega) ?_) (by omega) ?_) <;>
    simp only[BE,CL,Bo,BO,BP,BW,Bu,BG,BM] <;> omega
   refine Tot.cnd (λh4=>?_) λ_=>M
   have h4:=of_decide_eq_true h4;refine Tot.ix Z h4 λy1 _ _=>Tot.ix X J λy2 _ _=>Tot.cnd (λ_=>?_) λ_=>M
   rw[ar k (by omega)];exact O _ ⟨rfl,rfl,rfl,by show (0:Int)<=((k+1:Nat):Int);omega,by show ((k+1:Nat):Int)<=_;omega⟩ (by show r.length-BD ((k+1:Nat):Int)<r.length-BD (k:Int);omega)
  ·have h:¬ (u.length:Int)=0:=by simpa using h
   rw[aJ (n:=(u.length:Int)-1) (by omega) (by omega)];have e:CV ((u.length:Int)-1) 2=((u.length:Int)-1) / 2:=by rw[Bw (by omega)]
   rw[e,aJ (by omega) (by omega)];exact Tot.ix (by omega) (by omega) λy _ _=>Tot.ret trivial
 refine Tot.cnd (λh=>?_) λ_=>H l hl
 have h:=of_decide_eq_true h;rw[aJ (n:=(l.length:Int)-3) (by omega) (by omega)];exact Tot.must (by simp only[B8,decide_eq_true_eq,Cc];omega) (H _ (by simp only[Bu,BW];omega))
theorem med_s (K:Nat)(l:List Int)(r:l.length<=100)(u:1048577<K):Q58.f K (l,())=some ((sa K l,()),()):=by
 obtain⟨⟨⟨v,⟨⟩⟩,⟨⟩⟩,e,_⟩:=med_t K l r u;unfold sa;rw[e];rfl
theorem re {α A R:Type}(k:α->Int)(x:α)(t:List α)(hA:Asc k t)(S0 S1:List α->Nat->A)(I:List α->Option R){step:(A->Option R)->A->Option R}
  (h0:∀ (rec:A->Option R) (r:List α) (i:Nat) (M:i<t.length),r.length=i->(∀ y∈t.take i,k y<k x)->step rec (S0 r i)=if k t[i]<k x then rec (S0 (r++[t[i]]) (i+1)) else if k t[i]=k x then rec (S1 (r++[x]) (i+1)) else rec (S1 (r++[x]++[t[i]]) (i+1)))
  (h1:∀ (rec:A->Option R) (r:List α) (i:Nat) (M:i<t.length),r.length<=i+1->k x<k t[i]->step rec (S1 r i)=rec (S1 (r++[t[i]]) (i+1)))
  (e0:∀ (rec:A->Option R) (r:List α),r.length=t.length->(∀ y∈t,k y<k x)->step rec (S0 r t.length)=I (r++[x]))
  (e1:∀ (rec:A->Option R) (r:List α),r.length<=t.length+1->step rec (S1 r t.length)=I r) {K:Nat} (Z:t.length<K):ae step K (S0 [] 0)=I (bu k x t):=by
 have r1:∀ (n i K:Nat) (r:List α),i+n=t.length->n<K->r.length<=i+1->(∀ y∈t.drop i,k x<k y)->ae step K (S1 r i)=I (r++t.drop i):=by
  intro n;induction n with
  |zero =>
   intro i K r M Z O _;obtain⟨K,rfl⟩:∃ X,K=X+1:=⟨K-1,by omega⟩;have:i=t.length:=by omega
   subst this;show step (ae step K) _=_;rw[e1 _ _ O,Ca,BN]
  |succ n ih =>
   intro i K r M Z O hg;obtain⟨K,rfl⟩:∃ X,K=X+1:=⟨K-1,by omega⟩;have u:i<t.length:=by omega
   rw[BL u]at hg;show step (ae step K) _=_;rw[h1 _ _ _ u O (hg _ (.head _)),ih (i+1) K _ (by omega) (by omega) (by simp;omega) (λy z=>hg y (.tail _ z)),BL u];simp
 have H:∀ i (M:i<t.length),∀ y∈t.drop (i+1),k t[i]<k y:=λi M y z=>by
  have:=List.Pairwise.drop (i:=i) hA;rw[BL M]at this;exact (BQ.1 this).1 y z
 have r0:∀ (n i K:Nat) (r:List α),i+n=t.length->n<K->r=t.take i->(∀ y∈t.take i,k y<k x)->ae step K (S0 r i)=I (bu k x t):=by
  intro n;induction n with
  |zero =>
   intro i K r M Z O J;obtain⟨K,rfl⟩:∃ X,K=X+1:=⟨K-1,by omega⟩;have:i=t.length:=by omega
   subst this;rw[CF]at O J;subst O;show step (ae step K) _=_;rw[e0 _ _ rfl J];unfold bu;rw[BT.2 (by simpa using J),BY.2 (λy z=>by have:=J y z;simp;omega)]
  |succ n ih =>
   intro i K r M Z O J;obtain⟨K,rfl⟩:∃ X,K=X+1:=⟨K-1,by omega⟩;have u:i<t.length:=by omega
   subst O;have a0:(t.take i).length=i:=by rw[BW];omega
   show step (ae step K) _=_;rw[h0 _ _ _ u a0 J];have Y:k x<=k t[i]->bu k x t=t.take i++x::(t.drop i).filter (λy=>decide (k x<k y)):=λhc=>by
    unfold bu;conv=>lhs;rw[<- CY i t]
    rw[By,By,BT.2 (by simpa using J),(BY (l:=t.take i)).2 (λy z=>by have:=J y z;simp;omega),BO];rw[BL u,BV,if_neg (by simp;omega),BY.2 (λy z=>by have:=H i u y z;simp;omega),BN]
   by_cases hc:k t[i]<k x
   ·rw[if_pos hc];refine ih (i+1) K _ (by omega) (by omega) (by rw[Cz,BK u];rfl) λy z=>?_
    rw[Cz,BK u]at z;rcases Bx.1 z with z|z
    ·exact J y z
    ·simp at z;rw[z];exact hc
   ·rw[if_neg hc,Y (by omega),BL u];by_cases he:k t[i]=k x
    ·rw[if_pos he,r1 n (i+1) K _ (by omega) (by omega) (by simp;omega) (λy z=>by have:=H i u y z;omega),BV,if_neg (by simp;omega),BT.2 (λy z=>by have:=H i u y z;simp;omega)];simp
    ·rw[if_neg he,r1 n (i+1) K _ (by omega) (by omega) (by simp;omega) (λy z=>by have:=H i u y z;omega),BV,if_pos (by simp;omega),BT.2 (λy z=>by have:=H i u y z;simp;omega)];simp
 exact r0 t.length 0 K [] (by omega) Z rfl (by simp)
theorem xn {t:List ag}{f:ag}(h:∀ g∈t,g.1<f.1):(bR t f).1=t++[f]:=by
 rw[ij (λg r e=>by have:=h g r;omega)];unfold bu;rw[BT.2 (by simpa using h),BY.2 (λy u=>by have:=h y u;simp;omega)]
theorem pQ:∀ {fs t:List ag},Asc (λf:ag=>f.1) fs->(∀ g∈t,∀ f∈fs,g.1<f.1)->eW t fs=t++fs
 |[],t,_,_=>by simp[eW]
 |f::fs,t,u,h=>by
  show eW (bR t f).1 fs=_;rw[xn (λg r=>h g r f (by simp)),pQ (BQ.1 u).2 ?_]
  ·simp
  ·intro g r e y;rcases Bx.1 r with r|r
   ·exact h g r e (by simp[y])
   ·rw[Bt.1 r];exact (BQ.1 u).1 e y
theorem vN {fs:List ag}(h:aA fs):eW [] fs=fs:=by
 rw[pQ h.2 (by simp)];rfl
theorem zX (K:Nat)(a b:List ag)(r:aA a)(u:aA b)(y:1048577<K):Q37.f K (a,b,())=some ((eW a b,()),()):=by
 simp only[Q37.f,Q37.pre];obtain⟨R,M,O⟩:=gm K a (bX r) y;obtain⟨X,J,H⟩:=gm K b (bX u) y;have:=bX r;have:=bX u;rw[M,J,O.2 r,H.2 u];simp only[BA,BI,cond_false];rw[szb _ _ _ (by omega) (by show (BB ([]:List ag))+a.length<=_;simp;omega)];simp only[cond_true,BO];refine oc a b r u.1 (step:=λrec x=>Q37.s0 K (a,b,()) rec x) (λt=>some ((t,()),())) ?_ ?_ (by omega)
 ·intro rec t i I z;simp only[Q37.s0];rw[bm (by omega:(i:Int)<(BB b:Int)),af I,ar i (by omega)];simp only[cond_true,BA];rw[vF K t _ (bX z) z.2 y];rfl
 ·intro rec t;simp only[Q37.s0,aR];rfl
theorem oZ {u:Int}{l:List bY}(h:cZ u l)(s:Int):aA (eF l s):=by
 rcases qS (l:=l) (s:=s) with e|⟨x,r,_,e⟩ <;> rw[e]
 ·exact⟨by simp,List.Pairwise.nil⟩
 ·exact (h.1 x r).2.2.2.1
theorem olen {u:Int}{l:List bY}(h:cZ u l):l.length<=1048576:=Br (iM h.2 λx r=>⟨(h.1 x r).1.1,CW (h.1 x r).1.2 (by decide)⟩) (by decide)
theorem xo (K:Nat)(n:aa)(s:Int)(t:List ag)(h:cZ n.1 (aa.others n))(r:aA t)(y:1048577<K):Q38.f K (n,s,t,())=some ((eW (eF (aa.others n) s) t,()),()):=by
 have z:=olen h;refine pC (step:=λrec a=>Q38.s0 K (n,s,t,()) rec a) (aa.others n) s (λl=>some ((eW l t,()),())) ?_ ?_ (aa.others n).length 0 K (by omega) (by omega)
 ·intro rec i u;simp only[Q38.s0];rw[bm (by omega:(i:Int)<(BB (aa.others n):Int)),af u,ar i (by omega)];simp only[cond_true,BA];cases (aa.others n)[i].1==s with
  |false=>rfl
  |true=>exact (congrArg (λo=>BS o _) (zX K _ t (h.1 _ (BC u)).2.2.2.1 r y)).trans rfl
 ·intro rec;simp only[Q38.s0,aR,cond_false];rw[vN r];refine (congrArg (λb=>bif b then _ else _) (szb (BB ([]:List ag)) t.length 32 (by omega) ?_)).trans rfl;have:=bX r;simp;omega
theorem sum_s (K:Nat)(n:aa)(s:Int)(t:List ag)(h:cZ n.1 (aa.others n))(X:1048577<K):Q39.f K (n,s,t,())=some ((mT n (bu (λx:bY=>x.1) (s,t) (aa.others n)),()),()):=by
 have R:=olen h;refine re (step:=λrec a=>Q39.s0 K (n,s,t,()) rec a) (λx:bY=>x.1) (s,t) (aa.others n) h.2 (λr i=>(r,false,(i:Int))) (λr i=>(r,true,(i:Int))) (λo=>some ((mT n o,()),())) ?_ ?_ ?_ ?_ (by omega)
 ·intro rec r i H I _;simp only[Q39.s0,zcp4,zcp8];rw[bm (by omega:(i:Int)<(BB (aa.others n):Int)),af H,ar i (by omega)];simp only[cond_true,BA,Bp];have u:=szb r.length 1 32 (by omega) (by omega);have M:=szb (r++[(s,t)]).length 1 32 (by omega) (by simp;omega);generalize (aa.others n)[i]=y at *;by_cases J:y.1<s
  ·rw[if_pos J,show decide (y.1>=s)=false from decide_eq_false (by omega),show (y.1 != s)=true by simp;omega];exact (congrArg (λb=>bif b then _ else _) u).trans rfl
  ·rw[if_neg J,show decide (y.1>=s)=true from decide_eq_true (by omega)];refine (congrArg (λb=>bif b then _ else _) u).trans ?_;by_cases z:y.1=s
   ·rw[if_pos z,show (y.1 != s)=false by simpa using z];rfl
   ·rw[if_neg z,show (y.1 != s)=true by simpa using z];exact (congrArg (λb=>bif b then _ else _) M).trans rfl
 ·intro rec r i H I O;simp only[Q39.s0,zcp4,zcp8];rw[bm (by omega:(i:Int)<(BB (aa.others n):Int)),af H,ar i (by omega)];simp only[cond_true,BA,BI,cond_false];have u:=szb r.length 1 32 (by omega) (by omega);rw[show ((aa.others n)[i].1 != s)=true by simp;have:s<_:=O;omega];exact (congrArg (λb=>bif b then _ else _) u).trans rfl
 ·intro rec r I _;simp only[Q39.s0,zcp4,zcp8,aR,cond_false,Bp,cond_true];exact (congrArg (λb=>bif b then _ else _) (szb r.length 1 32 (by omega) (by omega))).trans rfl
 ·intro rec r I;simp only[Q39.s0,zcp4,zcp8,aR,cond_false,BI];rfl
theorem yF (K:Nat)(a b:List ag)(Y:a.length<=1048576)(X:1048577<K):Q40.f K (a,b,())=rb (decide (a≠b)):=by
 simp only[Q40.f,Q40.pre];by_cases I:a.length=b.length
 ·rw[show ((BB a:Int) != (BB b:Int))=false by simp;omega];have:=cq (step:=λrec x=>Q40.s0 K (a,b,()) rec x) a.length (λi=>(i:Int)) (λj=>∃ (h:j<a.length) (Z:j<b.length),a[j]≠b[j]) (rb false) (λ_=>rb true) ?_ ?_ a.length K 0 (by omega) (by omega)
  ·rcases this with ⟨M,y⟩|⟨j,_,M,⟨u,J,O⟩,_,y⟩
   ·refine (y:Q40.l0 K (a,b,()) 0=_).trans ?_;rw[decide_eq_false];rintro z;exact z (CP I λi u J=>CK.1 λR=>M i (BX _) u ⟨u,J,R⟩)
   ·refine (y:Q40.l0 K (a,b,()) 0=_).trans ?_;rw[decide_eq_true];rintro rfl;exact O rfl
  ·intro rec i H;simp only[Q40.s0];rw[bm (by omega:(i:Int)<(BB a:Int)),af H,ar i (by omega),af (show i<b.length by omega)];simp only[cond_true,BA];rw[show Ty.eqv t2 a[i] (b[i]'(by omega))=decide (a[i]=b[i]'(by omega)) from gS _ _];by_cases r:a[i]=b[i]'(by omega)
   ·exact .inl ⟨λ⟨_,_,h⟩=>h r,by rw[decide_eq_true r];rfl⟩
   ·exact .inr ⟨⟨H,by omega,r⟩,by rw[decide_eq_false r];rfl⟩
  ·intro rec;simp only[Q40.s0,aR];rfl
 ·rw[show ((BB a:Int) != (BB b:Int))=true by simp;omega,decide_eq_true (show a≠b from λe=>I (by rw[e]))];rfl
end Go.Proofs.YtaelpfghkndliaaGreatEv
