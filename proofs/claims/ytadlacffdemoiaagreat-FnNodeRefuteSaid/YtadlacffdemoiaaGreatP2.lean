/- The marks that a law writes into what was answered, and the look whether they still stand. -/
import Derived.Test.YtadlacffdemoiaaGreatP1
import Derived.Test.YtadlacffdemoiaaGreatE0
import Derived.Laws.Strings
set_option linter.unusedVariables false
set_option linter.unusedSimpArgs false
open Bool renaming not_true->BI,not_false->Bv,true_and->B9,and_eq_true->CE,false_and->CK,eq_iff_iff->CM,and_self->CN,and_true->Ci,false_or->Cp,true_or->Ct,and_false->Cy,or_true->DJ
open ByteArray renaming size_extract->Cd
open Classical renaming not_not->CQ
open Eq renaming trans->Cq
open Go.ByteArray renaming toList_eq->C0
open Go.IntKind renaming wrap_i64->DC
open Int renaming toNat->BD,toNat_natCast->BE,eq_ofNat_of_zero_le->BF,tdiv_eq_ediv_of_nonneg->B5,fdiv->CA,le_refl->CD,toNat_zero->CR,tmod->CU,tdiv->Cb,le_trans->Cc,tmod_eq_emod_of_nonneg->Cl,le_of_lt->Cs,tmod_lt_of_pos->C5,tdiv_le_self->DD,tmod_nonneg->DG,tdiv_nonneg->DH
open List renaming length->BB,getElem_mem->BC,length_cons->BG,mem_filter->BH,getElem_of_mem->BJ,getElem?_eq_getElem->BK,drop_eq_getElem_cons->BL,length_nil->BM,append_nil->BN,nil_append->BO,length_append->BP,pairwise_cons->BQ,filter_eq_self->BT,length_map->BU,filter_cons->BV,length_take->BW,filter_eq_nil_iff->BY,mem_map->BZ,drop_zero->Bu,reverse_reverse->Bw,pairwise_map->By,mem_singleton->Bz,length_drop->B3,take_of_length_le->B4,mem_append->B6,filter_append->B7,append_assoc->CB,mem_cons->CC,length_filter_le->CF,pairwise_iff_getElem->CG,pairwise_append->CH,take_succ_eq_append_getElem->CI,reverse_cons->CJ,take_length->CL,getElem?_eq_none->CO,length_singleton->CP,replicate->CT,ext_getElem->CV,mem_of_find?_eq_some->CW,length_take_le->CX,length_reverse->CY,getElem_take->CZ,take_append_drop->Ce,length_replicate->Cf,drop_length->Cg,not_mem_nil->Ch,map_append->Cj,length_pos_iff->Ck,filter_congr->Cn,map_cons->Co,pairwise_singleton->Cr,find?_cons->Cu,find?_some->Cv,length_set->Cw,set_append_right->Cx,mem_of_mem_take->Cz,find?_eq_none->C3,mem_cons_self->C4,getElem_drop->C6,take_add_one->C7,perm_middle->C8,cons_append->C9,getElem_set->DA,mem_range->DI,map_nil->DK
open List.Pairwise renaming filter->CS
open Nat renaming le_refl->BR,zero_le->BX,le_trans->Bx,lt_or_eq_of_le->B8,mul_le_mul->Ca,lt_trichotomy->Cm
open Option renaming bind_some->BA,bind->BS,getD_some->DB,map_some->DE
open Option.some renaming inj->DF
namespace Go.Proofs.YtadlacffdemoiaaGreatEv
open Go
theorem kR {α β R:Type}(t:List α)(p:α->Bool)(g:α->β)(n:Nat)(u:List β->Option R){step:(List β×Int->Option R)->List β×Int->Option R}
  (h:∀ (rec:List β×Int->Option R) (r:List β) (i:Nat) (M:i<t.length),r.length<=i->r.length<n->step rec (r,(i:Int))=rec (bif p t[i] then r++[g t[i]] else r,((i+1:Nat):Int)))
  (Z:∀ (rec:List β×Int->Option R) (r:List β) (i:Nat),i<t.length->r.length<=i->n<=r.length->step rec (r,(i:Int))=u r)
  (z:∀ (rec:List β×Int->Option R) (r:List β),r.length<=t.length->step rec (r,(t.length:Int))=u r) :
  ∀ (d i k:Nat) (r:List β),i+d=t.length->d<k->r.length<=i->r.length<=n->ae step k (r,(i:Int))=u (r++(((t.drop i).filter p).map g).take (n-r.length)):=by
 intro d;induction d with
 |zero =>
  intro i k r M Y H _;obtain⟨k,rfl⟩:∃ I,k=I+1:=⟨k-1,by omega⟩;have:i=t.length:=by omega
  subst this;show step (ae step k) _=_;rw[z _ _ H];simp
 |succ d J =>
  intro i k r M Y H O;obtain⟨k,rfl⟩:∃ I,k=I+1:=⟨k-1,by omega⟩;have y:i<t.length:=by omega
  show step (ae step k) _=_;by_cases hc:r.length<n
  ·rw[h _ _ _ y H hc,BL y,BV];cases hp:p t[i] with
   |true =>
    simp only[cond_true,if_true,Co];rw[J (i+1) k _ (by omega) (by omega) (by simp;omega) (by simp;omega)];congr 1;obtain⟨m,X⟩:∃ m,n-r.length=m+1:=⟨n-r.length-1,by omega⟩;rw[X,List.take_succ_cons,CB];simp only[BP,BG,BM];rw[show n-(r.length+(0+1))=m by omega];rfl
   |false =>
    simp only[cond_false];rw[J (i+1) k _ (by omega) (by omega) (by omega) (by omega)];rfl
  ·rw[Z _ _ _ y H (by omega)];rw[show n-r.length=0 by omega];simp
theorem vq {α β R:Type}(t:List α)(p:α->Bool)(g:α->β)(u:List β->Option R){step:(List β×Int->Option R)->List β×Int->Option R}
  (h:∀ (rec:List β×Int->Option R) (r:List β) (i:Nat) (z:i<t.length),r.length<=i->step rec (r,(i:Int))=rec (bif p t[i] then r++[g t[i]] else r,((i+1:Nat):Int)))
  (y:∀ (rec:List β×Int->Option R) (r:List β),r.length<=t.length->step rec (r,(t.length:Int))=u r) {k:Nat} (I:t.length<k) :
  ae step k ([],0)=u ((t.filter p).map g):=by
 have:=kR t p g (t.length+1) u (λrec r i z H _=>h rec r i z H) (λrec r i z H J=>by omega) y t.length 0 k [] (by omega) I (BR _) (by simp);refine this.trans ?_;congr 1;simp only[BO,BM,Bu];exact B4 (by have:=CF p t;simp;omega)
theorem dX {e:Ty}{b:Nat}{xs:List e.den}(h:xs.length*b<=140737488355328):fI e b xs=some ((xs,()),()):=by
 unfold fI;rw[decide_eq_true (by simpa[an]using h)];rfl
theorem AG {α β:Type}{xs r:List α}{b:Nat}{x y:β}(h:(xs.length+r.length)*b<=140737488355328):(bif decide ((BB xs+BB r)*b<=an) then x else y)=x:=by
 rw[decide_eq_true (by simpa[an]using h)];rfl
theorem zI (K:Nat)(xs:List Int)(n:Int)(I:xs.length<=1048576):Q190.f K (xs,n,())=some ((xs.take n.toNat,()),()):=by
 simp only[Q190.f,Q189.f,BA,Q9.f];obtain⟨c,y,z,u,r⟩:∃ c:Int,(bif decide (0<(bif decide ((xs.length:Int)<n) then (xs.length:Int) else n)) then bif decide ((xs.length:Int)<n) then (xs.length:Int) else n else 0)=c/\0<=c/\c<=xs.length/\xs.take c.toNat=xs.take n.toNat:=by
  by_cases h:(xs.length:Int)<n
  ·rw[decide_eq_true h];simp only[cond_true];by_cases r:0<(xs.length:Int)
   ·rw[decide_eq_true r];refine⟨_,rfl,by simp,by simp,?_⟩;simp only[cond_true];rw[B4 (by omega),B4 (by omega)]
   ·rw[decide_eq_false r];refine⟨_,rfl,by simp,by simp,?_⟩;have:xs=[]:=List.eq_nil_of_length_eq_zero (by omega);subst this;simp
  ·rw[decide_eq_false h];simp only[cond_false];by_cases r:0<n
   ·rw[decide_eq_true r];exact⟨_,rfl,by simp;omega,by simp;omega,rfl⟩
   ·rw[decide_eq_false r];refine⟨_,rfl,by simp,by simp,?_⟩;simp only[cond_false];rw[show n.toNat=0 by omega];rfl
 rw[y,decide_eq_true z,decide_eq_true u];simp only[CR,Bu,decide_true,CN,cond_true];rw[dX (by
  have:=CX c.toNat xs;have H:(List.take c.toNat xs).length<=1048576:=by omega
  omega)]
 simp only[BA];rw[r];rfl
def mJ (f:af):Bool:=f.2.2.2&&f.2.2.1==1
def fE (t:List af):List Int:=((t.filter mJ).map (·.1)).take 2
theorem uE (K:Nat)(t:List af)(I:t.length<=1048576)(J:1048577<K):Q99.f K (t,2,())=some ((fE t,()),()):=by
 have:=kR (step:=λrec a=>Q99.s0 K (t,2,()) rec a) t mJ (λf=>f.1) 2 (λy=>some ((y,()),())) ?_ ?_ ?_ t.length 0 K [] (by omega) (by omega) (BR _) (by simp)
 ·exact this
 ·intro rec r i u z H;simp only[Q99.s0];rw[bk (by omega:(i:Int)<(BB t:Int)),ag u,ar i (by omega),decide_eq_true (by omega:(BB r:Int)<2)];simp only[cond_true,BA,mJ];cases t[i].2.2.2 with
  |true =>
   simp only[cond_true,B9];cases t[i].2.2.1==1 with
   |true=>simp only[cond_true];rw[AG (by simp;omega)]
   |false=>rfl
  |false=>rfl
 ·intro rec r i u z H;simp only[Q99.s0];rw[bk (by omega:(i:Int)<(BB t:Int)),decide_eq_false (by omega:¬ (BB r:Int)<2)];rfl
 ·intro rec r _;simp only[Q99.s0,aQ];rfl
theorem wQ (t:List af):(fE t).length<=2:=by
 unfold fE;exact CX _ _
def eF (l:List bZ)(s:Int):List af:=((l.find? λx=>x.1==s).map (·.2)).getD []
theorem pE {R:Type}(l:List bZ)(s:Int)(r:List af->Option R){step:(Int->Option R)->Int->Option R}
  (h:∀ (rec:Int->Option R) (i:Nat) (H:i<l.length),step rec (i:Int)=bif l[i].1==s then r l[i].2 else rec ((i+1:Nat):Int))
  (y:∀ rec:Int->Option R,step rec (l.length:Int)=r []) :
  ∀ (d i k:Nat),i+d=l.length->d<k->ae step k (i:Int)=r (eF (l.drop i) s):=by
 intro d;induction d with
 |zero =>
  intro i k H I;obtain⟨k,rfl⟩:∃ z,k=z+1:=⟨k-1,by omega⟩;have:i=l.length:=by omega
  subst this;show step (ae step k) _=_;rw[y];simp[eF]
 |succ d J =>
  intro i k H I;obtain⟨k,rfl⟩:∃ z,k=z+1:=⟨k-1,by omega⟩;have u:i<l.length:=by omega
  show step (ae step k) _=_;rw[h _ _ u,BL u];simp only[eF,Cu];cases l[i].1==s with
  |true=>rfl
  |false=>exact J (i+1) k (by omega) (by omega)
theorem zJ (K:Nat)(n:aa)(s:Int)(u:NB n)(y:1048577<K):Q183.f K (n,s,())=some ((eF (aa.others n) s,()),()):=by
 have z:=u.others;refine pE (step:=λrec a=>Q183.s0 K (n,s,()) rec a) (aa.others n) s (λt=>some ((t,()),())) ?_ ?_ (aa.others n).length 0 K (by omega) (by omega)
 ·intro rec i r;simp only[Q183.s0];rw[bk (by omega:(i:Int)<(BB (aa.others n):Int)),ag r,ar i (by omega)];rfl
 ·intro rec;simp only[Q183.s0,aQ];rfl
theorem qR {l:List bZ}{s:Int}:eF l s=[]\/∃ x∈l,x.1=s/\eF l s=x.2:=by
 unfold eF;cases h:l.find? λx=>x.1==s with
 |none=>exact .inl rfl
 |some x=>exact .inr ⟨x,CW h,by simpa using Cv h,rfl⟩
def bu {α:Type}(k:α->Int)(x:α)(xs:List α):List α:=xs.filter (λy=>decide (k y<k x))++x::xs.filter (λy=>decide (k x<k y))
theorem qS {α:Type}{k:α->Int}{xs:List α}{v:Int}{m:Nat}(J:m<=xs.length)(H:∀ i,(z:i<xs.length)->i<m->k xs[i]<v)(z:∀ i,(h:i<xs.length)->m<=i->v<=k xs[i]):xs.filter (λy=>decide (k y<v))=xs.take m:=by
 conv=>lhs;rw[<- Ce m xs]
 rw[B7];have r:(xs.take m).filter (λy=>decide (k y<v))=xs.take m:=by
  rw[BT];intro y u;obtain⟨i,r,rfl⟩:=BJ u;rw[BW]at r;rw[CZ];exact decide_eq_true (H i (by omega) (by omega))
 have I:(xs.drop m).filter (λy=>decide (k y<v))=[]:=by
  rw[BY];intro y u;obtain⟨i,r,rfl⟩:=BJ u;rw[B3]at r;rw[C6];have:=z (m+i) (by omega) (by omega);simp only[decide_eq_true_eq];omega
 rw[r,I,BN]
theorem qT {α:Type}{k:α->Int}{xs:List α}{v:Int}{m:Nat}(J:m<=xs.length)(H:∀ i,(z:i<xs.length)->i<m->k xs[i]<=v)(z:∀ i,(h:i<xs.length)->m<=i->v<k xs[i]):xs.filter (λy=>decide (v<k y))=xs.drop m:=by
 conv=>lhs;rw[<- Ce m xs]
 rw[B7];have r:(xs.take m).filter (λy=>decide (v<k y))=[]:=by
  rw[BY];intro y u;obtain⟨i,r,rfl⟩:=BJ u;rw[BW]at r;rw[CZ];have:=H i (by omega) (by omega);simp only[decide_eq_true_eq];omega
 have I:(xs.drop m).filter (λy=>decide (v<k y))=xs.drop m:=by
  rw[BT];intro y u;obtain⟨i,r,rfl⟩:=BJ u;rw[B3]at r;rw[C6];exact decide_eq_true (z (m+i) (by omega) (by omega))
 rw[r,I,BO]
theorem ik {α:Type}{k:α->Int}{xs:List α}{x:α}{m:Nat}(h:Asc k xs)(H:m<xs.length)(e:k xs[m]=k x):xs.set m x=bu k x xs:=by
 have J:=cB.1 h;have I:∀ i,(u:i<xs.length)->i<m->k xs[i]<k x:=λi u y=>by rw[<- e];exact J i m u H y
 have M:∀ i,(u:i<xs.length)->m<i->k x<k xs[i]:=λi u y=>by rw[<- e];exact J m i H u y
 rw[bu,qS (m:=m) (by omega) I (λi u r=>by
   rcases B8 r with z|z
   ·exact Cs (M i u z)
   ·subst z;omega),
  qT (m:=m+1) (by omega) (λi u r=>by
   rcases B8 (Nat.le_of_lt_succ r) with z|z
   ·exact Cs (I i u z)
   ·subst z;omega) (λi u r=>M i u r),
  List.set_eq_take_append_cons_drop,if_pos H]
theorem gr {α:Type}{k:α->Int}{xs:List α}{x:α}{m:Nat}(H:m<=xs.length)(z:∀ i,(u:i<xs.length)->i<m->k xs[i]<k x)(u:∀ i,(h:i<xs.length)->m<=i->k x<k xs[i]):xs.take m++[x]++xs.drop m=bu k x xs:=by
 rw[bu,qS H z (λi r y=>Cs (u i r y)),qT H (λi r y=>Cs (z i r y)) u,CB];rfl
theorem aX {α:Type}{k:α->Int}{xs:List α}{x y:α}:y∈bu k x xs<->y=x\/(y∈xs/\k y≠k x):=by
 simp only[bu,B6,CC,BH,decide_eq_true_eq];constructor
 ·rintro (⟨r,z⟩|rfl|⟨r,z⟩)
  ·exact .inr ⟨r,by omega⟩
  ·exact .inl rfl
  ·exact .inr ⟨r,by omega⟩
 ·rintro (rfl|⟨r,z⟩)
  ·exact .inr (.inl rfl)
  ·rcases Int.lt_or_gt_of_ne z with u|u
   ·exact .inl ⟨r,u⟩
   ·exact .inr (.inr ⟨r,u⟩)
theorem e8 {α:Type}{k:α->Int}{xs:List α}{x:α}(h:Asc k xs):Asc k (bu k x xs):=by
 unfold Asc bu;rw[CH,BQ];refine⟨h.filter _,⟨λy u=>?_,h.filter _⟩,λy u z r=>?_⟩
 ·simpa using (BH.1 u).2
 ·have H:k y<k x:=by simpa using (BH.1 u).2
  rcases CC.1 r with rfl|r
  ·exact H
  ·have I:k x<k z:=by simpa using (BH.1 r).2
   omega
theorem yj {α:Type}{k:α->Int}{xs:List α}{x:α}:(bu k x xs).length<=xs.length+1:=by
 have:∀ l:List α,(l.filter (λy=>decide (k y<k x))).length+(l.filter (λy=>decide (k x<k y))).length<=l.length:=by
  intro l;induction l with
  |nil=>simp
  |cons y l u =>
   simp only[BV,BG];by_cases r:k y<k x
   ·rw[if_pos (decide_eq_true r),if_neg (by simp;omega)];simp only[BG];omega
   ·rw[if_neg (by simpa using r)];split <;> (try simp only[BG]) <;> omega
 have:=this xs;simp only[bu,BP,BG];omega
theorem oU {α:Type}{k:α->Int}{xs:List α}(h:Asc k xs){i:Nat}(u:i<xs.length){v:Int}(e:k xs[i]=v):xs.find? (λy=>k y==v)=some xs[i]:=by
 cases r:xs.find? (λy=>k y==v) with
 |none =>
  have:=C3.1 r xs[i] (BC u);simp[e]at this
 |some y =>
  have H:k y=v:=by simpa using Cv r
  obtain⟨j,z,rfl⟩:=BJ (CW r);have:=oP h z u (by rw[H,e]);subst this;rfl
theorem nK {α:Type}{k:α->Int}{xs:List α}{v:Int}(h:∀ y∈xs,k y≠v):xs.find? (λy=>k y==v)=none:=by
 rw[C3];intro y r;simpa using h y r
def jQ {α:Type}(k:α->Int)(x:α):Bool->List α->List α
 |d,[]=>bif d then [] else [x]
 |d,y::r=>(bif !d&&decide (k x<=k y) then [x] else [])++((bif k y != k x then [y] else [])++jQ k x (d||decide (k x<=k y)) r)
theorem pF {α:Type}{k:α->Int}{x:α}:∀ {r:List α},(∀ y∈r,k x<k y)->jQ k x true r=r
 |[],_=>rfl
 |y::r,h=>by
  have H:=h y (by simp);simp only[jQ,BI,CK,cond_false,Ct,BO];rw[pF (λz u=>h z (by simp[u])),show (k y != k x)=true by simp;omega];rfl
theorem kS {α:Type}{k:α->Int}{x:α}:∀ {xs:List α},Asc k xs->jQ k x false xs=bu k x xs
 |[],_=>rfl
 |y::u,h=>by
  have M:Asc k u:=(BQ.1 h).2;have H:∀ z∈u,k y<k z:=(BQ.1 h).1;simp only[jQ,Bv,B9,Cp];by_cases I:k x<=k y
  ·rw[decide_eq_true I,pF (λz r=>by have:=H z r;omega)];simp only[cond_true,bu,BV];have O:u.filter (λz=>decide (k z<k x))=[]:=by
    rw[BY];intro z r;have:=H z r;simp;omega
   have R:u.filter (λz=>decide (k x<k z))=u:=by
    rw[BT];intro z r;have:=H z r;simp;omega
   rw[O,R,if_neg (by simp;omega)];by_cases J:k y=k x
   ·rw[if_neg (by simp;omega),show (k y != k x)=false by simpa using J];rfl
   ·rw[if_pos (by simp;omega),show (k y != k x)=true by simpa using J];rfl
  ·rw[decide_eq_false I,kS M,show (k y != k x)=true by simp;omega];simp only[cond_false,cond_true,bu,BV,BO];rw[if_pos (by simp;omega),if_neg (by simp;omega)];rfl
theorem sC {α A R:Type}(k:α->Int)(x:α)(t:List α)(q:α->Bool)(O:Option R)(u:List α->Option R)(S:List α->Bool->Nat->A){step:(A->Option R)->A->Option R}
  (h:∀ (rec:A->Option R) (r:List α) (d:Bool) (i:Nat) (X:i<t.length),r.length<=i+1->(d=false->r.length<=i)->step rec (S r d i)=bif q t[i] then O else rec (S ((r++(bif !d&&decide (k x<=k t[i]) then [x] else []))++(bif k t[i] != k x then [t[i]] else [])) (d||decide (k x<=k t[i])) (i+1)))
  (I:∀ (rec:A->Option R) (r:List α) (d:Bool),r.length<=t.length+1->(d=false->r.length<=t.length)->step rec (S r d t.length)=u (r++(bif d then [] else [x]))) :
  ∀ (n i K:Nat) (r:List α) (d:Bool),i+n=t.length->n<K->r.length<=i+1->(d=false->r.length<=i)->ae step K (S r d i)=bif (t.drop i).any q then O else u (r++jQ k x d (t.drop i)):=by
 intro n;induction n with
 |zero =>
  intro i K r d X Z M y;obtain⟨K,rfl⟩:∃ J,K=J+1:=⟨K-1,by omega⟩;have:i=t.length:=by omega
  subst this;show step (ae step K) _=_;rw[I _ _ _ M y,Cg];rfl
 |succ n ih =>
  intro i K r d X Z M y;obtain⟨K,rfl⟩:∃ J,K=J+1:=⟨K-1,by omega⟩;have z:i<t.length:=by omega
  show step (ae step K) _=_;rw[h _ _ _ _ z M y,BL z,List.any_cons];cases hq:q t[i] with
  |true=>rfl
  |false =>
   simp only[cond_false,Cp,jQ];rw[ih (i+1) K _ _ (by omega) (by omega) ?_ ?_]
   ·simp only[CB]
   ·cases d with
    |true =>
     simp only[BI,CK,cond_false,BN];cases k t[i] != k x <;> simp <;> omega
    |false =>
     have:=y rfl;cases Y:decide (k x<=k t[i]) <;> cases k t[i] != k x <;> simp <;> omega
   ·intro H;rw[Bool.or_eq_false_iff]at H;obtain⟨rfl,Y⟩:=H;have:=y rfl;rw[Y];cases k t[i] != k x <;> simp <;> omega
theorem oc (K:Nat)(n:aa)(y:NB n)(r:1048577<K):∃ b,Q222.f K (n,())=rb b/\Q167.f K (n,())=rb b/\(b=true<->gN n):=by
 obtain⟨b,H,u⟩:=yi K n y r;obtain⟨z,J,I⟩:=sA K n y r;have:b=z:=by rw[CM,u,I]
 subst this;exact⟨b,H,J,u⟩
theorem gN.up {n:aa}(h:gN n)(r:n.2.1=true):UpP n:=by
 have:=h.2.2.2.2.2
 rwa [if_pos r]at this
abbrev ak:=Int×Int×Int×Int×Int×Int×dz×List af
abbrev ak.table (w:ak):List af:=w.2.2.2.2.2.2.2
abbrev ak.coord (w:ak):dz:=w.2.2.2.2.2.2.1
def lV:List af->Prop
 |[]=>False
 |f::l=>bR (f::l) (aj f.1)
def dJ (w:ak):Prop:=InP w.1 1 2/\InP w.2.1 1 6/\InP w.2.2.1 0 7/\InP w.2.2.2.1 0 7/\InP w.2.2.2.2.1 0 999999/\InP w.2.2.2.2.2.1 0 7/\cF (ak.coord w)/\az (ak.table w) /\
 (if w.2.1=6 then lV (ak.table w) else bR (ak.table w) (aj w.2.2.1))
theorem sD (K:Nat)(w:ak)(r:(ak.table w).length<=1048576)(u:1048577<K):Ret (Q22.f K (w,())) (dJ w):=by
 refine Ret.nx (cE K _ _ _) λ_=>Ret.nx (cE K _ _ _) λ_=>Ret.nx (cE K _ _ _) λ_=>Ret.nx (cE K _ _ _) λ_=>Ret.nx (cE K _ _ _) λ_=>Ret.nx (cE K _ _ _) λ_=>Ret.nx (iC K _) λ_=>Ret.nx (gm K _ r u) λ_=>?_
 dsimp only;by_cases h:w.2.1=6
 ·rw[show (w.2.1==6)=true by simpa using h,if_pos h];obtain⟨w1,w2,w3,w4,y,z,H,t⟩:=w;cases t with
  |nil=>exact Ret.no (λh=>h)
  |cons f l =>
   rw[show decide ((BB (f::l):Int)>0)=true from decide_eq_true (by simp only[BG];omega)];simp only[cond_true];exact Ret.vl (ag (xs:=f::l) (i:=0) (by simp)) (eZ K _ _ r u).id
 ·rw[show (w.2.1==6)=false by simpa using h,if_neg h];exact (eZ K _ _ r u).id
theorem yk (K:Nat)(w:ak)(r:(ak.table w).length<=1048576)(u:1048577<K):Ret (Q168.f K (w,())) (dJ w):=by
 refine Ret.iff (Q:=dJ w) (Ret.nx (eH K _ _ _) λ_=>Ret.nx (eH K _ _ _) λ_=>Ret.nx (ja K _) λ_=>Ret.nx (ja K _) λ_=>Ret.nx (ja K _) λ_=>Ret.nx (eH K _ _ _) λ_=>Ret.nx (nJ K _) λ_=>Ret.nx (gn K _ r u)
  (Q:=if w.2.1=6 then lV (ak.table w) else bR (ak.table w) (aj w.2.2.1)) λ_=>?_) ?_
 ·dsimp only;by_cases h:w.2.1=6
  ·rw[show (w.2.1==6)=true by simpa using h,if_pos h];obtain⟨w1,w2,w3,w4,y,z,H,t⟩:=w;cases t with
   |nil=>exact Ret.no (λh=>h)
   |cons f l =>
    rw[show decide ((BB (f::l):Int)>0)=true from decide_eq_true (by simp only[BG];omega)];simp only[cond_true];exact Ret.vl (ag (xs:=f::l) (i:=0) (by simp)) (Ret.vl (mH K _) (ij K _ _ r u).id)
  ·rw[show (w.2.1==6)=false by simpa using h,if_neg h];simp only[cond_false];exact Ret.vl (mH K _) (ij K _ _ r u).id
 ·unfold dJ;constructor
  ·rintro⟨h1,h2,h3,h4,h5,h6,h7,h8,h9⟩;exact⟨h1,h2,h3,h4,h6,h5,h7,h8,h9⟩
  ·rintro⟨h1,h2,h3,h4,h6,h5,h7,h8,h9⟩;exact⟨h1,h2,h3,h4,h5,h6,h7,h8,h9⟩
theorem iE {α A R:Type}(xs:List α)(S:List α->Nat->A)(r:Option R){step:(A->Option R)->A->Option R}
  (h:∀ (rec:A->Option R) (u:List α) (i:Nat) (z:i<xs.length),u.length=i->step rec (S u i)=rec (S (u++[xs[i]]) (i+1))) (y:∀ rec:A->Option R,step rec (S xs xs.length)=r) {k:Nat} (H:xs.length<k):ae step k (S [] 0)=r:=by
 refine eP (step:=step) xs.length (λi=>S (xs.take i) i) r ?_ ?_ H
 ·intro rec i z;show step rec (S (xs.take i) i)=rec (S (xs.take (i+1)) (i+1));rw[h rec (xs.take i) i z (by simp;omega),CI z]
 ·intro rec;show step rec (S (xs.take xs.length) xs.length)=r;rw[CL];exact y rec
theorem szb (a b c:Nat)(r:c<=64)(h:a+b<=2097152):decide ((a+b)*c<=an)=true:=by
 have:=Ca h r;exact decide_eq_true (by unfold an;omega)
theorem mK (K:Nat)(n:aa)(y:NB n)(O:1048577<K):Q109.f K (n,())=some ((n,()),()):=by
 have R:=y.table;have H:=y.cast;have I:=y.doubts;have J:=y.places;have M:=y.others;simp only[Q109.f,Q109.pre];rw[szb _ _ _ (by omega) (by show (BB ([]:List af))+(aa.table n).length<=_;simp;omega),szb _ _ _ (by omega) (by show (BB ([]:List aG))+(aa.cast n).length<=_;simp;omega)];simp only[cond_true];refine iE (aa.doubts n) (step:=λrec a=>Q109.s0 K (n,()) (Q109.l1 K (n,())) rec a) (λr i=>((i:Int),r)) _ ?_ ?_ (by omega)
 ·intro rec r i u z;have:=y.by_ _ (BC u);simp only[Q109.s0];rw[bk (by omega:(i:Int)<(BB (aa.doubts n):Int)),ag u,ar i (by omega)];simp only[cond_true,BA];rw[szb _ _ _ (by omega) (by simp;omega),szb _ _ _ (by omega) (by simp;omega)];rfl
 ·intro rec;simp only[Q109.s0,aQ,cond_false];refine iE (aa.places n) (step:=λrec a=>Q109.s1 K (n,()) (Q109.l2 K (n,())) rec a) (λr i=>((i:Int),aa.doubts n,r)) _ ?_ ?_ (by omega)
  ·intro rec r i u z;have:=y.trips _ (BC u);simp only[Q109.s1];rw[bk (by omega:(i:Int)<(BB (aa.places n):Int)),ag u,ar i (by omega)];simp only[cond_true,BA];rw[szb _ _ _ (by omega) (by simp;omega),szb _ _ _ (by omega) (by simp;omega)];rfl
  ·intro rec;simp only[Q109.s1,aQ,cond_false];refine iE (aa.others n) (step:=λrec a=>Q109.s2 K (n,()) rec a) (λr i=>((i:Int),aa.doubts n,aa.places n,r)) _ ?_ ?_ (by omega)
   ·intro rec r i u z;have:=y.facts _ (BC u);simp only[Q109.s2,zcp8];rw[bk (by omega:(i:Int)<(BB (aa.others n):Int)),ag u,ar i (by omega)];simp only[cond_true,BA];rw[szb _ _ _ (by omega) (by simp;omega),szb _ _ _ (by omega) (by simp;omega)];rfl
   ·intro rec;simp only[Q109.s2,zcp8,aQ,cond_false];rfl
theorem yl (K:Nat)(n:aa)(y:NB n)(O:1048577<K):Q211.f K (n,())=some ((n,()),()):=by
 have R:=y.table;have H:=y.cast;have I:=y.doubts;have J:=y.places;have M:=y.others;simp only[Q211.f,Q211.pre];refine iE (aa.doubts n) (step:=λrec a=>Q211.s0 K (n,()) (Q211.l1 K (n,())) rec a) (λr i=>(r,(i:Int))) _ ?_ ?_ (by omega)
 ·intro rec r i u z;have:=y.by_ _ (BC u);simp only[Q211.s0,Q9.f];rw[bk (by omega:(i:Int)<(BB (aa.doubts n):Int)),ag u,ar i (by omega)];simp only[cond_true,BA];rw[dX (by omega)];simp only[BA];rw[szb _ _ _ (by omega) (by simp;omega)];rfl
 ·intro rec;simp only[Q211.s0,aQ,cond_false];refine iE (aa.places n) (step:=λrec a=>Q211.s1 K (n,()) (Q211.l2 K (n,())) rec a) (λr i=>(aa.doubts n,r,(i:Int))) _ ?_ ?_ (by omega)
  ·intro rec r i u z;have:=y.trips _ (BC u);simp only[Q211.s1,Q9.f];rw[bk (by omega:(i:Int)<(BB (aa.places n):Int)),ag u,ar i (by omega)];simp only[cond_true,BA];rw[dX (by omega)];simp only[BA];rw[szb _ _ _ (by omega) (by simp;omega)];rfl
  ·intro rec;simp only[Q211.s1,aQ,cond_false];refine iE (aa.others n) (step:=λrec a=>Q211.s2 K (n,()) rec a) (λr i=>(aa.doubts n,aa.places n,r,(i:Int))) _ ?_ ?_ (by omega)
   ·intro rec r i u z;have:=y.facts _ (BC u);simp only[Q211.s2,zcp8,Q1.f];rw[bk (by omega:(i:Int)<(BB (aa.others n):Int)),ag u,ar i (by omega)];simp only[cond_true,BA];rw[dX (by omega)];simp only[BA];rw[szb _ _ _ (by omega) (by simp;omega)];rfl
   ·intro rec;simp only[Q211.s2,zcp8,aQ,cond_false,Q1.f,Q3.f];rw[dX (by show (aa.table n).length*_<=_;omega),dX (by show (aa.cast n).length*_<=_;omega)];rfl
instance (f g:af):Decidable (bo f g):=by unfold bo;infer_instance
theorem pG (K:Nat)(f g:af):Q26.f K (f,g,())=rb (decide (bo f g)):=by
 obtain⟨b,r,u⟩:=sy K f g;rw[r,show b=decide (bo f g) by rw[CM,u];simp]
def bN (t:List af)(f:af):List af×Bool :=
 match t.find? (λg=>g.1==f.1) with
 |some g=>if bo f g then (bu (λg=>g.1) f t,true) else (t,false)
 |none=>(bu (λg=>g.1) f t,true)
theorem jb {t:List af}{f:af}(u:Asc (λg:af=>g.1) t){i:Nat}(r:i<t.length)(e:t[i].1=f.1):bN t f=if bo f t[i] then (bu (λg=>g.1) f t,true) else (t,false):=by
 unfold bN;rw[show t.find? (λg=>g.1==f.1)=some t[i] from oU u r e]
theorem gu {t:List af}{f:af}(h:∀ g∈t,g.1≠f.1):bN t f=(bu (λg=>g.1) f t,true):=by
 unfold bN;rw[show t.find? (λg=>g.1==f.1)=none from nK h]
theorem ju {e:Ty}{b:Nat}{xs:List e.den}{m:Nat}{v:e.den}(u:m<=xs.length)(r:b<=64)(y:xs.length<=1048576):fN e b xs (m:Int) [v]=some ((xs.take m++[v]++xs.drop m,()),()):=by
 unfold fN;have:(xs.length+[v].length)*b<=140737488355328:=Bx (Ca (show xs.length+[v].length<=1048577 by simp;omega) r) (by decide);rw[if_pos ⟨by omega,by omega,by simp,by simpa only[an]using this⟩,BE]
theorem qU {e:Ty}{xs:List e.den}{u:e.den×Unit->Option Bool}(p:e.den->Bool)(z:xs.length<=1048576)(h:∀ x∈xs,u (x,())=some (p x)):gK e xs u=some ((xs.filter (λx=>!p x),()),()):=by
 have:∀ r:List e.den,(∀ x∈r,u (x,())=some (p x))->lO u r=some (r.filter (λx=>!p x)):=by
  intro r;induction r with
  |nil=>intro _;rfl
  |cons y r H =>
   intro h;simp only[lO,h y (by simp),BA,H (λx z=>h x (by simp[z])),DE,BV];cases p y <;> rfl
 unfold gK;rw[if_pos z,this xs h];rfl
theorem put_s (K:Nat)(t:List af)(f:af)(Y:t.length<=1048576)(R:Asc (λg:af=>g.1) t)(Z:1048577<K):Q27.f K (t,f,())=some (((bN t f).1,(bN t f).2,()),()):=by
 simp only[Q27.f,Q27.pre];obtain⟨o,z,J⟩:=fj K t f.1 Y Z;rw[J];simp only[BA];cases z with
 |at_ i r e =>
  simp only;rw[jb R r e,decide_eq_true (by omega:((i:Nat):Int)>=0),ag r];simp only[cond_true,BA];rw[show Q26.f K (f,t[i],())=_ from pG K f t[i]];simp only[BA];by_cases z:bo f t[i]
  ·rw[decide_eq_true z,if_pos z];simp only[BI,cond_false];rw[szb _ _ _ (by omega) (by show (BB ([]:List af))+t.length<=_;simp;omega)];simp only[cond_true,BO,ag r,BA,BE];rw[ik (k:=λg:af=>g.1) R r e]
  ·rw[decide_eq_false z,if_neg z];rfl
 |no h =>
  simp only;rw[gu h,decide_eq_false (by omega:¬ (-1:Int)>=0)];simp only[cond_false];have M:∀ m:Nat,m<=t.length->(bif decide ((0:Int)<=0)&&decide ((0:Int)<=(m:Int))&&decide ((m:Int)<=(BB t:Int))&&true then (bif decide ((BB ([]:List af)+BB ((t.take (BD (m:Int))).drop (BD 0)))*32<=an) then (bif decide ((BB ([]++((t.take (BD (m:Int))).drop (BD 0)))+BB ([f]))*32<=an) then (bif decide ((0:Int)<=(m:Int))&&decide ((m:Int)<=(BB t:Int))&&decide ((BB t:Int)<=(BB t:Int))&&true then (bif decide ((BB (([]++((t.take (BD (m:Int))).drop (BD 0)))++([f]))+BB ((t.take (BD (BB t:Int))).drop (BD (m:Int))))*32<=an) then (some (((([]++((t.take (BD (m:Int))).drop (BD 0)))++([f]))++((t.take (BD (BB t:Int))).drop (BD (m:Int))),true,()),())) else none) else none) else none) else none) else (none:Option ((List af×Bool×Unit)×Unit)))=some ((t.take m++[f]++t.drop m,true,()),()):=by
   intro m X;rw[decide_eq_true (by omega:(0:Int)<=0),decide_eq_true (by omega:(0:Int)<=(m:Int)),decide_eq_true (by omega:(m:Int)<=(BB t:Int)),decide_eq_true (by omega:(BB t:Int)<=(BB t:Int))];simp only[BE,CR,Bu,BO,CL,CN,cond_true];have J:(t.take m).length=m:=by rw[BW];omega
   have H:(t.drop m).length=t.length-m:=B3;rw[szb _ _ _ (by omega) (by simp only[BM];omega),szb _ _ _ (by omega) (by simp only[BG,BM];omega),szb _ _ _ (by omega) (by simp only[BP,BG,BM];omega)];rfl
  have:=co (step:=λrec a=>Q27.s0 K (t,f,()) rec a) t.length (λi=>(i:Int)) (λj=>∃ h:j<t.length,¬ t[j].1<f.1) (some ((t.take t.length++[f]++t.drop t.length,true,()),())) (λj=>some ((t.take j++[f]++t.drop j,true,()),())) ?_ ?_ t.length K 0 (by omega) (by omega)
  ·have I:∀ m,m<=t.length->(∀ i,(r:i<t.length)->i<m->t[i].1<f.1)->(∀ i,(r:i<t.length)->m<=i->f.1<t[i].1)->t.take m++[f]++t.drop m=bu (λg=>g.1) f t:=λm X lo r=>gr (k:=λg:af=>g.1) X lo r
   rcases this with ⟨J,H⟩|⟨j,_,J,⟨h3,h4⟩,h5,H⟩
   ·rw[I t.length (BR _) (λi r _=>by
     have:=J i (BX _) r;exact CQ.1 λh=>this ⟨r,h⟩) (λi r h=>by omega)]at H
    exact H
   ·rw[I j (by omega) (λi r y=>by
     have:=h5 i (BX _) y;exact CQ.1 λh=>this ⟨r,h⟩) (λi r y=>by
     have a0:=h t[i] (BC r);rcases B8 y with O|O
     ·have:=cB.1 R j i h3 r O;omega
     ·subst O;omega)]at H
    exact H
  ·intro rec i r;simp only[Q27.s0];rw[bk (by omega:(i:Int)<(BB t:Int)),ag r,ar i (by omega)];simp only[cond_true,BA];by_cases u:t[i].1<f.1
   ·exact .inl ⟨λ⟨_,h⟩=>h u,by rw[decide_eq_true u];rfl⟩
   ·exact .inr ⟨⟨r,u⟩,by rw[decide_eq_false u];exact M i (by omega)⟩
  ·intro rec;simp only[Q27.s0,aQ,cond_false];exact M t.length (BR _)
theorem vr (K:Nat)(t:List af)(f:af)(R:t.length<=1048576)(y:Asc (λg:af=>g.1) t)(X:1048577<K):Q171.f K (t,f,())=some (((bN t f).1,(bN t f).2,()),()):=by
 simp only[Q171.f,Q1.f,Q2.f];rw[dX (by omega)];simp only[BA];obtain⟨m,r,Y⟩:=sx K t f.1 R y X;rw[Y];simp only[BA];by_cases I:∃ h:m<t.length,t[m].1=f.1
 ·obtain⟨O,H⟩:=I;rw[decide_eq_true ⟨O,H⟩,jb y O H];simp only[BI,cond_false,ag O,BA,BE];rw[mI K f t[m] X];simp only[BA];by_cases M:bo f t[m]
  ·rw[decide_eq_true ((jt H.symm).2 M),if_pos M,ik (k:=λg:af=>g.1) y O H];rfl
  ·rw[decide_eq_false (λh=>M ((jt H.symm).1 h)),if_neg M];rfl
 ·rw[decide_eq_false I,gu (λg hg e=>by
   obtain⟨i,u,rfl⟩:=BJ hg;rcases Cm i m with h|h|h
   ·have:=r.lo i u h;omega
   ·subst h;exact I ⟨u,e⟩
   ·have Z:=r.hi m (by omega) (BR _);have J:=cB.1 y m i (by omega) u h;omega)]
  simp only[Bv,cond_true];rw[ju r.le (by omega) R];simp only[BA];rw[gr (k:=λg:af=>g.1) r.le r.lo (λi u z=>by
   have:=r.hi i u z;rcases B8 z with J|J
   ·have Z:=r.hi m (by omega) (BR _);have h7:=cB.1 y m i (by omega) u J;omega
   ·subst J;have:t[m].1≠f.1:=λe=>I ⟨u,e⟩
    omega)]
def cU (l:List aG)(f:af):List aG:=if ∃ x∈l,x.1.1=f.1/\¬ bo f x.1 then l else bu (λx=>x.1.1) (f,4) l
theorem tW {l:List aG}{f:af}:cU l f=bif l.any (λx=>x.1.1==f.1&&!decide (bo f x.1)) then l else bu (λx=>x.1.1) (f,4) l:=by
 unfold cU;have:(∃ x∈l,x.1.1=f.1/\¬ bo f x.1)<->l.any (λx=>x.1.1==f.1&&!decide (bo f x.1))=true:=by
  rw[List.any_eq_true];simp
 by_cases h:∃ x∈l,x.1.1=f.1/\¬ bo f x.1
 ·rw[if_pos h,this.1 h];rfl
 ·rw[if_neg h,show l.any (λx=>x.1.1==f.1&&!decide (bo f x.1))=false by rw[Bool.eq_false_iff];exact λr=>h (this.2 r)];rfl
theorem zK (K:Nat)(l:List aG)(f:af)(Y:l.length<=1048576)(J:Asc (λx:aG=>x.1.1) l)(X:1048577<K):Q28.f K (l,f,())=some ((cU l f,()),()):=by
 have:=sC (step:=λrec a=>Q28.s0 K (l,f,()) rec a) (λx:aG=>x.1.1) (f,4) l (λx=>x.1.1==f.1&&!decide (bo f x.1)) (some ((l,()),())) (λM=>some ((M,()),())) (λr d i=>(r,d,(i:Int))) ?_ ?_ l.length 0 K [] false (by omega) (by omega) (by simp) (by simp)
 ·refine Cq (this:Q28.f K (l,f,())=_) ?_;rw[Bu,tW,kS J];cases l.any (λx=>x.1.1==f.1&&!decide (bo f x.1)) <;> rfl
 ·intro rec r d i O R H;simp only[Q28.s0];rw[bk (by omega:(i:Int)<(BB l:Int)),ag O,ar i (by omega)];simp only[cond_true,BA];have y:decide ((r.length+[((f,4):af×Nat)].length)*40<=an)=true:=szb _ _ _ (by omega) (by simp;omega);have I:decide (((r++[((f,4):aG)]).length+[l[i]].length)*40<=an)=true:=szb _ _ _ (by omega) (by simp;omega);have z:decide ((r.length+[l[i]].length)*40<=an)=true:=szb _ _ _ (by omega) (by simp;omega);by_cases u:l[i].1.1=f.1
  ·rw[show (l[i].1.1==f.1)=true by simpa using u,show (l[i].1.1 != f.1)=false by simpa using u,show decide (f.1<=l[i].1.1)=true from decide_eq_true (by omega)];simp only[cond_true,cond_false,B9,Ci,DJ,BN];rw[show Q26.f K (f,l[i].1,())=_ from pG K f l[i].1];simp only[BA];cases decide (bo f l[i].1) with
   |false=>rfl
   |true =>
    simp only[BI,cond_false];cases d with
    |true=>simp only[BI,cond_false,BN]
    |false =>
     simp only[Bv,cond_true];rw[y];rfl
  ·rw[show (l[i].1.1==f.1)=false by simpa using u,show (l[i].1.1 != f.1)=true by simpa using u];simp only[cond_true,cond_false,CK];cases d with
   |true =>
    simp only[BI,cond_false,CK,BN,Ct];rw[z];rfl
   |false =>
    simp only[Bv,cond_true,B9,Cp];cases decide (f.1<=l[i].1.1) with
    |true =>
     simp only[cond_true];rw[y];simp only[cond_true];rw[I];rfl
    |false =>
     simp only[cond_false,BN];rw[z];rfl
 ·intro rec r d R H;simp only[Q28.s0,aQ];cases d with
  |true=>simp only[BI,cond_false,cond_true,BN]
  |false =>
   have:=H rfl;have y:decide ((r.length+[((f,4):af×Nat)].length)*40<=an)=true:=szb _ _ _ (by omega) (by simp;omega);simp only[Bv,cond_true,cond_false];rw[y];rfl
theorem wR (K:Nat)(l:List aG)(f:af)(Z:l.length<=1048576)(X:cP l)(hf:bg f)(Y:1048577<K):Q173.f K (l,f,())=some ((cU l f,()),()):=by
 simp only[Q173.f,Q3.f,Q4.f];obtain⟨b1,e1,e2⟩:=oS K l Z Y;have a0:=e2.2 X;subst a0;obtain⟨b2,e3,e4⟩:=lU K f;have a2:=e4.2 hf;subst a2;rw[e1];simp only[BA,BI,cond_false];rw[e3];simp only[BA,BI,cond_false];rw[dX (by omega)];simp only[BA];rw[uD K l Z Y];simp only[BA];have hA:Asc (λg:af=>g.1) (l.map (·.1)):=by
  have:=X.2;unfold Asc at this ⊢;rw[By];exact this
 have r:(l.map (·.1)).length=l.length:=BU _;obtain⟨m,hm,h1⟩:=sx K (l.map (·.1)) f.1 (by rw[r];exact Z) hA Y;rw[h1];simp only[BA];have y:∀ i (h:i<l.length),(l.map (·.1))[i]'(by rw[r];exact h)=l[i].1:=λi h=>List.getElem_map _
 have I:=hm.le;rw[r]at I;have lo:∀ i,(u:i<l.length)->i<m->l[i].1.1<f.1:=λi u M=>by have:=hm.lo i (by rw[r];exact u) M;rwa [y i u]at this
 have R:∀ i,(u:i<l.length)->m<=i->f.1<=l[i].1.1:=λi u M=>by have:=hm.hi i (by rw[r];exact u) M;rwa [y i u]at this
 by_cases he:∃ h:m<l.length,l[m].1.1=f.1
 ·obtain⟨z,H⟩:=he;rw[decide_eq_true ⟨by rw[r];exact z,by rw[y m z];exact H⟩];simp only[BI,cond_false,ag z,BA,BE];rw[show Q153.f K (f,l[m].1,())=_ from mI K f l[m].1 Y];simp only[BA];have a3:∀ x∈l,x.1.1=f.1->x=l[m]:=λx J e=>by
   obtain⟨i,u,rfl⟩:=BJ J;have:=oP X.2 u z (by show l[i].1.1=l[m].1.1;rw[e,H]);subst this;rfl
  by_cases ho:bo f l[m].1
  ·rw[decide_eq_true ((jt H.symm).2 ho),cU,if_neg (λ⟨x,J,e,hn⟩=>hn (by rw[a3 x J e];exact ho)),ik (k:=λx:aG=>x.1.1) (x:=(f,4)) X.2 z H];rfl
  ·rw[decide_eq_false (λh=>ho ((jt H.symm).1 h)),cU,if_pos ⟨l[m],BC z,H,ho⟩];rfl
 ·have O:∀ x∈l,x.1.1≠f.1:=λx J e=>by
   obtain⟨i,u,rfl⟩:=BJ J;rcases Cm i m with h|h|h
   ·have:=lo i u h;omega
   ·subst h;exact he ⟨u,e⟩
   ·have h5:=R m (by omega) (BR _);have h6:l[m].1.1<l[i].1.1:=cB.1 X.2 m i (by omega) u h;omega
  rw[decide_eq_false (λ⟨z,H⟩=>he ⟨by rw[r]at z;exact z,by rw[y m (by rw[r]at z;exact z)]at H;exact H⟩),cU,if_neg (λ⟨x,J,e,_⟩=>O x J e)];simp only[Bv,cond_true];rw[ju I (by omega) Z];simp only[BA];rw[gr (k:=λx:aG=>x.1.1) (x:=(f,4)) I lo (λi u a1=>by
   have h1:=R i u a1;have z:=O l[i] (BC u);show f.1<l[i].1.1;omega)]
theorem od {α:Type}{k:α->Int}{x:α}:∀ {r:List α},jQ k x true r=r.filter (λy=>k y != k x)
 |[]=>rfl
 |y::r=>by
  simp only[jQ,BI,CK,cond_false,Ct,BO,BV];rw[od];cases k y != k x <;> rfl
theorem tX {α:Type}{k:α->Int}{x:α}{xs:List α}:bu k x (xs.filter λy=>!(k y==k x))=bu k x xs:=by
 simp only[bu,List.filter_filter];congr 1
 ·refine Cn λy _=>?_
  by_cases h:k y<k x
  ·rw[decide_eq_true h];simp;omega
  ·rw[decide_eq_false h];rfl
 ·congr 1;refine Cn λy _=>?_
  by_cases h:k x<k y
  ·rw[decide_eq_true h];simp;omega
  ·rw[decide_eq_false h];rfl
def mkD (r:Int)(f:af)(b:Int):bM:=(f.1,f.2.1,r,[b])
def cM (r:Int)(ds:List bM)(f:af)(b:Int):List bM:=if f.2.2.1=2 then bu (λd=>d.1) (mkD r f b) ds else ds.filter (λd=>!(d.1==f.1))
theorem zL (K:Nat)(n:aa)(f:af)(b:Int)(Y:(aa.doubts n).length<=1048576)(J:Asc (λd:bM=>d.1) (aa.doubts n))(X:1048577<K) :
  Q29.f K (n,f,b,())=some ((cM n.2.2.2.2.2.1 (aa.doubts n) f b,()),()):=by
 have:=sC (step:=λrec a=>Q29.s0 K (n,f,b,()) rec a) (λd:bM=>d.1) (mkD n.2.2.2.2.2.1 f b) (aa.doubts n) (λ_=>false) none (λM=>some ((M,()),())) (λr d i=>(r,d,(i:Int))) ?_ ?_ (aa.doubts n).length 0 K [] (f.2.2.1 != 2) (by omega) (by omega) (by simp) (by simp)
 ·refine Cq (this:Q29.f K (n,f,b,())=_) ?_;rw[Bu,show (aa.doubts n).any (λ_=>false)=false by simp,cM];by_cases u:f.2.2.1=2
  ·rw[if_pos u,show (f.2.2.1 != 2)=false by simpa using u,kS J];rfl
  ·rw[if_neg u,show (f.2.2.1 != 2)=true by simpa using u,od];rfl
 ·intro rec r d i O R z;simp only[Q29.s0];rw[bk (by omega:(i:Int)<(BB (aa.doubts n):Int)),ag O,ar i (by omega)];simp only[cond_true,cond_false,BA];have y:decide ((r.length+[mkD n.2.2.2.2.2.1 f b].length)*48<=an)=true:=szb _ _ _ (by omega) (by simp;omega);have H:decide (((r++[mkD n.2.2.2.2.2.1 f b]).length+[(aa.doubts n)[i]].length)*48<=an)=true:=szb _ _ _ (by omega) (by simp;omega);have I:decide ((r.length+[(aa.doubts n)[i]].length)*48<=an)=true:=szb _ _ _ (by omega) (by simp;omega);show (bif !d then (bif decide (f.1<=(aa.doubts n)[i].1) then (bif decide ((r.length+[mkD n.2.2.2.2.2.1 f b].length)*48<=an) then (bif (aa.doubts n)[i].1 != f.1 then (bif decide (((r++[mkD n.2.2.2.2.2.1 f b]).length+[(aa.doubts n)[i]].length)*48<=an) then (rec ((r++[mkD n.2.2.2.2.2.1 f b])++[(aa.doubts n)[i]],true,((i+1:Nat):Int))) else none) else (rec (r++[mkD n.2.2.2.2.2.1 f b],true,((i+1:Nat):Int)))) else none) else (bif (aa.doubts n)[i].1 != f.1 then (bif decide ((r.length+[(aa.doubts n)[i]].length)*48<=an) then (rec (r++[(aa.doubts n)[i]],d,((i+1:Nat):Int))) else none) else (rec (r,d,((i+1:Nat):Int))))) else (bif (aa.doubts n)[i].1 != f.1 then (bif decide ((r.length+[(aa.doubts n)[i]].length)*48<=an) then (rec (r++[(aa.doubts n)[i]],d,((i+1:Nat):Int))) else none) else (rec (r,d,((i+1:Nat):Int)))))=rec ((r++(bif !d&&decide (f.1<=(aa.doubts n)[i].1) then [mkD n.2.2.2.2.2.1 f b] else []))++(bif (aa.doubts n)[i].1 != f.1 then [(aa.doubts n)[i]] else []),d||decide (f.1<=(aa.doubts n)[i].1),((i+1:Nat):Int));rw[y,H,I];cases d <;> cases decide (f.1<=(aa.doubts n)[i].1) <;> cases (aa.doubts n)[i].1 != f.1 <;> simp only[BI,Bv,B9,CK,Ct,Cp,cond_true,cond_false,BN]
 ·intro rec r d R z;simp only[Q29.s0,aQ];cases d with
  |true=>simp only[BI,cond_false,cond_true,BN]
  |false =>
   have:=z rfl;have y:decide ((r.length+[mkD n.2.2.2.2.2.1 f b].length)*48<=an)=true:=szb _ _ _ (by omega) (by simp;omega);show (bif decide ((r.length+[mkD n.2.2.2.2.2.1 f b].length)*48<=an) then some ((r++[mkD n.2.2.2.2.2.1 f b],()),()) else none)=some ((r++[mkD n.2.2.2.2.2.1 f b],()),());rw[y];rfl
theorem zM (K:Nat)(t:List bM)(r:Int)(Z:t.length<=1048576)(H:Asc (λd:bM=>d.1) t)(h7:∀ d∈t,InP d.1 0 7)(X:InP r 0 7)(hK:1048577<K) :
  ∃ m,m<=t.length/\(∀ i,(h:i<t.length)->i<m->t[i].1<r)/\(∀ i,(h:i<t.length)->m<=i->r<=t[i].1)/\∃ b,Q176.f K (t,r,(λI=>(Q177.f K (I.1,I.2.1,())).map λy=>y.1.1),())=some ((((m:Nat):Int),b,()),()):=by
 let ks:Nat->Int:=λi=>if h:i<t.length then t[i].1 else 0
 have u:∀ i (h:i<t.length),ks i=t[i].1:=λi h=>by simp[ks,h]
 let z:Nat->Option ((Int×Bool×Unit)×Unit):=λm=>some ((((m:Nat):Int),decide (∃ h:m<t.length,t[m].1=r),()),())
 have Y:∀ d∈t,((Q177.f K (d,r,())).map λy=>y.1.1)=some (d.1-r):=λd hd=>by
  obtain⟨a1,a2⟩:=h7 d hd;obtain⟨a3,a4⟩:=X;simp only[Q177.f];rw[aH (by omega) (by omega)];rfl
 have:=pA (step:=λrec a=>Q176.s0 K (t,r,(λI=>(Q177.f K (I.1,I.2.1,())).map λy=>y.1.1),()) rec a) (ks:=ks) (n:=t.length) (t:=r) z Z
  (λi j M R=>by
   rw[u i (by omega),u j R];exact cB.1 H i j (by omega) R M) ?_ ?_ t.length K 0 t.length (by omega) (BX _) (BR _) (by omega) (λi J=>by omega) (λi J X=>by omega)
 ·obtain⟨m,h1,h2,h3,h4⟩:=this;exact⟨m,h1,λi h J=>by rw[<- u i h];exact h2 i J,λi h J=>by rw[<- u i h];exact h3 i J h,_,h4⟩
 ·intro rec a b a0 hb;have O:(a+b) / 2<t.length:=by omega
  simp only[Q176.s0];rw[decide_eq_true (by omega:(a:Int)<(b:Int)),nG (by omega)];simp only[cond_true];rw[ag O];simp only[BA,Y _ (BC O)];rw[u _ O,ar _ (by omega)];by_cases h:t[(a+b) / 2].1<r
  ·rw[if_pos h,decide_eq_true (by omega:t[(a+b) / 2].1-r<0)];rfl
  ·rw[if_neg h,decide_eq_false (by omega:¬ t[(a+b) / 2].1-r<0)];rfl
 ·intro rec a ha;simp only[Q176.s0];rw[decide_eq_false (by omega)];simp only[cond_false];by_cases h:a<t.length
  ·rw[decide_eq_true (by omega:(a:Int)<(BB t:Int)),ag h];simp only[cond_true,BA,Y _ (BC h)];have:(t[a].1-r==0)=decide (∃ h:a<t.length,t[a].1=r):=by
    rw[CM];simp only[beq_iff_eq,decide_eq_true_eq];exact⟨λe=>⟨h,by omega⟩,λ⟨_,e⟩=>by omega⟩
   rw[this]
  ·rw[decide_eq_false (by omega:¬ (a:Int)<(BB t:Int))];simp only[cond_false,z];rw[decide_eq_false (λ⟨h',_⟩=>h h')]
def fU (n:aa)(t:List af)(c:List aG)(ds:List bM):aa :=
 (n.1,n.2.1,n.2.2.1,n.2.2.2.1,n.2.2.2.2.1,n.2.2.2.2.2.1,n.2.2.2.2.2.2.1,n.2.2.2.2.2.2.2.1,t,c,n.2.2.2.2.2.2.2.2.2.2.1,ds,n.2.2.2.2.2.2.2.2.2.2.2.2)
def jR (n:aa)(f:af):Bool:=decide (∃ g∈aa.table n,g.1=f.1/\g.2.1=f.2.1/\g.2.2.1=f.2.2.1)
def sayOf (n:aa)(f:af)(b:Int):aa :=
 bif (bN (aa.table n) f).2 then fU n (bN (aa.table n) f).1 (cU (aa.cast n) f) (bif jR n f then aa.doubts n else cM n.2.2.2.2.2.1 (aa.doubts n) f b) else n
structure cq (n:aa):Prop where
 table:az (aa.table n)
 cast:cP (aa.cast n)
 asc:Asc (λd:bM=>d.1) (aa.doubts n)
 inp:∀ d∈aa.doubts n,InP d.1 0 7
 lt:(aa.table n).length<=1048576
 lc:(aa.cast n).length<=1048576
 ld:(aa.doubts n).length<=1048576
theorem sE {n:aa}{f g:af}(u:Asc (λg:af=>g.1) (aa.table n))(r:g∈aa.table n)(e:g.1=f.1):jR n f=(g.2.1==f.2.1&&g.2.2.1==f.2.2.1):=by
 rw[CM,jR,decide_eq_true_eq,CE,beq_iff_eq,beq_iff_eq];constructor
 ·rintro⟨x,hx,h1,h2,h3⟩;have:=gp u hx r (by rw[h1,e]);subst this;exact⟨h2,h3⟩
 ·rintro⟨h1,h2⟩;exact⟨g,r,e,h1,h2⟩
theorem sG {n:aa}{f:af}(h:∀ g∈aa.table n,g.1≠f.1):jR n f=false :=
 decide_eq_false λ⟨g,r,e,_⟩=>h g r e
theorem pH (K:Nat)(n:aa)(f:af)(b:Int)(h:cq n)(r:1048577<K):Q90.f K (n,f,b,())=some ((sayOf n f b,()),()):=by
 simp only[Q90.f,zcp8];rw[show Q27.f K (n.2.2.2.2.2.2.2.2.1,f,())=_ from put_s K (aa.table n) f h.lt h.table.2 r];simp only[BA];cases y:(bN (aa.table n) f).2 with
 |false =>
  simp only[sayOf,y];rfl
 |true =>
  simp only[sayOf,y,BI,cond_false,cond_true];obtain⟨o,M,J⟩:=fj K (aa.table n) f.1 h.lt r;rw[show Q25.f K (n.2.2.2.2.2.2.2.2.1,f.1,())=_ from J];simp only[BA];have H:=zL K (n.1,n.2.1,n.2.2.1,n.2.2.2.1,n.2.2.2.2.1,n.2.2.2.2.2.1,n.2.2.2.2.2.2.1,n.2.2.2.2.2.2.2.1,(bN (aa.table n) f).1,cU (aa.cast n) f,n.2.2.2.2.2.2.2.2.2.2) f b h.ld h.asc r;have I:=zK K (aa.cast n) f h.lc h.cast.2 r;cases M with
  |at_ i z e =>
   simp only;rw[sE h.table.2 (BC z) e,decide_eq_true (by omega:((i:Nat):Int)>=0)];simp only[cond_true];rw[show idx n.2.2.2.2.2.2.2.2.1 (i:Int)=some (aa.table n)[i] from ag z];simp only[BA];rw[show Q28.f K (n.2.2.2.2.2.2.2.2.2.1,f,())=_ from I];simp only[BA];rw[H];cases (aa.table n)[i].2.1==f.2.1 with
   |true =>
    cases (aa.table n)[i].2.2.1==f.2.2.1 <;> rfl
   |false=>rfl
  |no u =>
   simp only;rw[sG u,decide_eq_false (by omega:¬ (-1:Int)>=0)];simp only[cond_false];rw[show Q28.f K (n.2.2.2.2.2.2.2.2.2.1,f,())=_ from I];simp only[BA];rw[H];rfl
theorem lW {α:Type}{k:α->Int}{xs:List α}(h:Asc k xs)(p:α->Bool):Asc k (xs.filter p):=CS p h
theorem zN {R:Type}(K:Nat)(r:Int)(ds:List bM)(f:af)(b:Int)(G:List bM->Option R)(O:ds.length<=1048576)(Z:Asc (λd:bM=>d.1) ds)(h7:∀ d∈ds,InP d.1 0 7)(hf:bg f)(Y:1048577<K) :
  ((Q5.f K (ds,(λJ=>(Q175.f K (J.1,f,())).map λy=>y.1.1),())).bind λH=>bif f.2.2.1==2 then ((Q176.f K (H.1.1,f.1,(λX=>(Q177.f K (X.1,X.2.1,())).map λy=>y.1.1),())).bind λy7=>(Q6.f K (H.1.1,y7.1.1,[mkD r f b],())).bind λy8=>G y8.1.1) else G H.1.1)=G (cM r ds f b):=by
 rw[show Q5.f K (ds,(λJ=>(Q175.f K (J.1,f,())).map λy=>y.1.1),())=some ((ds.filter (λd=>!(d.1==f.1)),()),()) by
  simp only[Q5.f];exact qU _ O (λd _=>rfl)]
 simp only[BA,cM];by_cases z:f.2.2.1=2
 ·rw[if_pos z,show (f.2.2.1==2)=true by simpa using z];simp only[cond_true];have u:(ds.filter (λd=>!(d.1==f.1))).length<=1048576:=Bx (CF _ _) O;obtain⟨m,M,lo,hi,b',e⟩:=zM K (ds.filter (λd=>!(d.1==f.1))) f.1 u (lW Z _) (λd hd=>h7 d (BH.1 hd).1) hf.1 Y;rw[e];simp only[BA];rw[show Q6.f K (ds.filter (λd=>!(d.1==f.1)),(m:Int),[mkD r f b],())=some (((ds.filter (λd=>!(d.1==f.1))).take m++[mkD r f b]++(ds.filter (λd=>!(d.1==f.1))).drop m,()),()) by
   simp only[Q6.f];exact ju M (by omega) u]
  simp only[BA];have:=gr (k:=λd:bM=>d.1) (x:=mkD r f b) M lo (λi h I=>by
   have h1:=hi i h I;have h3:(!((ds.filter (λd=>!(d.1==f.1)))[i].1==f.1))=true:=(BH.1 (BC h)).2;have h4:(ds.filter (λd=>!(d.1==f.1)))[i].1≠f.1:=by simpa using h3
   show f.1<_;omega)
  rw[this];exact congrArg G (tX (k:=λd:bM=>d.1) (x:=mkD r f b))
 ·rw[if_neg z,show (f.2.2.1==2)=false by simpa using z];rfl
theorem zo (K:Nat)(n:aa)(f:af)(b:Int)(h:cq n)(y:bg f)(u:1048577<K):Q178.f K (n,f,b,())=some ((),(sayOf n f b,())):=by
 simp only[Q178.f,zcp8];have J:∃ g:af,∃ z,Q140.f K (aa.table n,f.1,())=some ((g,z,()),())/\jR n f=(g.2.2.1==f.2.2.1&&g.2.1==f.2.1):=by
  rcases iB K (aa.table n) f.1 h.lt u with ⟨r,_⟩|⟨_,⟨g,R,e,r⟩|⟨O,r⟩⟩
  ·exact absurd h.table r
  ·exact⟨g,_,r,by rw[sE h.table.2 R e,Bool.and_comm]⟩
  ·refine⟨_,_,r,?_⟩;rw[sG O,show ((0:Int)==f.2.2.1)=false by have:=y.2.2.1;simp;omega];rfl
 obtain⟨g,z,r,M⟩:=J;rw[show Q140.f K (n.2.2.2.2.2.2.2.2.1,f.1,())=_ from r];simp only[BA];rw[show Q171.f K (n.2.2.2.2.2.2.2.2.1,f,())=_ from vr K (aa.table n) f h.lt h.table.2 u];simp only[BA];cases H:(bN (aa.table n) f).2 with
 |false =>
  simp only[sayOf,H];rfl
 |true =>
  simp only[sayOf,H,BI,cond_false,cond_true];rw[show Q173.f K (n.2.2.2.2.2.2.2.2.2.1,f,())=_ from wR K (aa.cast n) f h.lc h.cast y u];simp only[BA];have I:=zN K n.2.2.2.2.2.1 (aa.doubts n) f b (λX=>some ((),(fU n (bN (aa.table n) f).1 (cU (aa.cast n) f) X,()))) h.ld h.asc h.inp y u;rw[M];cases g.2.2.1==f.2.2.1 with
  |true =>
   cases g.2.1==f.2.1 with
   |true=>rfl
   |false=>exact I
  |false=>exact I
theorem iP {α:Type}{k:α->Int}{xs:List α}(h:Asc k xs)(z:∀ x∈xs,InP (k x) 0 7):xs.length<=8:=by
 have:=(i9 (xs.map k) [0,1,2,3,4,5,6,7] (by unfold Asc at h;rw[By];exact h) (by decide) (λy r=>by
  obtain⟨x,u,rfl⟩:=BZ.1 r;obtain⟨H,I⟩:=z x u;simp only[CC,Ch,or_false];omega)).1
 rw[BU]at this;exact this
theorem gW (t:List af)(f:af):(bN t f).1=t\/(bN t f).1=bu (λg=>g.1) f t:=by
 unfold bN;split
 ·split
  ·exact .inr rfl
  ·exact .inl rfl
 ·exact .inr rfl
theorem kh {t:List af}{f:af}(h:az t)(u:bg f):az (bN t f).1:=by
 rcases gW t f with e|e
 ·rw[e];exact h
 ·rw[e];refine⟨λg y=>?_,e8 h.2⟩;rcases aX.1 y with rfl|⟨r,_⟩
  ·exact u
  ·exact h.1 g r
theorem pI {l:List aG}{f:af}(h:cP l)(y:bg f):cP (cU l f):=by
 unfold cU;split
 ·exact h
 ·refine⟨λx u=>?_,e8 h.2⟩;rcases aX.1 u with rfl|⟨r,_⟩
  ·exact⟨y,show (1:Int)<=4 by omega,show (4:Int)<=4 by omega⟩
  ·exact h.1 x r
theorem ki {r:Int}{ds:List bM}{f:af}{b:Int}{d:bM}(h:d∈cM r ds f b):d=mkD r f b\/d∈ds:=by
 unfold cM at h;split at h
 ·rcases aX.1 h with h|h
  ·exact .inl h
  ·exact .inr h.1
 ·exact .inr (BH.1 h).1
theorem sH {r:Int}{ds:List bM}{f:af}{b:Int}(h:Asc (λd:bM=>d.1) ds):Asc (λd:bM=>d.1) (cM r ds f b):=by
 unfold cM;split
 ·exact e8 h
 ·exact lW h _
theorem iF (n:aa)(f:af)(b:Int):∃ t c r,sayOf n f b=fU n t c r/\(t=aa.table n\/t=(bN (aa.table n) f).1)/\(c=aa.cast n\/c=cU (aa.cast n) f)/\(r=aa.doubts n\/r=cM n.2.2.2.2.2.1 (aa.doubts n) f b):=by
 unfold sayOf;cases (bN (aa.table n) f).2 with
 |false=>exact⟨aa.table n,aa.cast n,aa.doubts n,rfl,.inl rfl,.inl rfl,.inl rfl⟩
 |true =>
  cases jR n f with
  |true=>exact⟨_,_,_,rfl,.inr rfl,.inr rfl,.inl rfl⟩
  |false=>exact⟨_,_,_,rfl,.inr rfl,.inr rfl,.inr rfl⟩
theorem cq.mk' {n:aa}(r:az (aa.table n))(u:cP (aa.cast n))(y:Asc (λd:bM=>d.1) (aa.doubts n))(z:∀ d∈aa.doubts n,InP d.1 0 7):cq n where
 table:=r
 cast:=u
 asc:=y
 inp:=z
 lt:=Bx (iP r.2 (λg I=>(r.1 g I).1)) (by decide)
 lc:=Bx (iP u.2 (λx H=>(u.1 x H).1.1)) (by decide)
 ld:=Bx (iP y z) (by decide)
theorem il {n:aa}{f:af}{b:Int}(h:cq n)(u:bg f):cq (sayOf n f b):=by
 obtain⟨t,c,y,e,H,I,z⟩:=iF n f b;rw[e];refine cq.mk' ?_ ?_ ?_ ?_
 ·show az t;rcases H with rfl|rfl
  ·exact h.table
  ·exact kh h.table u
 ·show cP c;rcases I with rfl|rfl
  ·exact h.cast
  ·exact pI h.cast u
 ·show Asc _ y;rcases z with rfl|rfl
  ·exact h.asc
  ·exact sH h.asc
 ·show ∀ d∈y,InP d.1 0 7;rcases z with rfl|rfl
  ·exact h.inp
  ·intro d r;rcases ki r with rfl|r
   ·exact u.1
   ·exact h.inp d r
theorem ym {n:aa}{f:af}{b:Int}(h:∀ d∈aa.doubts n,d.2.2.2.length<=1048576):∀ d∈aa.doubts (sayOf n f b),d.2.2.2.length<=1048576:=by
 obtain⟨t,c,u,e,_,_,y⟩:=iF n f b;rw[e];show ∀ d∈u,_;rcases y with rfl|rfl
 ·exact h
 ·intro d r;rcases ki r with rfl|r
  ·exact Nat.succ_le_of_lt (by decide)
  ·exact h d r
theorem UpP.say {n:aa}(h:UpP n):cq n:=by
 obtain⟨r,_,_,⟨y,_⟩,_,u,_⟩:=h;refine cq.mk' r y u.2.1 λd z=>?_
 obtain⟨f,H,e,_⟩:=(u.1 d z).1;rw[<- e];exact (r.1 f H).1
theorem qr {α β A R:Type}(t:List α)(p:α->Bool)(g:α->β)(S:List β->Nat->A)(u:List β->Option R){step:(A->Option R)->A->Option R}
  (h:∀ (rec:A->Option R) (r:List β) (i:Nat) (O:i<t.length),r.length<=i->step rec (S r i)=rec (S (bif p t[i] then r++[g t[i]] else r) (i+1)))
  (z:∀ (rec:A->Option R) (r:List β),r.length<=t.length->step rec (S r t.length)=u r) {k:Nat} (H:t.length<k) :
  ae step k (S [] 0)=u ((t.filter p).map g):=by
 have:∀ (d i k:Nat) (r:List β),i+d=t.length->d<k->r.length<=i->ae step k (S r i)=u (r++((t.drop i).filter p).map g):=by
  intro d;induction d with
  |zero =>
   intro i k r O H J;obtain⟨k,rfl⟩:∃ I,k=I+1:=⟨k-1,by omega⟩;have:i=t.length:=by omega
   subst this;show step (ae step k) _=_;rw[z _ _ J];simp
  |succ d M =>
   intro i k r O H J;obtain⟨k,rfl⟩:∃ I,k=I+1:=⟨k-1,by omega⟩;have y:i<t.length:=by omega
   show step (ae step k) _=_;rw[h _ _ _ y J,BL y,BV];cases p t[i] with
   |true =>
    simp only[cond_true,if_true,Co];rw[M (i+1) k _ (by omega) (by omega) (by simp;omega),CB];rfl
   |false =>
    simp only[cond_false];rw[M (i+1) k _ (by omega) (by omega) (by omega)];rfl
 have:=this t.length 0 k [] (by omega) H (BR _)
 rwa [Bu,BO]at this
def sI:aa:=(0,false,false,false,0,0,0,0,[],[],(0,0,0,false),[],(0,0,0,0),[],[])
theorem tY:NB sI where
 table:=BX _
 cast:=BX _
 doubts:=BX _
 by_:=λd r=>absurd r Ch
 places:=BX _
 trips:=λd r=>absurd r Ch
 others:=BX _
 facts:=λd r=>absurd r Ch
theorem szw (a b c:Nat)(r:c<=128)(h:a+b<=2097152):decide ((a+b)*c<=an)=true:=by
 have:=Ca h r;exact decide_eq_true (by unfold an;omega)
def kz (n:aa):aa:=(n.1,n.2.1,true,n.2.2.2)
def nL (r:Int)(n:aa)(to:Int):ak:=(1,r,n.1,to,0,n.1,aa.coord n,aa.table n)
theorem zO (K:Nat)(n:aa)(r to:Int)(u:(aa.table n).length<=1048576):Q208.f K (n,r,to,())=some ((nL r n to,()),()):=by
 simp only[Q208.f,zcp4,Q187.f,BA,Q1.f];rw[dX (by show (aa.table n).length*_<=_;omega)];rfl
theorem nM (K:Nat)(n:aa)(r to:Int)(u:(aa.table n).length<=1048576):Q39.f K (n,r,to,0,n.1,aa.table n,())=some ((nL r n to,()),()):=by
 simp only[Q39.f];rw[szb _ _ _ (by omega) (by show (BB ([]:List af))+(aa.table n).length<=_;simp;omega)];rfl
def ez (f:af):Bool:=f.2.2.1==1||f.2.2.1==2
theorem uF (K:Nat)(t:List af)(f:af)(y:az t)(H:t.length<=1048576)(u:f∈t)(I:1048577<K):Q92.f K (t,f.1,())=rb (ez f):=by
 simp only[Q92.f];obtain⟨o,J,z⟩:=fj K t f.1 H I;rw[z];simp only[BA];cases J with
 |at_ i r e =>
  simp only;rw[decide_eq_true (by omega:((i:Nat):Int)>=0),ag r];simp only[cond_true,BA];rw[gp y.2 (BC r) u e,ez];cases f.2.2.1==1 <;> rfl
 |no h=>exact absurd rfl (h f u)
def sJ (n:aa)(f:af):Bool:=f.1 != n.1&&ez f
def lv (n:aa):List ak:=((aa.table n).filter (sJ n)).map λf=>nL 5 n f.1
def mL (n:aa):aa:=kz (sayOf n (n.1,n.2.2.2.2.1,4,n.2.2.2.1) n.1)
theorem sK (K:Nat)(x:ab Q105.ps)(m:aa)(z:az (aa.table m))(u:(aa.table m).length<=1048576)(J:1048577<K) :
  Q105.l0 K x ([],0,m.1,m.2.1,m.2.2.2.1,m.2.2.2.2.1,m.2.2.2.2.2.1,m.2.2.2.2.2.2.1,m.2.2.2.2.2.2.2.1,m.2.2.2.2.2.2.2.2.1,m.2.2.2.2.2.2.2.2.2.1,m.2.2.2.2.2.2.2.2.2.2.1.1,m.2.2.2.2.2.2.2.2.2.2.1.2.1,m.2.2.2.2.2.2.2.2.2.2.1.2.2.1,m.2.2.2.2.2.2.2.2.2.2.1.2.2.2,m.2.2.2.2.2.2.2.2.2.2.2.1,m.2.2.2.2.2.2.2.2.2.2.2.2.1.1,m.2.2.2.2.2.2.2.2.2.2.2.2.1.2.1,m.2.2.2.2.2.2.2.2.2.2.2.2.1.2.2.1,m.2.2.2.2.2.2.2.2.2.2.2.2.1.2.2.2,m.2.2.2.2.2.2.2.2.2.2.2.2.2.1,m.2.2.2.2.2.2.2.2.2.2.2.2.2.2)=some ((kz m,lv (kz m),()),()):=by
 refine qr (step:=λrec a=>Q105.s0 K x rec a) (aa.table m) (sJ (kz m)) (λf=>nL 5 (kz m) f.1) (λr i=>(r,(i:Int),m.1,m.2.1,m.2.2.2.1,m.2.2.2.2.1,m.2.2.2.2.2.1,m.2.2.2.2.2.2.1,m.2.2.2.2.2.2.2.1,m.2.2.2.2.2.2.2.2.1,m.2.2.2.2.2.2.2.2.2.1,m.2.2.2.2.2.2.2.2.2.2.1.1,m.2.2.2.2.2.2.2.2.2.2.1.2.1,m.2.2.2.2.2.2.2.2.2.2.1.2.2.1,m.2.2.2.2.2.2.2.2.2.2.1.2.2.2,m.2.2.2.2.2.2.2.2.2.2.2.1,m.2.2.2.2.2.2.2.2.2.2.2.2.1.1,m.2.2.2.2.2.2.2.2.2.2.2.2.1.2.1,m.2.2.2.2.2.2.2.2.2.2.2.2.1.2.2.1,m.2.2.2.2.2.2.2.2.2.2.2.2.1.2.2.2,m.2.2.2.2.2.2.2.2.2.2.2.2.2.1,m.2.2.2.2.2.2.2.2.2.2.2.2.2.2)) (λI=>some ((kz m,I,()),())) ?_ ?_ (by omega)
 ·intro rec r i y H;simp only[Q105.s0,zceae5f];rw[show decide ((i:Int)<(BB m.2.2.2.2.2.2.2.2.1:Int))=true from bk (by omega:(i:Int)<(BB (aa.table m):Int)),show idx m.2.2.2.2.2.2.2.2.1 (i:Int)=some (aa.table m)[i] from ag y,ar i (by omega)];simp only[cond_true,BA,sJ];rw[show (kz m).1=m.1 from rfl];cases M:(aa.table m)[i].1 != m.1 with
  |false=>rfl
  |true =>
   simp only[cond_true,B9];rw[show Q92.f K (m.2.2.2.2.2.2.2.2.1,(aa.table m)[i].1,())=_ from uF K (aa.table m) _ z u (BC y) J];simp only[BA];cases ez (aa.table m)[i] with
   |false=>rfl
   |true =>
    simp only[cond_true];refine (congrArg (λo=>BS o _) (nM K (kz m) 5 (aa.table m)[i].1 u)).trans ?_;simp only[BA];rw[szw _ _ _ (by omega) (by simp;omega)];rfl
 ·intro rec r H;simp only[Q105.s0,zceae5f];rw[show decide ((BB (aa.table m):Int)<(BB m.2.2.2.2.2.2.2.2.1:Int))=false from aQ _];rfl
theorem vt {n:aa}(r:gN n):bg (n.1,n.2.2.2.2.1,4,n.2.2.2.1):=⟨r.1,r.2.2.2.2.1,show (1:Int)<=4 by omega,show (4:Int)<=4 by omega⟩
theorem zP (K:Nat)(n:aa)(J:NB n)(y:gN n)(r:n.2.1=true)(I:n.2.2.1=false)(z:1048577<K):Q105.f K (n,())=some ((mL n,lv (mL n),()),()):=by
 have H:=(y.up r).say;have u:=il (b:=n.1) H (vt y);simp only[Q105.f,Q105.pre];rw[r,I];simp only[BI,cond_false];rw[pH K n _ n.1 H z];exact sK K _ _ u.table u.lt z
theorem kA {α r A R:Type}(ds:List α)(st:r->α->r)(Inv:r->Prop)(S:r->Nat->A)(u:r->Option R){step:(A->Option R)->A->Option R}(n:r)(Z:Inv n)
  (h:∀ (rec:A->Option R) (m:r) (i:Nat) (M:i<ds.length),Inv m->step rec (S m i)=rec (S (st m ds[i]) (i+1))/\Inv (st m ds[i]))
  (z:∀ (rec:A->Option R) (m:r),Inv m->step rec (S m ds.length)=u m) {k:Nat} (I:ds.length<k):ae step k (S n 0)=u (ds.foldl st n):=by
 have:∀ (d i k:Nat) (m:r),i+d=ds.length->d<k->Inv m->ae step k (S m i)=u ((ds.drop i).foldl st m):=by
  intro d;induction d with
  |zero =>
   intro i k m M I H;obtain⟨k,rfl⟩:∃ J,k=J+1:=⟨k-1,by omega⟩;have:i=ds.length:=by omega
   subst this;show step (ae step k) _=_;rw[z _ _ H,Cg];rfl
  |succ d X =>
   intro i k m M I H;obtain⟨k,rfl⟩:∃ J,k=J+1:=⟨k-1,by omega⟩;have y:i<ds.length:=by omega
   show step (ae step k) _=_;obtain⟨O,Y⟩:=h (ae step k) m i y H;rw[O,BL y];exact X (i+1) k _ (by omega) (by omega) Y
 have:=this ds.length 0 k n (by omega) I Z
 rwa [Bu]at this
theorem lX {α r:Type}{st:r->α->r}{Inv:r->Prop}:∀ {ds:List α} {n:r},Inv n->(∀ m,∀ d∈ds,Inv m->Inv (st m d))->Inv (ds.foldl st n)
 |[],_,h,_=>h
 |d::ds,n,h,y=>lX (ds:=ds) (y n d (by simp) h) (λm z u=>y m z (by simp[u]))
def aP (t:List af)(r:Int):af:=(t.find? λg=>g.1==r).getD (0,0,0,false)
theorem iG {t:List af}(y:Asc (λg:af=>g.1) t){f:af}(u:f∈t):aP t f.1=f:=by
 obtain⟨i,r,e⟩:=BJ u;unfold aP;rw[show t.find? (λg=>g.1==f.1)=some t[i] from oU y r (by rw[e]),e];rfl
theorem jv {t:List af}{r:Int}(h:∀ g∈t,g.1≠r):aP t r=(0,0,0,false):=by
 unfold aP;rw[show t.find? (λg=>g.1==r)=none from nK h];rfl
theorem mM (K:Nat)(t:List af)(r:Int)(y:az t)(H:t.length<=1048576)(I:1048577<K):∃ b,Q140.f K (t,r,())=some ((aP t r,b,()),()):=by
 rcases iB K t r H I with ⟨u,_⟩|⟨_,⟨g,J,e,u⟩|⟨z,u⟩⟩
 ·exact absurd y u
 ·refine⟨true,?_⟩;rw[u,<- e,iG y.2 J]
 ·refine⟨false,?_⟩;rw[u,jv z]
theorem sL (K:Nat)(t:List af)(r:Int)(u:az t)(y:t.length<=1048576)(z:1048577<K):Q92.f K (t,r,())=rb (ez (aP t r)):=by
 by_cases h:∃ f∈t,f.1=r
 ·obtain⟨f,H,rfl⟩:=h;rw[uF K t f u y H z,iG u.2 H]
 ·have I:∀ g∈t,g.1≠r:=λg O e=>h ⟨g,O,e⟩
  simp only[Q92.f];obtain⟨o,M,J⟩:=fj K t r y z;rw[J,jv I];cases M with
  |at_ i R e=>exact absurd e (I _ (BC R))
  |no _=>rfl
theorem gv (n:aa)(f:af)(b:Int):(sayOf n f b).1=n.1/\(sayOf n f b).2.1=n.2.1/\(sayOf n f b).2.2.1=n.2.2.1/\(sayOf n f b).2.2.2.1=n.2.2.2.1/\(sayOf n f b).2.2.2.2.1=n.2.2.2.2.1/\(sayOf n f b).2.2.2.2.2.1=n.2.2.2.2.2.1/\(sayOf n f b).2.2.2.2.2.2.1=n.2.2.2.2.2.2.1/\(sayOf n f b).2.2.2.2.2.2.2.1=n.2.2.2.2.2.2.2.1/\aa.probe (sayOf n f b)=aa.probe n/\(sayOf n f b).2.2.2.2.2.2.2.2.2.2.2.2=n.2.2.2.2.2.2.2.2.2.2.2.2:=by
 obtain⟨t,c,r,e,_⟩:=iF n f b;rw[e];exact⟨rfl,rfl,rfl,rfl,rfl,rfl,rfl,rfl,rfl,rfl⟩
theorem mN {t:List af}{f g:af}(r:g∈t):∃ u∈(bN t f).1,u.1=g.1:=by
 rcases gW t f with e|e
 ·rw[e];exact⟨g,r,rfl⟩
 ·rw[e];by_cases h:g.1=f.1
  ·exact⟨f,aX.2 (.inl rfl),h.symm⟩
  ·exact⟨g,aX.2 (.inr ⟨r,h⟩),rfl⟩
theorem jx {n:aa}{f:af}{b:Int}{g:af}(r:g∈aa.table n):∃ y∈aa.table (sayOf n f b),y.1=g.1:=by
 obtain⟨t,c,z,e,u,_⟩:=iF n f b;rw[e];rcases u with rfl|rfl
 ·exact⟨g,r,rfl⟩
 ·exact mN r
def qs (u r:Int)(len:Nat):Bool:=decide (u-r>=if 6-(len:Int)+1<3 then 3 else 6-(len:Int)+1)
def kD (f:af):af:=(f.1,f.2.1,3,f.2.2.2)
def im (n:aa)(d:bM):aa:=bif qs n.2.2.2.2.2.1 d.2.2.1 d.2.2.2.length then sayOf n (kD (aP (aa.table n) d.1)) n.1 else n
def kj (n:aa):aa:=(aa.doubts n).foldl im n
theorem due_s (K:Nat)(r:Int)(d:bM)(H:0<=d.2.2.1)(u:d.2.2.1<=r)(z:r<=1000000)(y:d.2.2.2.length<=1048576):Q89.f K (r,d,())=rb (qs r d.2.2.1 d.2.2.2.length):=by
 simp only[Q89.f];rw[aH (n:=6-(BB d.2.2.2:Int)) (by omega) (by omega),aH (n:=6-(BB d.2.2.2:Int)+1) (by omega) (by omega),aH (n:=r-d.2.2.1) (by omega) (by omega)];unfold qs;by_cases h:6-(BB d.2.2.2:Int)+1<3
 ·rw[decide_eq_true h,if_pos h];rfl
 ·rw[decide_eq_false h,if_neg h];rfl
structure pJ (ds:List bM) (now:Int) (n:aa):Prop where
 ok:cq n
 key:∀ d∈ds,∃ f∈aa.table n,f.1=d.1
 now_:n.2.2.2.2.2.1=now
theorem uG {f:af}(h:bg f):bg (kD f):=⟨h.1,h.2.1,show (1:Int)<=3 by omega,show (3:Int)<=4 by omega⟩
theorem ek {t:List af}{r:Int}(y:az t)(h:∃ f∈t,f.1=r):bg (aP t r)/\(aP t r).1=r/\aP t r∈t:=by
 obtain⟨f,u,rfl⟩:=h;rw[iG y.2 u];exact⟨y.1 f u,rfl,u⟩
theorem tZ {ds:List bM}{r:Int}{n:aa}{d:bM}(h:pJ ds r n)(I:d∈ds):pJ ds r (im n d):=by
 unfold im;cases qs n.2.2.2.2.2.1 d.2.2.1 d.2.2.2.length with
 |false=>exact h
 |true =>
  have J:=uG (ek h.ok.table (h.key d I)).1;refine⟨il h.ok J,λH u=>?_,(gv n _ _).2.2.2.2.2.1.trans h.now_⟩;obtain⟨g,M,e⟩:=h.key H u;obtain⟨O,y,z⟩:=jx (f:=kD (aP (aa.table n) d.1)) (b:=n.1) M;exact⟨O,y,z.trans e⟩
theorem AH (K:Nat)(n:aa)(h:pJ (aa.doubts n) n.2.2.2.2.2.1 n)(Z:∀ d∈aa.doubts n,0<=d.2.2.1/\d.2.2.1<=n.2.2.2.2.2.1/\d.2.2.2.length<=1048576)(y:n.2.2.2.2.2.1<=1000000)(I:1048577<K):Q91.f K (n,())=some ((kj n,()),()):=by
 have hl:=h.ok.ld;refine kA (step:=λrec a=>Q91.s0 K (n,()) rec a) (aa.doubts n) im (pJ (aa.doubts n) n.2.2.2.2.2.1) (λm i=>((i:Int),m.1,m.2.1,m.2.2.1,m.2.2.2.1,m.2.2.2.2.1,m.2.2.2.2.2.1,m.2.2.2.2.2.2.1,m.2.2.2.2.2.2.2.1,m.2.2.2.2.2.2.2.2.1,m.2.2.2.2.2.2.2.2.2.1,m.2.2.2.2.2.2.2.2.2.2.1.1,m.2.2.2.2.2.2.2.2.2.2.1.2.1,m.2.2.2.2.2.2.2.2.2.2.1.2.2.1,m.2.2.2.2.2.2.2.2.2.2.1.2.2.2,m.2.2.2.2.2.2.2.2.2.2.2.1,m.2.2.2.2.2.2.2.2.2.2.2.2.1.1,m.2.2.2.2.2.2.2.2.2.2.2.2.1.2.1,m.2.2.2.2.2.2.2.2.2.2.2.2.1.2.2.1,m.2.2.2.2.2.2.2.2.2.2.2.2.1.2.2.2,m.2.2.2.2.2.2.2.2.2.2.2.2.2.1,m.2.2.2.2.2.2.2.2.2.2.2.2.2.2)) (λm=>some ((m,()),())) n h ?_ ?_ (by omega)
 ·intro rec m i H u;refine⟨?_,tZ u (BC H)⟩;simp only[Q91.s0,zc286a0,zc3ec45];obtain⟨M,O,R⟩:=Z _ (BC H);rw[show decide ((i:Int)<(BB n.2.2.2.2.2.2.2.2.2.2.2.1:Int))=true from bk (by omega:(i:Int)<(BB (aa.doubts n):Int)),show idx n.2.2.2.2.2.2.2.2.2.2.2.1 (i:Int)=some (aa.doubts n)[i] from ag H,ar i (by omega)];simp only[cond_true,BA];rw[due_s K m.2.2.2.2.2.1 (aa.doubts n)[i] M (by rw[u.now_];exact O) (by rw[u.now_];exact y) R];simp only[BA];have r:=u.key _ (BC H);generalize (aa.doubts n)[i]=d at r M O R ⊢;unfold im;cases qs m.2.2.2.2.2.1 d.2.2.1 d.2.2.2.length with
  |false=>rfl
  |true =>
   simp only[cond_true];have z:=ek u.ok.table r;obtain⟨o,Y,X⟩:=fj K (aa.table m) d.1 u.ok.lt I;rw[show Q25.f K (m.2.2.2.2.2.2.2.2.1,d.1,())=_ from X];simp only[BA];cases Y with
   |no h=>exact absurd r (λ⟨f,hf,e⟩=>h f hf e)
   |at_ j J e =>
    simp only;rw[show idx m.2.2.2.2.2.2.2.2.1 ((j:Nat):Int)=some (aa.table m)[j] from ag J,gp u.ok.table.2 (BC J) z.2.2 (by rw[e,z.2.1])];simp only[BA];refine (congrArg (λo=>BS o _) (pH K m (kD (aP (aa.table m) d.1)) m.1 u.ok I)).trans ?_;rfl
 ·intro rec m u;simp only[Q91.s0,zc286a0,zc3ec45];rw[show decide ((BB (aa.doubts n):Int)<(BB n.2.2.2.2.2.2.2.2.2.2.2.1:Int))=false from aQ _];rfl
def setP (n:aa)(p:af):aa:=(n.1,n.2.1,n.2.2.1,n.2.2.2.1,n.2.2.2.2.1,n.2.2.2.2.2.1,n.2.2.2.2.2.2.1,n.2.2.2.2.2.2.2.1,n.2.2.2.2.2.2.2.2.1,n.2.2.2.2.2.2.2.2.2.1,p,n.2.2.2.2.2.2.2.2.2.2.2)
def noP:af:=(-1,0,0,false)
def pK (f:af):af:=(f.1,f.2.1,2,f.2.2.2)
def vu (n:aa)(f:af):Bool:=f.2.2.1==1&&f.1 != n.1&&f.1 != (aa.probe n).1
def fy (n:aa):List Int:=(((aa.table n).filter (vu n)).map (·.1)).take 2
def askW (n:aa)(to:Int):ak:=(1,3,n.1,to,(aa.probe n).2.2.1,(aa.probe n).1,aa.coord n,[])
def lw (n:aa):aa:=setP n ((aa.probe n).1,(aa.probe n).2.1,(aa.probe n).2.2.1,true)
def dl (n:aa):aa×List ak :=
 bif (aa.probe n).1==-1 then (n,[]) else
 bif !ez (aP (aa.table n) (aa.probe n).1) then (setP n noP,[]) else
 bif decide (n.2.2.2.2.2.1-(aa.probe n).2.1>=4) then (bif (aP (aa.table n) (aa.probe n).1).2.2.1==1 then sayOf (setP n noP) (pK (aP (aa.table n) (aa.probe n).1)) n.1 else setP n noP,[]) else
 bif decide (n.2.2.2.2.2.1-(aa.probe n).2.1>=2) then (bif !(aa.probe n).2.2.2 then (lw n,(fy n).map (askW n)) else (n,[])) else (n,[])
theorem cq.setP {n:aa}(h:cq n)(p:af):cq (setP n p):=⟨h.table,h.cast,h.asc,h.inp,h.lt,h.lc,h.ld⟩
theorem zQ {f:af}(h:bg f):bg (pK f):=⟨h.1,h.2.1,show (1:Int)<=2 by omega,show (2:Int)<=4 by omega⟩
theorem gX {t:List af}{r:Int}(h:ez (aP t r)=true):∃ f∈t,f.1=r:=by
 by_cases u:∃ f∈t,f.1=r
 ·exact u
 ·rw[jv (λg y e=>u ⟨g,y,e⟩)]at h;simp[ez]at h
theorem wS (K:Nat)(n:aa)(I:(aa.table n).length<=1048576)(J:1048577<K):Q93.f K (n,())=some ((fy n,()),()):=by
 have:=kR (step:=λrec a=>Q93.s0 K (n,()) rec a) (aa.table n) (vu n) (λf=>f.1) 2 (λy=>some ((y,()),())) ?_ ?_ ?_ (aa.table n).length 0 K [] (by omega) (by omega) (BR _) (by simp)
 ·exact this
 ·intro rec r i u z H;simp only[Q93.s0];rw[show decide ((i:Int)<(BB n.2.2.2.2.2.2.2.2.1:Int))=true from bk (by omega:(i:Int)<(BB (aa.table n):Int)),show idx n.2.2.2.2.2.2.2.2.1 (i:Int)=some (aa.table n)[i] from ag u,ar i (by omega),decide_eq_true (by omega:(BB r:Int)<2)];simp only[cond_true,BA,vu];show (bif (aa.table n)[i].1 != n.1 then (bif (aa.table n)[i].1 != (aa.probe n).1 then (bif (aa.table n)[i].2.2.1==1 then (bif decide ((BB r+BB ([(aa.table n)[i].1]))*8<=an) then (rec (r++([(aa.table n)[i].1]),((i+1:Nat):Int))) else none) else (rec (r,((i+1:Nat):Int)))) else (rec (r,((i+1:Nat):Int)))) else (rec (r,((i+1:Nat):Int))))=_;rw[szb _ _ _ (by omega) (by simp;omega)];cases (aa.table n)[i].1 != n.1 <;> cases (aa.table n)[i].1 != (aa.probe n).1 <;> cases (aa.table n)[i].2.2.1==1 <;> rfl
 ·intro rec r i u z H;simp only[Q93.s0];rw[show decide ((i:Int)<(BB n.2.2.2.2.2.2.2.2.1:Int))=true from bk (by omega:(i:Int)<(BB (aa.table n):Int)),decide_eq_false (by omega:¬ (BB r:Int)<2)];rfl
 ·intro rec r _;simp only[Q93.s0];rw[show decide ((BB (aa.table n):Int)<(BB n.2.2.2.2.2.2.2.2.1:Int))=false from aQ _];rfl
theorem AI (K:Nat)(n:aa)(h:cq n)(Y:(aa.probe n).1≠-1)(h0:0<=(aa.probe n).2.1)(h1:(aa.probe n).2.1<=1000000)(X:0<=n.2.2.2.2.2.1)(R:n.2.2.2.2.2.1<=1000000)(u:1048577<K) :
  Q94.f K (n,())=some (((dl n).1,(dl n).2,()),()):=by
 simp only[Q94.f,Q94.pre,zcp8,dl];rw[show ((aa.probe n).1==-1)=false by simpa using Y];simp only[cond_false];rw[show Q92.f K (n.2.2.2.2.2.2.2.2.1,n.2.2.2.2.2.2.2.2.2.2.1.1,())=_ from sL K (aa.table n) (aa.probe n).1 h.table h.lt u];simp only[BA];cases H:ez (aP (aa.table n) (aa.probe n).1) with
 |false=>rfl
 |true =>
  have y:=ek h.table (gX H);simp only[BI,cond_false];rw[aH (n:=n.2.2.2.2.2.1-n.2.2.2.2.2.2.2.2.2.2.1.2.1) (by show -9223372036854775808<=n.2.2.2.2.2.1-(aa.probe n).2.1;omega) (by show n.2.2.2.2.2.1-(aa.probe n).2.1<=9223372036854775807;omega)];show (bif decide (n.2.2.2.2.2.1-(aa.probe n).2.1>=4) then _ else _)=_;cases decide (n.2.2.2.2.2.1-(aa.probe n).2.1>=4) with
  |true =>
   simp only[cond_true];obtain⟨o,ho,e1⟩:=fj K (aa.table n) (aa.probe n).1 h.lt u;rw[show Q25.f K (n.2.2.2.2.2.2.2.2.1,n.2.2.2.2.2.2.2.2.2.2.1.1,())=_ from e1];simp only[BA];cases ho with
   |no z=>exact absurd (gX H) (λ⟨f,y,e⟩=>z f y e)
   |at_ j I e =>
    simp only;rw[show idx n.2.2.2.2.2.2.2.2.1 ((j:Nat):Int)=some (aa.table n)[j] from ag I,gp h.table.2 (BC I) y.2.2 (by rw[e,y.2.1])];simp only[BA];cases (aP (aa.table n) (aa.probe n).1).2.2.1==1 with
    |true =>
     simp only[cond_true];refine (congrArg (λo=>BS o _) (pH K (setP n noP) (pK (aP (aa.table n) (aa.probe n).1)) n.1 (h.setP noP) u)).trans ?_;rfl
    |false=>rfl
  |false =>
   simp only[cond_false];show (bif decide (n.2.2.2.2.2.1-(aa.probe n).2.1>=2) then _ else _)=_;cases decide (n.2.2.2.2.2.1-(aa.probe n).2.1>=2) with
   |false=>rfl
   |true =>
    simp only[cond_true];show (bif !(aa.probe n).2.2.2 then _ else _)=_;cases M:(aa.probe n).2.2.2 with
    |true=>rfl
    |false =>
     simp only[Bv,cond_true];refine (congrArg (λo=>BS o _) (wS K (lw n) h.lt u)).trans ?_;simp only[BA];rw[show fy (lw n)=fy n from rfl];have J:(fy n).length<=2:=CX _ _;refine Cq (qr (step:=λrec a=>Q94.s0 K (n,()) rec a) (fy n) (λ_=>true) (askW n) (λr i=>(r,fy n,(i:Int))) (λZ=>some ((lw n,Z,()),())) ?_ ?_ (by omega)) (by rw[BT.2 (λ_ _=>rfl)])
     ·intro rec r i O ha;simp only[Q94.s0,zcp8];rw[bk (by omega:(i:Int)<(BB (fy n):Int)),ag O,ar i (by omega),BE,ag O];simp only[cond_true,BA,Q39.f];rw[szb _ _ _ (by omega) (by simp)];simp only[cond_true,BA];rw[szw _ _ _ (by omega) (by simp;omega)];rfl
     ·intro rec r ha;simp only[Q94.s0,zcp8,aQ];rfl
def eA (n:aa)(i:Int):aa:=(n.1,n.2.1,n.2.2.1,n.2.2.2.1,i,n.2.2.2.2.2)
def dY (n:aa)(f:af):aa:=bif decide (bo f (aP (aa.table n) n.1))&&decide (f.2.1<999) then sayOf (eA n (f.2.1+1)) (n.1,f.2.1+1,1,n.2.2.2.1) n.1 else n
def dK (f:af)(b:Int)(d:bM):bM:=bif d.1==f.1&&d.2.1==f.2.1&&f.2.2.1==2 then (d.1,d.2.1,d.2.2.1,bu (λx:Int=>x) b d.2.2.2) else d
def jy (n:aa)(f:af)(b:Int):aa:=fU n (aa.table n) (aa.cast n) ((aa.doubts n).map (dK f b))
def cQ (b:Int)(n:aa)(f:af):aa:=bif f.1==n.1 then dY n f else jy (sayOf n f b) f b
def dr (n:aa)(t:List af)(b:Int):aa:=t.foldl (cQ b) n
def kT (l:List Int):Prop:=Asc (λx:Int=>x) l/\∀ x∈l,InP x 0 7
theorem kT.len {l:List Int}(h:kT l):l.length<=8:=iP h.1 h.2
theorem kT.put {l:List Int}{b:Int}(h:kT l)(u:InP b 0 7):kT (bu (λx:Int=>x) b l) :=
 ⟨e8 h.1,λx r=>by
  rcases aX.1 r with rfl|⟨r,_⟩
  ·exact u
  ·exact h.2 x r⟩
structure dt (n:aa):Prop where
 say:cq n
 me:InP n.1 0 7
 has:∃ g∈aa.table n,g.1=n.1
 by_:∀ d∈aa.doubts n,kT d.2.2.2
theorem cq.inc {n:aa}(h:cq n)(i:Int):cq (eA n i):=⟨h.table,h.cast,h.asc,h.inp,h.lt,h.lc,h.ld⟩
theorem jS {n:aa}{f:af}{b:Int}(H:InP b 0 7)(h:∀ d∈aa.doubts n,kT d.2.2.2):∀ d∈aa.doubts (sayOf n f b),kT d.2.2.2:=by
 obtain⟨t,c,u,e,_,_,y⟩:=iF n f b;rw[e];intro d r;have r:d∈u:=r;rcases y with rfl|rfl
 ·exact h d r
 ·rcases ki r with rfl|r
  ·exact⟨Cr _ _,λx z=>by rw[Bz.1 z];exact H⟩
  ·exact h d r
theorem qt {n:aa}{f:af}(r:InP n.1 0 7)(u:bg f)(h:f.2.1<999):bg (n.1,f.2.1+1,1,n.2.2.2.1):=by
 obtain⟨_,⟨y,z⟩,_⟩:=u;exact⟨r,⟨show (0:Int)<=f.2.1+1 by omega,show f.2.1+1<=999 by omega⟩,show (1:Int)<=1 by omega,show (1:Int)<=4 by omega⟩
theorem dt.refute {n:aa}{f:af}(h:dt n)(J:bg f):dt (dY n f):=by
 unfold dY;cases y:decide (bo f (aP (aa.table n) n.1))&&decide (f.2.1<999) with
 |false=>exact h
 |true =>
  have H:f.2.1<999:=by
   rw[CE]at y;exact of_decide_eq_true y.2
  obtain⟨u,_⟩:=gv (eA n (f.2.1+1)) (n.1,f.2.1+1,1,n.2.2.2.1) n.1;refine⟨il (h.say.inc _) (qt h.me J H),?_,?_,jS h.me h.by_⟩
  ·show InP (sayOf (eA n (f.2.1+1)) (n.1,f.2.1+1,1,n.2.2.2.1) n.1).1 0 7;rw[u];exact h.me
  ·obtain⟨g,M,e⟩:=h.has;obtain⟨z,r,I⟩:=jx (n:=eA n (f.2.1+1)) (f:=(n.1,f.2.1+1,1,n.2.2.2.1)) (b:=n.1) (g:=g) M;refine⟨z,r,?_⟩;show z.1=(sayOf (eA n (f.2.1+1)) (n.1,f.2.1+1,1,n.2.2.2.1) n.1).1;rw[u,I,e];rfl
theorem dt.confirm {n:aa}{f:af}{b:Int}(h:dt n)(Y:bg f)(R:InP b 0 7):dt (jy (sayOf n f b) f b):=by
 have u:=il (b:=b) h.say Y;obtain⟨M,_⟩:=gv n f b;have z:=jS (f:=f) R h.by_;obtain⟨g,Z,e⟩:=h.has;obtain⟨O,J,X⟩:=jx (n:=n) (f:=f) (b:=b) Z;have H:∀ d,(dK f b d).1=d.1:=λd=>by unfold dK;cases d.1==f.1&&d.2.1==f.2.1&&f.2.2.1==2 <;> rfl
 refine⟨⟨u.table,u.cast,?_,λd I=>?_,u.lt,u.lc,?_⟩,?_,⟨O,J,?_⟩,λd I=>?_⟩
 ·show Asc (λd:bM=>d.1) ((aa.doubts (sayOf n f b)).map (dK f b));unfold Asc;rw[By];exact u.asc.imp λ {a c} h=>by show (dK f b a).1<(dK f b c).1;rw[H,H];exact h
 ·obtain⟨y,r,rfl⟩:=BZ.1 I;rw[H];exact u.inp y r
 ·show ((aa.doubts (sayOf n f b)).map (dK f b)).length<=_;rw[BU];exact u.ld
 ·show InP (sayOf n f b).1 0 7;rw[M];exact h.me
 ·show O.1=(sayOf n f b).1;rw[M,X,e]
 ·obtain⟨y,r,rfl⟩:=BZ.1 I;unfold dK;cases y.1==f.1&&y.2.1==f.2.1&&f.2.2.1==2 with
  |false=>exact z y r
  |true=>exact (z y r).put R
theorem dt.step {n:aa}{f:af}{b:Int}(h:dt n)(r:bg f)(u:InP b 0 7):dt (cQ b n f):=by
 unfold cQ;cases f.1==n.1 with
 |true=>exact h.refute r
 |false=>exact h.confirm r u
theorem sM {α A R:Type}(ds:List α)(g:α->α)(S:List α->Nat->A)(u:List α->Option R){step:(A->Option R)->A->Option R}
  (h:∀ (rec:A->Option R) (cur:List α) (i:Nat) (X:i<ds.length),cur.length=ds.length->cur[i]?=some ds[i]->step rec (S cur i)=rec (S (cur.set i (g ds[i])) (i+1)))
  (z:∀ (rec:A->Option R) (cur:List α),cur.length=ds.length->step rec (S cur ds.length)=u cur) {k:Nat} (J:ds.length<k):ae step k (S ds 0)=u (ds.map g):=by
 have:∀ (d i k:Nat) (cur:List α),i+d=ds.length->d<k->cur.length=ds.length->(∀ j,(r:j<ds.length)->cur[j]?=some (if j<i then g ds[j] else ds[j]))->ae step k (S cur i)=u (ds.map g):=by
  intro d;induction d with
  |zero =>
   intro i k cur X J H I;obtain⟨k,rfl⟩:∃ M,k=M+1:=⟨k-1,by omega⟩;have:i=ds.length:=by omega
   subst this;show step (ae step k) _=_;rw[z _ _ H];congr 1;refine List.ext_getElem? λj=>?_
   rw[List.getElem?_map];by_cases r:j<ds.length
   ·rw[I j r,if_pos r,BK r];rfl
   ·rw[CO (by omega),CO (by omega)];rfl
  |succ d Y =>
   intro i k cur X J H I;obtain⟨k,rfl⟩:∃ M,k=M+1:=⟨k-1,by omega⟩;have y:i<ds.length:=by omega
   show step (ae step k) _=_;rw[h (ae step k) cur i y H (by rw[I i y,if_neg (by omega)])];refine Y (i+1) k _ (by omega) (by omega) (by rw[Cw,H]) λj r=>?_
   rw[List.getElem?_set];by_cases e:i=j
   ·subst e;rw[if_pos rfl,if_pos (by omega),if_pos (by omega)]
   ·rw[if_neg e,I j r];by_cases O:j<i
    ·rw[if_pos O,if_pos (by omega)]
    ·rw[if_neg O,if_neg (by omega)]
 exact this ds.length 0 k ds (by omega) J rfl (λj r=>by rw[if_neg (by omega),BK r])
theorem lY {α:Type}{cur:List α}{i:Nat}{x:α}(h:cur[i]?=some x):cur.set i x=cur:=by
 obtain⟨r,e⟩:=List.getElem?_eq_some_iff.1 h;rw[<- e,List.set_getElem_self]
theorem sN {by_:List Int}{b:Int}{m:Nat}(u:m<=by_.length)(y:by_.length<=8){R:Type}(G:List Int->Option R) :
  (bif decide ((0:Int)<=0)&&decide ((0:Int)<=(m:Int))&&decide ((m:Int)<=(BB by_:Int))&&true then (bif decide ((BB ([]:List Int)+BB ((by_.take (BD (m:Int))).drop (BD 0)))*8<=an) then (bif decide ((BB ([]++((by_.take (BD (m:Int))).drop (BD 0)))+BB ([b]))*8<=an) then (bif decide ((0:Int)<=(m:Int))&&decide ((m:Int)<=(BB by_:Int))&&decide ((BB by_:Int)<=(BB by_:Int))&&true then (bif decide ((BB (([]++((by_.take (BD (m:Int))).drop (BD 0)))++([b]))+BB ((by_.take (BD (BB by_:Int))).drop (BD (m:Int))))*8<=an) then G ((([]++((by_.take (BD (m:Int))).drop (BD 0)))++([b]))++((by_.take (BD (BB by_:Int))).drop (BD (m:Int)))) else none) else none) else none) else none) else none)=G (by_.take m++[b]++by_.drop m):=by
 rw[decide_eq_true (by omega:(0:Int)<=0),decide_eq_true (by omega:(0:Int)<=(m:Int)),decide_eq_true (by omega:(m:Int)<=(BB by_:Int)),decide_eq_true (by omega:(BB by_:Int)<=(BB by_:Int))];simp only[BE,CR,Bu,BO,CL,CN,cond_true];have r:(by_.take m).length=m:=by rw[BW];omega
 have z:(by_.drop m).length=by_.length-m:=B3;rw[szb _ _ _ (by omega) (by simp only[BM];omega),szb _ _ _ (by omega) (by simp only[BG,BM];omega),szb _ _ _ (by omega) (by simp only[BP,BG,BM];omega)];rfl
theorem wT (K:Nat)(n:aa)(f:af)(b:Int)(hd:∀ d∈aa.doubts n,kT d.2.2.2)(hl:(aa.doubts n).length<=1048576)(hK:1048577<K):Q32.f K (n,f,b,())=some ((jy n f b,()),()):=by
 simp only[Q32.f,Q32.pre];refine sM (step:=λrec a=>Q32.s0 K (n,f,b,()) (Q32.l1 K (n,f,b,()) rec) rec a) (aa.doubts n) (dK f b) (λu i=>((i:Int),u)) (λu=>some ((fU n (aa.table n) (aa.cast n) u,()),())) ?_ ?_ (by omega)
 ·intro rec u i hi X I;have M:i<u.length:=by omega
  have a2:u[i]=(aa.doubts n)[i]:=by
   rw[BK M]at I;exact DF I
  have R:=hd _ (BC hi);simp only[Q32.s0,zcp8];rw[bk (by omega:(i:Int)<(BB u:Int)),ag M,ar i (by omega),BE,ag M,a2];simp only[cond_true,BA];generalize ad:(aa.doubts n)[i]=d at R I ⊢;have y:rec (((i+1:Nat):Int),u)=rec (((i+1:Nat):Int),u.set i d):=by rw[lY I]
  unfold dK;by_cases h1:d.1=f.1
  case neg =>
   rw[show (d.1 != f.1)=true by simpa using h1,show (d.1==f.1)=false by simpa using h1];exact y
  by_cases h2:d.2.1=f.2.1
  case neg =>
   rw[show (d.1 != f.1)=false by simpa using h1,show (d.2.1 != f.2.1)=true by simpa using h2,show (d.2.1==f.2.1)=false by simpa using h2,Cy];exact y
  by_cases h3:f.2.2.1=2
  case neg =>
   rw[show (d.1 != f.1)=false by simpa using h1,show (d.2.1 != f.2.1)=false by simpa using h2,show (f.2.2.1 != 2)=true by simpa using h3,show (f.2.2.1==2)=false by simpa using h3,Cy];exact y
  rw[show (d.1 != f.1)=false by simpa using h1,show (d.2.1 != f.2.1)=false by simpa using h2,show (f.2.2.1 != 2)=false by simpa using h3,show (d.1==f.1)=true by simpa using h1,show (d.2.1==f.2.1)=true by simpa using h2,show (f.2.2.1==2)=true by simpa using h3];simp only[cond_false,CN,cond_true];have a1:=R.len;have a0:∀ m:Nat,m<=d.2.2.2.length->(∀ j,(J:j<d.2.2.2.length)->j<m->d.2.2.2[j]<b)->(∀ j,(J:j<d.2.2.2.length)->m<=j->b<d.2.2.2[j])->d.2.2.2.take m++[b]++d.2.2.2.drop m=bu (λx:Int=>x) b d.2.2.2:=λm Y lo hi=>gr (k:=λx:Int=>x) Y lo hi
  have:=co (step:=λr a=>Q32.s1 K (n,f,b,()) rec r a) d.2.2.2.length (λj=>((i:Int),(j:Int),u,d.1,d.2.1,d.2.2.1,d.2.2.2)) (λj=>∃ h:j<d.2.2.2.length,¬ d.2.2.2[j]<b)
   (rec (((i+1:Nat):Int),u.set i (d.1,d.2.1,d.2.2.1,d.2.2.2.take d.2.2.2.length++[b]++d.2.2.2.drop d.2.2.2.length)))
   (λj=>if h:j<d.2.2.2.length then (if d.2.2.2[j]=b then rec (((i+1:Nat):Int),u) else rec (((i+1:Nat):Int),u.set i (d.1,d.2.1,d.2.2.1,d.2.2.2.take j++[b]++d.2.2.2.drop j))) else none) ?_ ?_ d.2.2.2.length K 0 (by omega) (by omega)
  ·rcases this with ⟨a5,he⟩|⟨j,_,J,⟨Z,a9⟩,a4,he⟩
   ·refine Cq he ?_;rw[a0 _ (BR _) (λj J _=>by
     by_cases O:d.2.2.2[j]<b
     ·exact O
     ·exact absurd ⟨J,O⟩ (a5 j (BX _) J)) (λj J Y=>by omega)]
   ·refine Cq he ?_;rw[dif_pos Z];have lo:∀ m,(Y:m<d.2.2.2.length)->m<j->d.2.2.2[m]<b:=λm Y a3=>by
     by_cases O:d.2.2.2[m]<b
     ·exact O
     ·exact absurd ⟨Y,O⟩ (a4 m (BX _) a3)
    by_cases H:d.2.2.2[j]=b
    ·rw[if_pos H,<- ik (k:=λx:Int=>x) R.1 Z H];rw[show d.2.2.2.set j b=d.2.2.2 from lY (by rw[BK Z,H])];exact y
    ·rw[if_neg H,a0 j (by omega) lo (λm Y a6=>by
      rcases B8 a6 with h4|rfl
      ·have:=cB.1 R.1 j m (by omega) Y h4;omega
      ·omega)]
  ·intro r j J;simp only[Q32.s1];rw[bk (by omega:(j:Int)<(BB d.2.2.2:Int)),ag J,ar j (by omega)];simp only[cond_true,BA];by_cases O:d.2.2.2[j]<b
   ·left;refine⟨λ⟨_,h⟩=>h O,?_⟩;rw[decide_eq_true O];rfl
   ·right;refine⟨⟨J,O⟩,?_⟩;rw[decide_eq_false O,show ((j:Int)==(BB d.2.2.2:Int))=false by simp;omega,dif_pos J];simp only[cond_false];by_cases H:d.2.2.2[j]=b
    ·rw[if_pos H,show (d.2.2.2[j] != b)=false by simpa using H,ar i (by omega)];rfl
    ·rw[if_neg H,show (d.2.2.2[j] != b)=true by simpa using H];simp only[cond_true];refine (sN (m:=j) (b:=b) (Nat.le_of_lt J) a1 (λz=>(idx u (i:Int)).bind λ_=>(idx u (BD (i:Int):Nat)).bind λ_=>rec (wr .i64 ((i:Int)+1),u.set (BD (i:Int)) (d.1,(d.2.1,(d.2.2.1,z)))))).trans ?_;rw[BE,ag M,ar i (by omega)];rfl
  ·intro r;simp only[Q32.s1];rw[aQ];simp only[cond_false,beq_self_eq_true,cond_true];refine (sN (b:=b) (BR _) a1 (λz=>(idx u (i:Int)).bind λ_=>(idx u (BD (i:Int):Nat)).bind λ_=>rec (wr .i64 ((i:Int)+1),u.set (BD (i:Int)) (d.1,(d.2.1,(d.2.2.1,z)))))).trans ?_;rw[BE,ag M,ar i (by omega)];rfl
 ·intro rec u X;simp only[Q32.s0,zcp8];rw[<- X,aQ];rfl
theorem yn (K:Nat)(n:aa)(f:af)(h:dt n)(M:bg f)(y:1048577<K):Q31.f K (n,f,())=some ((dY n f,()),()):=by
 simp only[Q31.f,zcp4];have r:=ek h.say.table h.has;obtain⟨o,J,I⟩:=fj K (aa.table n) n.1 h.say.lt y;rw[show Q25.f K (n.2.2.2.2.2.2.2.2.1,n.1,())=_ from I];simp only[BA];cases J with
 |no u=>exact absurd h.has (λ⟨g,O,e⟩=>u g O e)
 |at_ j z e =>
  simp only;rw[show idx n.2.2.2.2.2.2.2.2.1 ((j:Nat):Int)=some (aa.table n)[j] from ag z,gp h.say.table.2 (BC z) r.2.2 (by rw[e,r.2.1])];simp only[BA];rw[pG];obtain⟨_,⟨X,R⟩,_⟩:=M;simp only[rb,BA,dY];cases decide (bo f (aP (aa.table n) n.1)) with
  |false=>rfl
  |true =>
   simp only[BI,cond_false,B9];by_cases H:f.2.1<999
   ·rw[decide_eq_false (by omega:¬ f.2.1>=999),decide_eq_true H,aH (by omega) (by omega)];simp only[cond_false,cond_true];refine (congrArg (λo=>BS o _) (pH K (eA n (f.2.1+1)) (n.1,f.2.1+1,1,n.2.2.2.1) n.1 (h.say.inc _) y)).trans ?_;rfl
   ·rw[decide_eq_true (by omega:f.2.1>=999),decide_eq_false H];rfl
theorem uH (K:Nat)(n:aa)(t:List af)(b:Int)(h:dt n)(I:∀ f∈t,bg f)(J:t.length<=1048576)(H:InP b 0 7)(y:1048577<K):Q33.f K (n,t,b,())=some ((dr n t b,()),()):=by
 refine kA (step:=λrec a=>Q33.s0 K (n,t,b,()) rec a) t (cQ b) dt (λm i=>((i:Int),m.1,m.2.1,m.2.2.1,m.2.2.2.1,m.2.2.2.2.1,m.2.2.2.2.2.1,m.2.2.2.2.2.2.1,m.2.2.2.2.2.2.2.1,m.2.2.2.2.2.2.2.2.1,m.2.2.2.2.2.2.2.2.2.1,m.2.2.2.2.2.2.2.2.2.2.1.1,m.2.2.2.2.2.2.2.2.2.2.1.2.1,m.2.2.2.2.2.2.2.2.2.2.1.2.2.1,m.2.2.2.2.2.2.2.2.2.2.1.2.2.2,m.2.2.2.2.2.2.2.2.2.2.2.1,m.2.2.2.2.2.2.2.2.2.2.2.2.1.1,m.2.2.2.2.2.2.2.2.2.2.2.2.1.2.1,m.2.2.2.2.2.2.2.2.2.2.2.2.1.2.2.1,m.2.2.2.2.2.2.2.2.2.2.2.2.1.2.2.2,m.2.2.2.2.2.2.2.2.2.2.2.2.2.1,m.2.2.2.2.2.2.2.2.2.2.2.2.2.2)) (λm=>some ((m,()),())) n h ?_ ?_ (by omega)
 ·intro rec m i z r;have u:=I _ (BC z);refine⟨?_,r.step u H⟩;simp only[Q33.s0,zc286a0,zc3ec45];rw[bk (by omega:(i:Int)<(BB t:Int)),ag z,ar i (by omega)];simp only[cond_true,BA];generalize t[i]=f at u ⊢;unfold cQ;cases f.1==m.1 with
  |true =>
   simp only[cond_true];refine (congrArg (λo=>BS o _) (yn K m f r u y)).trans ?_;rfl
  |false =>
   simp only[cond_false];refine (congrArg (λo=>BS o _) (pH K m f b r.say y)).trans ?_;simp only[BA];rw[wT K (sayOf m f b) f b (jS H r.by_) (il r.say u).ld y];rfl
 ·intro rec m r;simp only[Q33.s0,zc286a0,zc3ec45];rw[aQ];rfl
theorem zR (K:Nat)(l:List Int)(v:Int)(J:l.length<=1048576)(M:Asc (λx:Int=>x) l)(hK:1048577<K) :
  ∃ m,m<=l.length/\(∀ i,(h:i<l.length)->i<m->l[i]<v)/\(∀ i,(h:i<l.length)->m<=i->v<=l[i])/\Q181.f K (l,v,())=some ((((m:Nat):Int),decide (∃ h:m<l.length,l[m]=v),()),()):=by
 let ks:Nat->Int:=λi=>if h:i<l.length then l[i] else 0
 have r:∀ i (h:i<l.length),ks i=l[i]:=λi h=>by simp[ks,h]
 let u:Nat->Option ((Int×Bool×Unit)×Unit):=λm=>some ((((m:Nat):Int),decide (∃ h:m<l.length,l[m]=v),()),())
 have:=pA (step:=λrec a=>Q181.s0 K (l,v,()) rec a) (ks:=ks) (n:=l.length) (t:=v) u J
  (λi j z I=>by
   rw[r i (by omega),r j I];exact cB.1 M i j (by omega) I z) ?_ ?_ l.length K 0 l.length (by omega) (BX _) (BR _) (by omega) (λi y=>by omega) (λi y hn=>by omega)
 ·obtain⟨m,O,h2,Z,Y⟩:=this;exact⟨m,O,λi h y=>by rw[<- r i h];exact h2 i y,λi h y=>by rw[<- r i h];exact Z i y h,Y⟩
 ·intro rec a b X hb;have H:(a+b) / 2<l.length:=by omega
  simp only[Q181.s0];rw[decide_eq_true (by omega:(a:Int)<(b:Int)),nG (by omega)];simp only[cond_true];rw[ag H];simp only[BA,Q179.f,Q136.f,bne_self_eq_false,cond_false];rw[r _ H,ar _ (by omega)];by_cases h:l[(a+b) / 2]<v
  ·rw[if_pos h,decide_eq_true h];rfl
  ·rw[if_neg h,decide_eq_false h];rfl
 ·intro rec a ha;simp only[Q181.s0];rw[decide_eq_false (by omega)];simp only[cond_false];by_cases h:a<l.length
  ·rw[decide_eq_true (by omega:(a:Int)<(BB l:Int)),ag h];simp only[cond_true,BA,Q180.f,bne_self_eq_false,cond_false];by_cases e:l[a]=v
   ·rw[show (l[a]==v)=true by simpa using e];simp only[cond_true,u];rw[decide_eq_true ⟨h,e⟩]
   ·rw[show (l[a]==v)=false by simpa using e];simp only[cond_false,u];rw[decide_eq_false (λ⟨_,R⟩=>e R)]
  ·rw[decide_eq_false (by omega:¬ (a:Int)<(BB l:Int))];simp only[cond_false,u];rw[decide_eq_false (λ⟨h',_⟩=>h h')]
abbrev flN {R:Type}(n:aa)(r:R):=(n.1,n.2.1,n.2.2.1,n.2.2.2.1,n.2.2.2.2.1,n.2.2.2.2.2.1,n.2.2.2.2.2.2.1,n.2.2.2.2.2.2.2.1,n.2.2.2.2.2.2.2.2.1,n.2.2.2.2.2.2.2.2.2.1,n.2.2.2.2.2.2.2.2.2.2.1.1,n.2.2.2.2.2.2.2.2.2.2.1.2.1,n.2.2.2.2.2.2.2.2.2.2.1.2.2.1,n.2.2.2.2.2.2.2.2.2.2.1.2.2.2,n.2.2.2.2.2.2.2.2.2.2.2.1,n.2.2.2.2.2.2.2.2.2.2.2.2.1.1,n.2.2.2.2.2.2.2.2.2.2.2.2.1.2.1,n.2.2.2.2.2.2.2.2.2.2.2.2.1.2.2.1,n.2.2.2.2.2.2.2.2.2.2.2.2.1.2.2.2,n.2.2.2.2.2.2.2.2.2.2.2.2.2.1,n.2.2.2.2.2.2.2.2.2.2.2.2.2.2,r)
abbrev flE (n:aa):=(n.1,n.2.1,n.2.2.1,n.2.2.2.1,n.2.2.2.2.1,n.2.2.2.2.2.1,n.2.2.2.2.2.2.1,n.2.2.2.2.2.2.2.1,n.2.2.2.2.2.2.2.2.1,n.2.2.2.2.2.2.2.2.2.1,n.2.2.2.2.2.2.2.2.2.2.1.1,n.2.2.2.2.2.2.2.2.2.2.1.2.1,n.2.2.2.2.2.2.2.2.2.2.1.2.2.1,n.2.2.2.2.2.2.2.2.2.2.1.2.2.2,n.2.2.2.2.2.2.2.2.2.2.2.1,n.2.2.2.2.2.2.2.2.2.2.2.2.1.1,n.2.2.2.2.2.2.2.2.2.2.2.2.1.2.1,n.2.2.2.2.2.2.2.2.2.2.2.2.1.2.2.1,n.2.2.2.2.2.2.2.2.2.2.2.2.1.2.2.2,n.2.2.2.2.2.2.2.2.2.2.2.2.2.1,n.2.2.2.2.2.2.2.2.2.2.2.2.2.2)
theorem wU (K:Nat)(n0:aa)(t:List af)(n:aa)(f:af)(b:Int)(i:Nat)(hi:i<=1048576)(hd:∀ d∈aa.doubts n,kT d.2.2.2)(hl:(aa.doubts n).length<=1048576)(hK:1048577<K)(H:Q182.A0->Option Q182.Res) :
  Q182.l1 K (n0,t,b,()) H ((i:Int),(BB (aa.doubts n):Int),0,flN n f)=H (((i+1:Nat):Int),flE (jy n f b)):=by
 refine sM (step:=λr a=>Q182.s1 K (n0,t,b,()) H r a) (aa.doubts n) (dK f b) (λu k=>((i:Int),(BB (aa.doubts n):Int),(k:Int),flN (fU n (aa.table n) (aa.cast n) u) f)) (λu=>H (((i+1:Nat):Int),flE (fU n (aa.table n) (aa.cast n) u))) ?_ ?_ (by omega)
 ·intro rec u k hk X I;have Z:k<u.length:=by omega
  have a0:u[k]=(aa.doubts n)[k]:=by
   rw[BK Z]at I;exact DF I
  have J:=hd _ (BC hk);have z:idx u (k:Int)=some (aa.doubts n)[k]:=by rw[ag Z,a0]
  simp only[Q182.s1,zcp4,zcp8];rw[bk (by omega:(k:Int)<(BB (aa.doubts n):Int)),ar k (by omega),BE];simp only[cond_true];refine (congrArg (λo=>BS o _) z).trans ?_;simp only[BA];generalize a2:(aa.doubts n)[k]=d at J I z ⊢;have y:rec ((i:Int),(BB (aa.doubts n):Int),((k+1:Nat):Int),flN (fU n (aa.table n) (aa.cast n) u) f)=rec ((i:Int),(BB (aa.doubts n):Int),((k+1:Nat):Int),flN (fU n (aa.table n) (aa.cast n) (u.set k d)) f):=by rw[lY I]
  unfold dK;by_cases h3:f.2.2.1=2
  case neg =>
   rw[show (f.2.2.1 != 2)=true by simpa using h3,show (f.2.2.1==2)=false by simpa using h3,Cy];exact y
  rw[show (f.2.2.1 != 2)=false by simpa using h3,show (f.2.2.1==2)=true by simpa using h3];simp only[cond_false,Ci];refine (congrArg (λo=>BS o _) z).trans ?_;simp only[BA];by_cases h1:d.1=f.1
  case neg =>
   rw[show (d.1 != f.1)=true by simpa using h1,show (d.1==f.1)=false by simpa using h1,CK];exact y
  rw[show (d.1 != f.1)=false by simpa using h1,show (d.1==f.1)=true by simpa using h1];simp only[cond_false,B9];refine (congrArg (λo=>BS o _) z).trans ?_;simp only[BA];by_cases h2:d.2.1=f.2.1
  case neg =>
   rw[show (d.2.1 != f.2.1)=true by simpa using h2,show (d.2.1==f.2.1)=false by simpa using h2];exact y
  rw[show (d.2.1 != f.2.1)=false by simpa using h2,show (d.2.1==f.2.1)=true by simpa using h2];simp only[cond_false,cond_true];refine (congrArg (λo=>BS o _) z).trans ?_;simp only[BA];have a1:=J.len;obtain⟨m,hm,lo,Y,hs⟩:=zR K d.2.2.2 b (by omega) J.1 hK;refine (congrArg (λo=>BS o _) hs).trans ?_;simp only[BA];by_cases hb:∃ h:m<d.2.2.2.length,d.2.2.2[m]=b
  ·rw[decide_eq_true hb];obtain⟨O,e⟩:=hb;rw[show bu (λx:Int=>x) b d.2.2.2=d.2.2.2 by rw[<- ik (k:=λx:Int=>x) J.1 O e];exact lY (by rw[BK O,e])];exact y
  ·rw[decide_eq_false hb];simp only[Bv,cond_true];refine (congrArg (λo=>BS o _) z).trans ?_;simp only[BA];refine (congrArg (λo=>BS o _) z).trans ?_;simp only[BA];have M:Q7.f K (d.2.2.2,(m:Int),[b],())=some ((d.2.2.2.take m++[b]++d.2.2.2.drop m,()),()):=ju hm (by decide) (by show d.2.2.2.length<=1048576;omega);refine (congrArg (λo=>BS o _) M).trans ?_;simp only[BA];refine (congrArg (λo=>BS o _) z).trans ?_;rw[<- gr (k:=λx:Int=>x) hm lo (λj hj R=>by
    rcases Int.lt_or_eq_of_le (Y j hj R) with h|h
    ·exact h
    ·exfalso;rcases B8 R with h4|rfl
     ·have:=cB.1 J.1 m j (by omega) hj h4;have h5:=Y m (by omega) (BR _);omega
     ·exact hb ⟨hj,h.symm⟩)]
   simp only[BA,Nat.beq_refl,cond_true];rfl
 ·intro rec u X;simp only[Q182.s1,zcp4,zcp8];rw[aQ,ar i (by omega)];rfl
theorem yp {R:Type}(K:Nat)(n:aa)(f:af)(h:dt n)(u:bg f)(e:f.1=n.1)(r:1048577<K)(G:aa->Option R) :
  ((Q140.f K (aa.table n,n.1,())).bind λY=>(Q154.f K (f,Y.1.1,())).bind λH=>bif H.1.1 then (bif decide (f.2.1<999) then ((Q178.f K (eA n (wr .i64 (f.2.1+1)),(n.1,wr .i64 (f.2.1+1),1,n.2.2.2.1),n.1,())).bind λO=>G O.2.1) else G n) else G n)=G (dY n f):=by
 obtain⟨b',I⟩:=mM K (aa.table n) n.1 h.say.table h.say.lt r;rw[I];simp only[BA];obtain⟨J,z,p3⟩:=ek h.say.table h.has;obtain⟨c,X,M⟩:=pB K f (aP (aa.table n) n.1) r;rw[X];have Z:c=decide (bo f (aP (aa.table n) n.1)):=by
  rw[CM,M,decide_eq_true_eq];exact⟨λh=>h.2.2.2,λh=>⟨u,J,e.trans z.symm,h⟩⟩
 subst Z;obtain⟨_,⟨i0,i1⟩,_⟩:=id u;simp only[rb,BA,dY];cases decide (bo f (aP (aa.table n) n.1)) with
 |false=>rfl
 |true =>
  simp only[cond_true,B9];by_cases y:f.2.1<999
  ·rw[decide_eq_true y,aH (by omega) (by omega)];simp only[cond_true];rw[zo K (eA n (f.2.1+1)) (n.1,f.2.1+1,1,n.2.2.2.1) n.1 (h.say.inc _) (qt h.me u y) r];rfl
  ·rw[decide_eq_false y];rfl
theorem uI (K:Nat)(n:aa)(t:List af)(b:Int)(h:dt n)(J:∀ f∈t,bg f)(M:t.length<=1048576)(I:InP b 0 7)(y:1048577<K):Q182.f K (n,t,b,())=some ((),(dr n t b,())):=by
 refine kA (step:=λrec a=>Q182.s0 K (n,t,b,()) (Q182.l1 K (n,t,b,()) rec) rec a) t (cQ b) dt (λm i=>((i:Int),flE m)) (λm=>some ((),(m,()))) n h ?_ ?_ (by omega)
 ·intro rec m i H r;have u:=J _ (BC H);refine⟨?_,r.step u I⟩;simp only[Q182.s0,zc286a0,zc3ec45,zcf8680,zcp4];rw[bk (by omega:(i:Int)<(BB t:Int)),ag H,ar i (by omega)];simp only[cond_true,BA];generalize t[i]=f at u ⊢;unfold cQ;by_cases e:f.1=m.1
  ·rw[show (f.1==m.1)=true by simpa using e];simp only[cond_true];exact yp K m f r u e y (λz=>rec (((i+1:Nat):Int),flE z))
  ·rw[show (f.1==m.1)=false by simpa using e];simp only[cond_false];refine (congrArg (λo=>BS o _) (zo K m f b r.say u y)).trans ?_;simp only[BA];exact wU K n t (sayOf m f b) f b i (by omega) (jS I r.by_) (il r.say u).ld y rec
 ·intro rec m r;simp only[Q182.s0,zc286a0,zc3ec45,zcf8680,zcp4];rw[aQ];rfl
def dy {α:Type}(r:α->α->Bool)(x:α):List α->List α->List α
 |[],B=>x::B
 |y::A,B=>bif r x y then dy r x A (y::B) else (y::A).reverse++x::B
def cR {α:Type}(r:α->α->Bool):List α->List α->List α
 |done,[]=>done
 |done,x::u=>cR r (dy r x done.reverse []) u
theorem oV {α:Type}(r:α->α->Bool)(x:α):∀ (A B C:List α),dy r x A (B++C)=dy r x A B++C
 |[],B,C=>rfl
 |y::A,B,C=>by
  simp only[dy];cases r x y with
  |true=>exact oV r x A (y::B) C
  |false=>simp
theorem oW {α:Type}(r:α->α->Bool)(x:α):∀ (A B:List α),(dy r x A B).length=A.length+B.length+1
 |[],B=>by simp[dy]
 |y::A,B=>by
  simp only[dy];cases r x y with
  |true=>simp only[cond_true];rw[oW r x A (y::B)];simp;omega
  |false=>simp;omega
theorem mO {α:Type}(r:α->α->Bool)(x:α):∀ (A B:List α),(dy r x A B).Perm (x::(A.reverse++B))
 |[],B=>by simp[dy]
 |y::A,B=>by
  simp only[dy];cases r x y with
  |true=>exact (mO r x A (y::B)).trans (by simp)
  |false=>simp only[cond_false];exact C8
theorem lZ {α:Type}(r:α->α->Bool):∀ (xs done:List α),(cR r done xs).Perm (done++xs)
 |[],done=>by simp[cR]
 |x::xs,done=>by
  simp only[cR];refine (lZ r xs _).trans ?_;have:=mO r x done.reverse [];simp only[Bw,BN]at this;exact (this.append_right xs).trans (by simpa using (C8 (a:=x) (l₁:=done) (l₂:=xs)).symm)
def jE {α:Type}(r:α->α->Bool)(xs:List α):Prop:=xs.Pairwise λa b=>r b a=false
theorem kU {α:Type}(r:α->α->Bool)(H:∀ a b c,r a b=false->r b c=false->r a c=false)(x:α) :
  ∀ (A B:List α),jE r A.reverse->dy r x A B=(A.reverse.filter λy=>!r x y)++x::((A.reverse.filter λy=>r x y)++B)
 |[],B,_=>rfl
 |y::A,B,h=>by
  simp only[dy];have J:jE r A.reverse:=by
   unfold jE at h ⊢;rw[CJ,CH]at h;exact h.1
  cases z:r x y with
  |true =>
   simp only[cond_true];rw[kU r H x A (y::B) J];simp[z,B7]
  |false =>
   have I:∀ a∈A.reverse,r x a=false:=λa u=>by
    unfold jE at h;rw[CJ,CH]at h;exact H x y a z (h.2.2 a u y (by simp))
   simp only[cond_false];have M:(y::A).reverse.filter (λy=>!r x y)=(y::A).reverse:=BT.2 λa u=>by
    rw[CJ,B6,Bz]at u;rcases u with u|rfl
    ·rw[I a u];rfl
    ·rw[z];rfl
   have O:(y::A).reverse.filter (λy=>r x y)=[]:=BY.2 λa u=>by
    rw[CJ,B6,Bz]at u;rcases u with u|rfl
    ·rw[I a u];simp
    ·rw[z];simp
   rw[M,O];rfl
theorem vv {α:Type}(r:α->α->Bool)(I:∀ a b c,r a b=false->r b c=false->r a c=false)(u:∀ a b,r a b=true->r b a=false)(x:α)(A:List α)(h:jE r A):jE r (dy r x A.reverse []):=by
 rw[kU r I x A.reverse [] (by rwa [Bw])];unfold jE at h ⊢;simp only[Bw,BN];rw[CH];refine⟨h.filter _,?_,?_⟩
 ·rw[BQ];refine⟨λa y=>?_,h.filter _⟩;exact u _ _ (by simpa using (BH.1 y).2)
 ·intro a y b z;have H:r x a=false:=by simpa using (BH.1 y).2
  rcases CC.1 z with rfl|z
  ·exact H
  ·have J:r x b=true:=by simpa using (BH.1 z).2
   exact I b x a (u _ _ J) H
theorem mP {α:Type}(r:α->α->Bool)(y:∀ a b c,r a b=false->r b c=false->r a c=false)(u:∀ a b,r a b=true->r b a=false):∀ (xs done:List α),jE r done->jE r (cR r done xs)
 |[],done,h=>h
 |x::xs,done,h=>mP r y u xs _ (vv r y u x done h)
theorem oe {α:Type}(J:α->α->Bool):∀ {H u:List α},H.Perm u->jE J H->u.Pairwise (λa b=>J a b=true)->H=u
 |H,[],r,_,_=>r.eq_nil
 |[],z::u,r,_,_=>absurd r.symm.eq_nil (by simp)
 |y::H,z::u,r,I,M=>by
  unfold jE at I;rw[BQ]at I M;have e:y=z:=by
   rcases CC.1 (r.mem_iff.1 (C4 ..)) with h|h
   ·exact h
   ·have R:=M.1 y h;rcases CC.1 (r.symm.mem_iff.1 (C4 ..)) with O|O
    ·exact O.symm
    ·rw[I.1 z O]at R;cases R
  subst e;rw[oe J r.cons_inv I.2 M.2]
abbrev SoR (α:Type):=Unit×(List α×Unit)
theorem vw {α R:Type}(u:α->α->Bool)(i:Int)(r:List α×Int->Option R){step:(List α×Int×Int->Option R)->List α×Int×Int->Option R}
  (h:∀ (rec:List α×Int×Int->Option R) (A:List α) (y x:α) (B:List α),A.length+B.length<=1048576->step rec (A++y::x::B,i,((A.length+1:Nat):Int))=bif u x y then rec (A++x::y::B,i,(A.length:Int)) else r (A++y::x::B,wr .i64 (i+1)))
  (X:∀ (rec:List α×Int×Int->Option R) (M:List α),step rec (M,i,0)=r (M,wr .i64 (i+1))) :
  ∀ (A B:List α) (x:α) (k:Nat),A.length+B.length<=1048576->A.length<k->ae step k (A.reverse++x::B,i,(A.length:Int))=r (dy u x A B,wr .i64 (i+1)):=by
 intro A;induction A with
 |nil =>
  intro B x k I z;obtain⟨k,rfl⟩:∃ H,k=H+1:=⟨k-1,by simp at z;omega⟩;exact X (ae step k) (x::B)
 |cons y A O =>
  intro B x k I z;simp only[BG]at z I;obtain⟨k,rfl⟩:∃ H,k=H+1:=⟨k-1,by omega⟩;have J:=h (ae step k) A.reverse y x B (by simp;omega);simp only[CY]at J;show step (ae step k) _=_;rw[CJ,CB];simp only[BG,C9,BO,dy];rw[J];cases u x y with
  |true=>exact O (y::B) x k (by simp;omega) (by omega)
  |false=>simp
theorem ua {α:Type}(r:α->α->Bool){step:(List α×Int->Option (SoR α))->List α×Int->Option (SoR α)}(n:Nat)(O:n<=1048576)
  (h:∀ (rec:List α×Int->Option (SoR α)) (done:List α) (x:α) (xs:List α),done.length+1+xs.length=n->step rec (done++x::xs,(done.length:Int))=rec (dy r x done.reverse xs,wr .i64 ((done.length:Int)+1)))
  (M:∀ (rec:List α×Int->Option (SoR α)) (H:List α) (i:Int),(n:Int)<=i->step rec (H,i)=some ((),(H,()))) :
  ∀ (xs done:List α) (k:Nat),done.length+xs.length=n->xs.length<k->ae step k (done++xs,(done.length:Int))=some ((),(cR r done xs,())):=by
 intro xs;induction xs with
 |nil =>
  intro done k u z;obtain⟨k,rfl⟩:∃ y,k=y+1:=⟨k-1,by omega⟩;show step (ae step k) _=_;rw[M _ _ _ (by simp at u;omega)];simp[cR]
 |cons x xs J =>
  intro done k u z;simp only[BG]at z u;obtain⟨k,rfl⟩:∃ y,k=y+1:=⟨k-1,by omega⟩;show step (ae step k) _=_;rw[h _ _ _ _ (by omega),ar _ (by omega)];have e:dy r x done.reverse xs=dy r x done.reverse []++xs:=oV r x done.reverse [] xs;have I:(dy r x done.reverse []).length=done.length+1:=by rw[oW];simp
  rw[e,<- I];exact J _ k (by rw[I];omega) (by omega)
theorem yq {α:Type}(u:α->α->Bool){step:(List α×Int->Option (SoR α))->List α×Int->Option (SoR α)}(xs:List α)(J:xs.length<=1048576)
  (h:∀ (rec:List α×Int->Option (SoR α)) (done:List α) (x:α) (r:List α),done.length+1+r.length=xs.length->step rec (done++x::r,(done.length:Int))=rec (dy u x done.reverse r,wr .i64 ((done.length:Int)+1)))
  (y:∀ (rec:List α×Int->Option (SoR α)) (H:List α) (i:Int),(xs.length:Int)<=i->step rec (H,i)=some ((),(H,()))) {k:Nat} (z:xs.length<k) :
  ae step k (xs,1)=some ((),(cR u [] xs,())):=by
 cases xs with
 |nil =>
  obtain⟨k,rfl⟩:∃ I,k=I+1:=⟨k-1,by simp at z;omega⟩;exact y (ae step k) [] 1 (by simp)
 |cons x xs =>
  simp only[BG]at z;have:=ua u (xs.length+1) (by simpa using J) h y xs [x] k (by simp;omega) (by omega);exact this
theorem uJ {α:Type}(A B:List α)(x:α):idx (A++x::B) (A.length:Int)=some x:=by
 rw[qo];simp
theorem sO {α:Type}(A B:List α)(y x:α):idx (A++y::x::B) ((A.length+1:Nat):Int)=some x:=by
 rw[qo];simp[List.getElem?_append_right]
theorem uK {α:Type}(A B:List α)(x v:α):(A++x::B).set A.length v=A++v::B:=by simp
theorem sP {α:Type}(A B:List α)(y x v:α):(A++y::x::B).set (A.length+1) v=A++y::v::B:=by
 simp[Cx]
theorem ub {α R:Type}(P:α->Prop)(u:α->α->Bool)(i:Int)(r:List α×Int->Option R){step:(List α×Int×Int->Option R)->List α×Int×Int->Option R}
  (h:∀ (rec:List α×Int×Int->Option R) (A:List α) (y x:α) (B:List α),P y->P x->A.length+B.length<=1048576->step rec (A++y::x::B,i,((A.length+1:Nat):Int))=bif u x y then rec (A++x::y::B,i,(A.length:Int)) else r (A++y::x::B,wr .i64 (i+1)))
  (h0:∀ (rec:List α×Int×Int->Option R) (Y:List α),step rec (Y,i,0)=r (Y,wr .i64 (i+1))) :
  ∀ (A B:List α) (x:α) (k:Nat),(∀ y∈A,P y)->P x->A.length+B.length<=1048576->A.length<k->ae step k (A.reverse++x::B,i,(A.length:Int))=r (dy u x A B,wr .i64 (i+1)):=by
 intro A;induction A with
 |nil =>
  intro B x k I H O J;obtain⟨k,rfl⟩:∃ M,k=M+1:=⟨k-1,by simp at J;omega⟩;exact h0 (ae step k) (x::B)
 |cons y A Z =>
  intro B x k I H O J;simp only[BG]at J O;obtain⟨k,rfl⟩:∃ M,k=M+1:=⟨k-1,by omega⟩;have X:=h (ae step k) A.reverse y x B (I y (by simp)) H (by simp;omega);simp only[CY]at X;show step (ae step k) _=_;rw[CJ,CB];simp only[BG,C9,BO,dy];rw[X];cases u x y with
  |true=>exact Z (y::B) x k (λz hz=>I z (by simp[hz])) H (by simp;omega) (by omega)
  |false=>simp
theorem sQ {α:Type}(P:α->Prop)(r:α->α->Bool){step:(List α×Int->Option (SoR α))->List α×Int->Option (SoR α)}(n:Nat)(hn:n<=1048576)
  (h:∀ (rec:List α×Int->Option (SoR α)) (done:List α) (x:α) (xs:List α),(∀ y∈done,P y)->P x->done.length+1+xs.length=n->step rec (done++x::xs,(done.length:Int))=rec (dy r x done.reverse xs,wr .i64 ((done.length:Int)+1)))
  (h0:∀ (rec:List α×Int->Option (SoR α)) (X:List α) (i:Int),(n:Int)<=i->step rec (X,i)=some ((),(X,()))) :
  ∀ (xs done:List α) (k:Nat),(∀ y∈done,P y)->(∀ y∈xs,P y)->done.length+xs.length=n->xs.length<k->ae step k (done++xs,(done.length:Int))=some ((),(cR r done xs,())):=by
 intro xs;induction xs with
 |nil =>
  intro done k J u I R;obtain⟨k,rfl⟩:∃ M,k=M+1:=⟨k-1,by omega⟩;show step (ae step k) _=_;rw[h0 _ _ _ (by simp at I;omega)];simp[cR]
 |cons x xs Z =>
  intro done k J u I R;simp only[BG]at R I;obtain⟨k,rfl⟩:∃ M,k=M+1:=⟨k-1,by omega⟩;show step (ae step k) _=_;rw[h _ _ _ _ J (u x (by simp)) (by omega),ar _ (by omega)];have e:dy r x done.reverse xs=dy r x done.reverse []++xs:=oV r x done.reverse [] xs;have Y:(dy r x done.reverse []).length=done.length+1:=by rw[oW];simp
  rw[e,<- Y];refine Z _ k (λz O=>?_) (λz O=>u z (by simp[O])) (by rw[Y];omega) (by omega);have H:=(mO r x done.reverse []).mem_iff.1 O;simp only[Bw,BN,CC]at H;rcases H with rfl|H
  ·exact u z (by simp)
  ·exact J z H
theorem wV {α:Type}(P:α->Prop)(u:α->α->Bool){step:(List α×Int->Option (SoR α))->List α×Int->Option (SoR α)}(xs:List α)(M:∀ y∈xs,P y)(O:xs.length<=1048576)
  (h:∀ (rec:List α×Int->Option (SoR α)) (done:List α) (x:α) (r:List α),(∀ y∈done,P y)->P x->done.length+1+r.length=xs.length->step rec (done++x::r,(done.length:Int))=rec (dy u x done.reverse r,wr .i64 ((done.length:Int)+1)))
  (J:∀ (rec:List α×Int->Option (SoR α)) (I:List α) (i:Int),(xs.length:Int)<=i->step rec (I,i)=some ((),(I,()))) {k:Nat} (H:xs.length<k) :
  ae step k (xs,1)=some ((),(cR u [] xs,())):=by
 cases xs with
 |nil =>
  obtain⟨k,rfl⟩:∃ R,k=R+1:=⟨k-1,by simp at H;omega⟩;exact J (ae step k) [] 1 (by simp)
 |cons x xs =>
  simp only[BG]at H;have:=sQ P u (xs.length+1) (by simpa using O) h J xs [x] k (λy z=>M y (by simpa using .inl (by simpa using z))) (λy z=>M y (by simp[z])) (by simp;omega) (by omega);exact this
def ltZ (a b:Int):Bool:=decide (a<b)
theorem AJ (K:Nat)(a b:Int):Q179.f K (a,b,())=some ((ltZ a b,()),()):=by
 simp only[Q179.f,Q136.f,ltZ];simp
theorem yt (K:Nat)(xs:List Int)(H:Int×Int×Unit->Option Int)(I:Int->Int->Bool)(P:Int->Prop)(hP:∀ y∈xs,P y)(hφ:∀ y z,P y->P z->∃ c,H (y,z,())=some c/\decide (c<0)=I y z)(R:xs.length<=1048576)(hK:1048577<K) :
  Q191.f K (xs,0,(xs.length:Int),H,())=some ((),(cR I [] xs,())):=by
 refine wV P (step:=λrec a=>Q191.s0 K (xs,0,(xs.length:Int),H,()) (Q191.l1 K (xs,0,(xs.length:Int),H,()) rec) rec a) I xs hP R ?_ ?_ (by omega)
 ·intro rec done x r M J hl;simp only[Q191.s0];rw[decide_eq_true (by omega:((done.length:Int))<(xs.length:Int))];simp only[cond_true];have:=ub P I (done.length:Int) rec (step:=λu a=>Q191.s1 K (xs,0,(xs.length:Int),H,()) rec u a) ?_ ?_ done.reverse r x K (λy O=>M y (by simpa using O)) J (by simp;omega) (by simp;omega)
  ·rw[Bw,CY]at this;exact this
  ·intro u A y z B O hz Z;simp only[Q191.s1];have Y:wr .i64 (((A.length+1:Nat):Int)-1)=(A.length:Int):=(aH (by omega) (by omega)).trans (by omega);rw[decide_eq_true (by omega:((A.length+1:Nat):Int)>0)];obtain⟨c,hc,M⟩:=hφ z y hz O;simp only[cond_true,Y,BE,sO,uJ,BA,hc,M,sP,uK]
  ·intro u X;simp only[Q191.s1];rw[decide_eq_false (by omega:¬ (0:Int)>0)];rfl
 ·intro rec X i hi;simp only[Q191.s0];rw[decide_eq_false (by omega:¬ i<(xs.length:Int))];rfl
theorem yu (K:Nat)(xs:List Int)(H:Int×Int×Unit->Option Int)(u:Int->Int->Bool)(P:Int->Prop)(M:∀ y∈xs,P y)(hφ:∀ y z,P y->P z->∃ c,H (y,z,())=some c/\decide (c<0)=u y z)(R:xs.length<=19)(I:1048577<K) :
  Q193.f K (xs,H,())=some ((),(cR u [] xs,())):=by
 simp only[Q193.f];have:Q192.f K (xs,(xs.length:Int),H,())=some ((),(cR u [] xs,())):=by
  obtain⟨k,rfl⟩:∃ J,K=J+1:=⟨K-1,by omega⟩;show Q192.s0 _ _ _ _ _=_;simp only[Q192.s0];rw[decide_eq_false (by omega:¬ (20:Int)<=(xs.length:Int))];simp only[cond_false];rw[yt (k+1) xs H u P M hφ (by omega) I];simp only[BA];have O:∀ (r:Q192.A1->Option Q192.Res),Q192.s1 (k+1) (xs,(xs.length:Int),H,()) (Q192.l2 (k+1) (xs,(xs.length:Int),H,()) r) r (cR u [] xs,20)=some ((),(cR u [] xs,())):=by
   intro r;simp only[Q192.s1];rw[decide_eq_false (by omega:¬ (20:Int)<(xs.length:Int))];rfl
  exact O _
 rw[this];rfl
theorem yw (K:Nat)(xs:List Int)(H:xs.length<=1048576)(O:1048577<K) :
  Q195.f K (xs,0,(xs.length:Int),())=some ((),(cR ltZ [] xs,())):=by
 refine yq (step:=λrec a=>Q195.s0 K (xs,0,(xs.length:Int),()) (Q195.l1 K (xs,0,(xs.length:Int),()) rec) rec a) ltZ xs H ?_ ?_ (by omega)
 ·intro rec done x r R;simp only[Q195.s0];rw[decide_eq_true (by omega:((done.length:Int))<(xs.length:Int))];simp only[cond_true];have:=vw ltZ (done.length:Int) rec (step:=λu a=>Q195.s1 K (xs,0,(xs.length:Int),()) rec u a) ?_ ?_ done.reverse r x K (by simp;omega) (by simp;omega)
  ·rw[Bw,CY]at this;exact this
  ·intro u A y z B M;simp only[Q195.s1];have J:wr .i64 (((A.length+1:Nat):Int)-1)=(A.length:Int):=(aH (by omega) (by omega)).trans (by omega);rw[decide_eq_true (by omega:((A.length+1:Nat):Int)>0)];simp only[cond_true,J,BE,sO,uJ,BA,sP,uK];rw[show Q179.f K (z,y,())=_ from AJ K z y];rfl
  ·intro u I;simp only[Q195.s1];rw[decide_eq_false (by omega:¬ (0:Int)>0)];rfl
 ·intro rec I i X;simp only[Q195.s0];rw[decide_eq_false (by omega:¬ i<(xs.length:Int))];rfl
theorem yx (K:Nat)(xs:List Int)(u:xs.length<=12)(r:1048577<K) :
  Q203.f K (xs,())=some ((),(cR ltZ [] xs,())):=by
 simp only[Q203.f,Q202.f];obtain⟨l,y⟩:∃ l:Int,Q201.f K (wr .u64 (xs.length:Int),())=some ((l,()),()):=by
  have e:wr .u64 (xs.length:Int)=(xs.length:Int):=by
   show IntKind.u64.wrap _=_;have z:IntKind.u64.wrap (xs.length:Int)=(xs.length:Int) % 18446744073709551616:=by simp[IntKind.wrap,IntKind.bits,IntKind.signed]
   rw[z];omega
  rw[e];generalize J:xs.length=n at u;have:n=0\/n=1\/n=2\/n=3\/n=4\/n=5\/n=6\/n=7\/n=8\/n=9\/n=10\/n=11\/n=12:=by omega
  rcases this with rfl|rfl|rfl|rfl|rfl|rfl|rfl|rfl|rfl|rfl|rfl|rfl|rfl
  ·exact⟨0,by kernel_rfl⟩
  ·exact⟨1,by kernel_rfl⟩
  ·exact⟨2,by kernel_rfl⟩
  ·exact⟨2,by kernel_rfl⟩
  ·exact⟨3,by kernel_rfl⟩
  ·exact⟨3,by kernel_rfl⟩
  ·exact⟨3,by kernel_rfl⟩
  ·exact⟨3,by kernel_rfl⟩
  ·exact⟨4,by kernel_rfl⟩
  ·exact⟨4,by kernel_rfl⟩
  ·exact⟨4,by kernel_rfl⟩
  ·exact⟨4,by kernel_rfl⟩
  ·exact⟨4,by kernel_rfl⟩
 rw[y];simp only[BA];have:Q200.f K (xs,0,(xs.length:Int),l,())=some ((),(cR ltZ [] xs,())):=by
  obtain⟨k,rfl⟩:∃ H,K=H+1:=⟨K-1,by omega⟩;have I:∀ (rec:Q200.A0->Option Q200.Res) (a:Q200.A0),Q200.s0 (k+1) (xs,0,(xs.length:Int),l,()) rec a=some ((),(cR ltZ [] xs,())):=by
   intro rec a;simp only[Q200.s0];have e:wr .i64 ((xs.length:Int)-0)=(xs.length:Int):=(aH (by omega) (by omega)).trans (by omega);rw[e,decide_eq_true (by omega:(xs.length:Int)<=12)];simp only[cond_true];rw[yw (k+1) xs (by omega) r];rfl
  exact I (λ_=>none) ()
 rw[this];rfl
def d5 (l:List aG)(i:Int):Int:=((l[i.toNat]?).map (·.2)).getD 0
def ltL (l:List aG)(a b:Int):Bool:=decide (d5 l b<d5 l a)
def lt2 (l:List aG)(a b:Int):Prop:=d5 l b<d5 l a\/(d5 l a=d5 l b/\a<b)
def ct (n:Nat):List Int:=(List.range n).map λ (i:Nat)=>(i:Int)
def bz (l:List aG):List Int:=cR (ltL l) [] (ct l.length)
theorem ip {n:Nat}{i:Int}:i∈ct n<->0<=i/\i<n:=by
 unfold ct;rw[BZ];constructor
 ·rintro⟨j,hj,rfl⟩;have:=DI.1 hj;omega
 ·rintro⟨h0,h1⟩;exact⟨i.toNat,DI.2 (by omega),by omega⟩
theorem jc (n:Nat):(ct n).Pairwise (·<·):=by
 unfold ct;rw[By];exact List.pairwise_lt_range.imp λh=>by omega
theorem dL {l:List aG}{i:Nat}(h:i<l.length):d5 l (i:Int)=l[i].2:=by
 unfold d5;rw[BE,BK h];rfl
theorem sR (l:List aG):∀ (xs done:List Int),done.Pairwise (lt2 l)->(∀ a∈done,∀ b∈xs,a<b)->xs.Pairwise (·<·)->(cR (ltL l) done xs).Pairwise (lt2 l)
 |[],done,h,_,_=>h
 |x::xs,done,h,H,R=>by
  have z:=BQ.1 R;have O:jE (ltL l) done:=h.imp λ {a b} M=>by
   unfold ltL;rw[decide_eq_false_iff_not];rcases M with y|⟨y,_⟩ <;> omega
  have e:=kU (ltL l) (λa b c y I=>by
   unfold ltL at y I ⊢;rw[decide_eq_false_iff_not]at y I ⊢;omega) x done.reverse [] (by rw[Bw];exact O)
  rw[Bw,BN]at e;simp only[cR];rw[e];refine sR l xs _ ?_ ?_ z.2
  ·rw[CH,BQ];refine⟨h.filter _,⟨λb u=>?_,h.filter _⟩,λa r b u=>?_⟩
   ·have y:ltL l x b=true:=by simpa using (BH.1 u).2
    exact .inl (by simpa[ltL]using y)
   ·have y:ltL l x a=false:=by simpa using (BH.1 r).2
    have Y:¬ d5 l a<d5 l x:=by simpa[ltL]using y
    have J:=H a (BH.1 r).1 x (by simp);rcases CC.1 u with rfl|u
    ·by_cases I:d5 l b<d5 l a
     ·exact .inl I
     ·exact .inr ⟨by omega,J⟩
    ·have I:ltL l x b=true:=by simpa using (BH.1 u).2
     have X:d5 l b<d5 l x:=by simpa[ltL]using I
     exact .inl (by omega)
  ·intro a r b u;rcases B6.1 r with r|r
   ·exact H a (BH.1 r).1 b (by simp[u])
   ·rcases CC.1 r with rfl|r
    ·exact z.1 b u
    ·exact H a (BH.1 r).1 b (by simp[u])
theorem pL (l:List aG):(bz l).Pairwise (lt2 l):=sR l _ [] List.Pairwise.nil (by simp) (jc _)
theorem l6 (l:List aG):(bz l).Perm (ct l.length):=by
 unfold bz;simpa using lZ (ltL l) (ct l.length) []
theorem iH {l:List aG}{i:Int}:i∈bz l<->0<=i/\i<l.length:=by rw[(l6 l).mem_iff,ip]
theorem wW (l:List aG):(bz l).length=l.length:=by rw[(l6 l).length_eq];simp[ct]
theorem uc (l:List aG):(bz l).Nodup:=(l6 l).nodup_iff.2 ((jc _).imp λh=>by omega)
def dm (T:List Int)(n:Nat):List Bool:=(ct n).map λi=>decide (i∈T)
theorem eW (T:List Int)(n:Nat):(dm T n).length=n:=by simp[dm,ct]
theorem iI (T:List Int){n i:Nat}(h:i<n):(dm T n)[i]'(by rw[eW];exact h)=decide ((i:Int)∈T):=by
 simp[dm,ct]
theorem wX {T:List Int}{n b:Nat}(y:b<n):(dm T n).set b true=dm (T++[(b:Int)]) n:=by
 refine CV (by rw[Cw,eW,eW]) λi u r=>?_
 rw[eW]at r;rw[DA,iI _ r];by_cases h:b=i
 ·subst h;rw[if_pos rfl,iI _ r];simp
 ·rw[if_neg h,iI _ r];have:¬ (i:Int)=(b:Int):=by omega
  simp[this]
def pM (l:List aG)(T:List Int)(i:Nat)(r:Int):Prop :=
 (r=-1/\∀ j:Nat,j<i->(j:Int)∈T)\/(0<=r/\r<i/\r∉T/\∀ j:Nat,j<i->(j:Int)∉T->(j:Int)≠r->lt2 l r (j:Int))
theorem zS (K:Nat)(l:List aG)(T:List Int)(hl:l.length<=1048576):∀ (d i k:Nat) (r:Int),i+d=l.length->d<k->pM l T i r ->
  ∃ b:Int,ae (λrec a=>Q41.s0 K (l,dm T l.length,()) rec a) k (r,(i:Int))=some ((b,()),())/\pM l T l.length b:=by
 intro d;induction d with
 |zero =>
  intro i k r hi hk Z;obtain⟨k,rfl⟩:∃ k',k=k'+1:=⟨k-1,by omega⟩;have:i=l.length:=by omega
  subst this;refine⟨r,?_,Z⟩;show Q41.s0 K (l,dm T l.length,()) _ _=_;simp only[Q41.s0,aQ];rfl
 |succ d ih =>
  intro i k r hi hk Z;obtain⟨k,rfl⟩:∃ k',k=k'+1:=⟨k-1,by omega⟩;have z:i<l.length:=by omega
  have H:∀ r,pM l T (i+1) r->∃ b:Int,ae (λrec a=>Q41.s0 K (l,dm T l.length,()) rec a) k (r,((i+1:Nat):Int))=some ((b,()),())/\pM l T l.length b:=λr h=>ih (i+1) k r (by omega) (by omega) h
  show ∃ b:Int,Q41.s0 K (l,dm T l.length,()) (ae (λrec a=>Q41.s0 K (l,dm T l.length,()) rec a) k) (r,(i:Int))=_/\_;generalize ae (λrec a=>Q41.s0 K (l,dm T l.length,()) rec a) k=REC at H ⊢;simp only[Q41.s0];rw[bk (by omega:(i:Int)<(BB l:Int)),ag (show i<(dm T l.length).length by rw[eW];exact z),iI T z,ar i (by omega)];simp only[cond_true,BA];by_cases O:(i:Int)∈T
  ·rw[decide_eq_true O];simp only[BI,cond_false];refine H r ?_;rcases Z with ⟨rfl,h⟩|⟨h0,h1,h2,Y⟩
   ·refine .inl ⟨rfl,λj X=>?_⟩;by_cases y:j=i
    ·subst y;exact O
    ·exact h j (by omega)
   ·refine .inr ⟨h0,by omega,h2,λj X u J=>?_⟩;by_cases y:j=i
    ·subst y;exact absurd O u
    ·exact Y j (by omega) u J
  ·rw[decide_eq_false O];simp only[Bv,cond_true];rcases Z with ⟨rfl,h⟩|⟨h0,h1,h2,Y⟩
   ·rw[show decide ((-1:Int)<0)=true from rfl];refine H (i:Int) (.inr ⟨by omega,by omega,O,λj X u J=>?_⟩);exact absurd (h j (by omega)) u
   ·rw[decide_eq_false (by omega:¬ r<0)];obtain⟨b,rfl⟩:=BF h0;have I:b<l.length:=by omega
    simp only[cond_false];rw[ag z,ag I];simp only[BA];by_cases M:l[i].2>l[b].2
    ·rw[decide_eq_true M];refine H (i:Int) (.inr ⟨by omega,by omega,O,λj X u J=>?_⟩);have y:j<i:=by omega
     have a1:j<l.length:=by omega
     by_cases R:(j:Int)=(b:Int)
     ·rw[R];exact .inl (by rw[dL z,dL I];exact M)
     ·have:=Y j y u R;rcases this with h4|⟨h4,_⟩
      ·exact .inl (by rw[dL I]at h4;rw[dL z];omega)
      ·exact .inl (by rw[dL I]at h4;rw[dL z];omega)
    ·rw[decide_eq_false M];refine H (b:Int) (.inr ⟨by omega,by omega,h2,λj X u J=>?_⟩);by_cases y:j=i
     ·subst y;by_cases a0:d5 l (b:Int)=d5 l (j:Int)
      ·exact .inr ⟨a0,h1⟩
      ·refine .inl ?_;rw[dL z,dL I]at *;omega
     ·exact Y j (by omega) u J
theorem AK (K:Nat)(l:List aG)(n:Nat)(hl:l.length<=1048576)(hK:1048577<K):Q41.f K (l,dm ((bz l).take n) l.length,())=some ((((bz l)[n]?).getD (-1),()),()):=by
  obtain⟨b,e,hb⟩:=zS K l ((bz l).take n) hl l.length 0 K (-1) (by omega) (by omega) (.inl ⟨rfl,λj y=>by omega⟩);have:b=((bz l)[n]?).getD (-1):=by
    by_cases z:n<(bz l).length
    · rw[BK z]
      show b=(bz l)[n];have Z:(bz l)[n]∉(bz l).take n:=λh=>by
        obtain⟨j,y,e⟩:=BJ h;rw[BW]at y;rw[CZ]at e;have:=CG.1 (pL l) j n (by omega) z (by omega);rw[e]at this;rcases this with u|⟨_,u⟩ <;> omega
      have hr:=iH.1 (BC z);obtain⟨m,r⟩:=BF hr.1;rcases hb with ⟨rfl,h⟩|⟨X,M,I,h3⟩
      · have:=h m (by omega)
        rw[<- r]at this;exact absurd this Z
      · by_cases J:b=(bz l)[n]
        · exact J
        · exfalso
          have H:=h3 m (by omega) (by rw[<- r];exact Z) (by rw[<- r];exact λh=>J h.symm);rw[<- r]at H;have Y:b∈bz l:=iH.2 ⟨X,M⟩;obtain⟨j,y,R⟩:=BJ Y;have O:n<j:=by
            rcases Cm j n with h|h|h
            · exact absurd (List.mem_take_iff_getElem.2 ⟨j,by omega,R⟩) I
            · subst h;exact absurd R.symm J
            · exact h
          have u:=CG.1 (pL l) n j z y O;rw[R]at u;rcases H with H|⟨H,h6⟩ <;> rcases u with u|⟨u,h7⟩ <;> omega
    · rw[CO (by omega)]
      show b=-1;rcases hb with ⟨rfl,_⟩|⟨X,M,I,_⟩
      · rfl
      · exfalso
        rw[B4 (by omega)]at I;exact I (iH.2 ⟨X,M⟩)
  rw[<- this];exact e
def bW (l:List aG):List Int:=(bz l).take 3
def gw (l:List aG)(i:Int):aG:=(l[i.toNat]?).getD ((0,0,0,false),0)
def dM (l:List aG)(T:List Int)(i:Int):aG:=bif decide (i∈T) then ((gw l i).1,(gw l i).2-1) else gw l i
def ee (l:List aG)(T:List Int)(n:Nat):List af:=((ct n).filter λi=>decide (i∈T)).map λi=>(gw l i).1
def fV (l:List aG)(T:List Int)(n:Nat):List aG:=(ct n).map (dM l T)
def dA (l:List aG)(T:List Int)(n:Nat):List aG:=(fV l T n).filter λx=>decide (x.2>0)
theorem cr {l:List aG}{i:Nat}(h:i<l.length):gw l (i:Int)=l[i]:=by
 unfold gw;rw[BE,BK h];rfl
theorem mQ (n:Nat):ct (n+1)=ct n++[(n:Int)]:=by
 unfold ct;rw[List.range_succ,Cj];rfl
theorem vz (l:List aG)(T:List Int)(n:Nat):ee l T (n+1)=ee l T n++(bif decide ((n:Int)∈T) then [(gw l (n:Int)).1] else []):=by
 unfold ee;rw[mQ,B7,Cj,BV];cases decide ((n:Int)∈T) <;> rfl
theorem vA (l:List aG)(T:List Int)(n:Nat):dA l T (n+1)=dA l T n++(bif decide ((dM l T (n:Int)).2>0) then [dM l T (n:Int)] else []):=by
 unfold dA fV;rw[mQ,Cj,B7,Co,BV];cases decide ((dM l T (n:Int)).2>0) <;> rfl
theorem wY (l:List aG)(T:List Int)(n:Nat):(ee l T n).length<=n:=by
 unfold ee;rw[BU];refine Bx (CF _ _) ?_;simp[ct]
theorem wZ (l:List aG)(T:List Int)(n:Nat):(dA l T n).length<=n:=by
 unfold dA;refine Bx (CF _ _) ?_;simp[fV,ct]
theorem zT (K:Nat)(l:List aG)(m:Int)(T:List Int)(J:l.length<=1048576)(H:cP l)(I:1048577<K) :
  Q42.l1 K (l,m,()) (dm T l.length,[],[],0)=some ((ee l T l.length,dA l T l.length,()),()):=by
 refine eP (step:=λrec a=>Q42.s1 K (l,m,()) rec a) l.length (λi=>(dm T l.length,ee l T i,dA l T i,(i:Int))) (some ((ee l T l.length,dA l T l.length,()),())) ?_ ?_ (by omega)
 ·intro rec i r;simp only[Q42.s1];have u:i<(dm T l.length).length:=by rw[eW];exact r
  have M:=wY l T i;have O:=wZ l T i;obtain⟨X,R⟩:=(H.1 l[i] (BC r)).2;rw[bk (by omega:(i:Int)<(BB l:Int)),ag r,ag u,ar i (by omega),BE,ag u,iI T r,vz,vA,cr r];simp only[cond_true,BA];cases z:decide ((i:Int)∈T) with
  |true =>
   have y:dM l T (i:Int)=(l[i].1,l[i].2-1):=by unfold dM;rw[z,cr r];rfl
   rw[y];simp only[cond_true];rw[szb _ _ _ (by omega) (by simp;omega),aH (n:=l[i].2-1) (by omega) (by omega)];simp only[cond_true];cases decide (l[i].2-1>0) with
   |true =>
    simp only[cond_true];rw[szb _ _ _ (by omega) (by simp;omega)];rfl
   |false =>
    simp only[cond_false,BN]
  |false =>
   have y:dM l T (i:Int)=l[i]:=by unfold dM;rw[z,cr r];rfl
   rw[y];simp only[cond_false,BN];cases decide (l[i].2>0) with
   |true =>
    simp only[cond_true];rw[szb _ _ _ (by omega) (by simp;omega)];rfl
   |false =>
    simp only[cond_false,BN]
 ·intro rec;simp only[Q42.s1,aQ];rfl
theorem AL (K:Nat)(l:List aG)(M:l.length<=1048576)(hC:cP l)(J:1048577<K):Q42.f K (l,3,())=some ((ee l (bW l) l.length,dA l (bW l) l.length,()),()):=by
 have u:∀ T,Q42.l1 K (l,3,()) (dm T l.length,[],[],0)=some ((ee l T l.length,dA l T l.length,()),()):=λT=>zT K l 3 T M hC J
 have Z:∀ (d n k:Nat),n+d=3->d<k->ae (λrec a=>Q42.s0 K (l,3,()) (Q42.l1 K (l,3,())) rec a) k (dm ((bz l).take n) l.length,(n:Int))=some ((ee l (bW l) l.length,dA l (bW l) l.length,()),()):=by
  intro d;induction d with
  |zero =>
   intro n k hn Y;obtain⟨k,rfl⟩:∃ I,k=I+1:=⟨k-1,by omega⟩;have:n=3:=by omega
   subst this;exact u _
  |succ d ih =>
   intro n k hn Y;obtain⟨k,rfl⟩:∃ I,k=I+1:=⟨k-1,by omega⟩;have y:=ih (n+1) k (by omega) (by omega);show Q42.s0 K (l,3,()) (Q42.l1 K (l,3,())) (ae (λrec a=>Q42.s0 K (l,3,()) (Q42.l1 K (l,3,())) rec a) k) (dm ((bz l).take n) l.length,(n:Int))=_;generalize ae (λrec a=>Q42.s0 K (l,3,()) (Q42.l1 K (l,3,())) rec a) k=REC at y ⊢;simp only[Q42.s0];rw[decide_eq_true (by omega:(n:Int)<3),AK K l n M J,ar n (by omega)];simp only[cond_true,BA];by_cases r:n<(bz l).length
   ·rw[BK r];have O:=iH.1 (BC r);have H:(bz l).take (n+1)=(bz l).take n++[(bz l)[n]]:=CI r;rw[H]at y;simp only[DB];generalize (bz l)[n]=v at O y ⊢;obtain⟨b,rfl⟩:=BF O.1;have X:b<l.length:=by omega
    have z:b<(dm ((bz l).take n) l.length).length:=by rw[eW];exact X
    rw[decide_eq_false (by omega:¬ (b:Int)<0),ag z,BE,ag z,wX X];exact y
   ·rw[CO (by omega)];show Q42.l1 K (l,3,()) (dm ((bz l).take n) l.length,[],[],0)=_;rw[u,show (bz l).take n=bW l by unfold bW;rw[B4 (by omega),B4 (by omega)]]
 simp only[Q42.f,Q42.pre];rw[decide_eq_true (by omega:(0:Int)<=(BB l:Int)),show decide ((BB l:Int)*(1:Nat)<=an)=true from decide_eq_true (by simp only[an];omega),BE];simp only[decide_true,CN,cond_true];have h0:CT l.length false=dm ((bz l).take 0) l.length:=by
  refine CV (by rw[Cf,eW]) λi h1 R=>?_
  rw[eW]at R;rw[List.getElem_replicate,iI _ R];simp
 have:=Z 3 0 K (by omega) (by omega);rw[<- h0]at this;exact this
theorem rP {a b:List Int}(r:a.Nodup)(u:b.Nodup)(h:∀ x,x∈a<->x∈b):a.Perm b:=by
 rw[List.perm_iff_count];intro x;rw[r.count,u.count];simp[h]
def cX (l:List aG):List Int:=(ct l.length).filter λi=>decide (i∈bW l)
theorem ud (l:List aG):cR ltZ [] (bW l)=cX l:=by
 have r:(bW l).Nodup:=(uc l).sublist (List.take_sublist _ _);have u:((ct l.length).filter λi=>decide (i∈bW l)).Nodup:=((jc l.length).imp (λh=>by omega:∀ {a b:Int},a<b->a≠b)).filter _;refine oe ltZ ?_ (mP ltZ (λa b c r u=>by
  unfold ltZ at r u ⊢;rw[decide_eq_false_iff_not]at r u ⊢;omega) (λa b h=>by
  unfold ltZ at h ⊢;rw[decide_eq_true_eq]at h;rw[decide_eq_false_iff_not];omega) (bW l) [] List.Pairwise.nil) ?_
 ·refine (by simpa using lZ ltZ (bW l) []:(cR ltZ [] (bW l)).Perm (bW l)).trans (rP r u λx=>?_);rw[cX,BH,decide_eq_true_eq,ip];exact⟨λh=>⟨iH.1 (Cz h),h⟩,λh=>h.2⟩
 ·exact ((jc l.length).filter _).imp λh=>by unfold ltZ;exact decide_eq_true h
theorem w8 {l:List aG}{i:Int}:i∈cX l<->i∈bW l:=by
 unfold cX;rw[BH,decide_eq_true_eq,ip];exact⟨λh=>h.2,λh=>⟨iH.1 (Cz h),h⟩⟩
theorem xa (l:List aG):(cX l).Pairwise (·<·):=(jc l.length).filter _
theorem eB (l:List aG)(T:List Int)(n:Nat):(fV l T n).length=n:=by simp[fV,ct]
theorem e9 (l:List aG)(T:List Int){n i:Nat}(h:i<n):(fV l T n)[i]'(by rw[eB];exact h)=dM l T (i:Int):=by
 simp[fV,ct]
theorem yy (l:List aG):fV l [] l.length=l:=by
 refine CV (eB _ _ _) λi u r=>?_
 rw[e9 l [] r];unfold dM;rw[cr r];simp
theorem yz {l:List aG}{T:List Int}{b:Nat}(y:b<l.length):(fV l T l.length).set b ((gw l (b:Int)).1,(gw l (b:Int)).2-1)=fV l (T++[(b:Int)]) l.length:=by
 refine CV (by rw[Cw,eB,eB]) λi u r=>?_
 rw[eB]at r;rw[DA,e9 _ _ r];by_cases h:b=i
 ·subst h;rw[if_pos rfl,e9 _ _ r];unfold dM;rw[decide_eq_true (by simp:(b:Int)∈T++[(b:Int)])];rfl
 ·rw[if_neg h,e9 _ _ r];unfold dM;have:((i:Int)∈T++[(b:Int)])<->(i:Int)∈T:=by
   rw[B6,Bz];exact⟨λu=>u.resolve_right (by omega),.inl⟩
  rw[show decide ((i:Int)∈T++[(b:Int)])=decide ((i:Int)∈T) by rw[decide_eq_decide];exact this]
theorem vB {l:List aG}{T T':List Int}(h:∀ i,i∈T<->i∈T')(n:Nat):fV l T n=fV l T' n:=by
 unfold fV;refine List.map_congr_left λi _=>?_
 unfold dM;rw[show decide (i∈T)=decide (i∈T') by rw[decide_eq_decide];exact h i]
theorem ue (K:Nat)(x:ab Q205.ps)(l:List aG)(Z:l.length<=1048576)(Y:cP l)(hK:1048577<K) :
  Q205.l1 K x (l,cX l,[],(BB (cX l):Int),0)=some ((ee l (bW l) l.length,dA l (bW l) l.length,()),()):=by
 have a0:(cX l).length<=l.length:=by
  refine Bx (CF _ _) ?_;simp[ct]
 refine Cq ?_ (eP (step:=λrec a=>Q205.s1 K x rec a) (cX l).length (λi=>(fV l ((cX l).take i) l.length,cX l,((cX l).take i).map (λj=>(gw l j).1),(BB (cX l):Int),(i:Int))) (some ((ee l (bW l) l.length,dA l (bW l) l.length,()),())) ?_ ?_ (by omega:(cX l).length<K))
 ·simp only[List.take_zero,DK,yy];rfl
 ·intro rec i r;simp only[Q205.s1];have X:=ip.1 ((BH.1 (BC r)).1);have u:(cX l)[i]∉(cX l).take i:=λh=>by
   obtain⟨j,hj,e⟩:=BJ h;rw[BW]at hj;rw[CZ]at e;have:=CG.1 (xa l) j i (by omega) r (by omega);omega
  have M:(cX l).take (i+1)=(cX l).take i++[(cX l)[i]]:=CI r;rw[M,Cj];have I:(((cX l).take i).map (λj=>(gw l j).1)).length<=1048576:=by rw[BU,BW];omega
  rw[bk (by omega:(i:Int)<(BB (cX l):Int)),ag r,ar i (by omega),BE,ag r];simp only[cond_true,BA];generalize (cX l)[i]=v at X u ⊢;obtain⟨b,rfl⟩:=BF X.1;have z:b<l.length:=by omega
  have H:b<(fV l ((cX l).take i) l.length).length:=by rw[eB];exact z
  have hd:dM l ((cX l).take i) (b:Int)=l[b]:=by
   unfold dM;rw[decide_eq_false u,cr z];rfl
  obtain⟨c0,c1⟩:=(Y.1 l[b] (BC z)).2;rw[ag H,BE,ag H,e9 l _ z,hd];simp only[BA];rw[szb _ _ _ (by omega) (by simp only[BU,BG,BM]at I ⊢;omega),aH (n:=l[b].2-1) (by omega) (by omega),<- yz z,cr z];simp only[cond_true,Co,DK,cr z]
 ·intro rec;simp only[Q205.s1,aQ,cond_false,CL,Q10.f];have e:∀ J:List aG,J.length<=1048576->gK t3 J (λO=>(Q204.f K (O.1,())).map λy=>y.1.1)=some ((J.filter (λx=>!(x.2==0)),()),()):=λJ R=>qU (e:=t3) (λx=>x.2==0) R (λx _=>rfl)
  rw[e _ (by rw[eB];exact Z)];simp only[BA];rw[vB (l:=l) (T:=cX l) (T':=bW l) (λi=>w8) l.length];have ef:(fV l (bW l) l.length).filter (λx=>!(x.2==0))=dA l (bW l) l.length:=by
   unfold dA;refine Cn λx hx=>?_
   have h0:0<=x.2:=by
    obtain⟨i,r,rfl⟩:=BJ hx;rw[eB]at r;rw[e9 l _ r];obtain⟨c0,c1⟩:=(Y.1 l[i] (BC r)).2;unfold dM;rw[cr r];cases decide ((i:Int)∈bW l) with
    |true=>show 0<=l[i].2-1;omega
    |false=>show 0<=l[i].2;omega
   rw[CM];simp;omega
  rw[ef];rfl
theorem vC (K:Nat)(l:List aG)(hl:l.length<=8)(I:cP l)(H:1048577<K):Q205.f K (l,3,())=some ((ee l (bW l) l.length,dA l (bW l) l.length,()),()):=by
 simp only[Q205.f,Q205.pre];obtain⟨b1,e1,e2⟩:=oS K l (by omega) H;have J:=e2.2 I;subst J;rw[e1];simp only[BA,BI,cond_false];rw[decide_eq_true (by omega:(0:Int)<=(BB l:Int)),show decide ((BB l:Int)*(8:Nat)<=an)=true from decide_eq_true (by simp only[an];omega),BE];simp only[decide_true,CN,cond_true];have M:(ct l.length).length=l.length:=by simp[ct]
 have hS:∀ i,i<=l.length->(ct i++CT (l.length-i) (0:Int)).length=l.length:=λi hi=>by simp[ct];omega
 refine Cq ?_ (eP (step:=λrec a=>Q205.s0 K (l,3,()) (Q205.l1 K (l,3,())) rec a) l.length (λi=>(ct i++CT (l.length-i) (0:Int),(i:Int))) (some ((ee l (bW l) l.length,dA l (bW l) l.length,()),())) ?_ ?_ (by omega:l.length<K))
 ·rfl
 ·intro rec i hi;simp only[Q205.s0];have u:i<(ct i++CT (l.length-i) (0:Int)).length:=by rw[hS i (by omega)];exact hi
  rw[decide_eq_true (by rw[Cf];show (i:Int)<((BD (BB l:Int):Nat):Int);omega),ag u,ar i (by omega),BE,ag u];simp only[cond_true,BA];have e:(ct i++CT (l.length-i) (0:Int)).set i (i:Int)=ct (i+1)++CT (l.length-(i+1)) (0:Int):=by
   obtain⟨m,hm⟩:∃ m,l.length-i=m+1:=⟨l.length-i-1,by omega⟩;have R:(ct i).length=i:=by simp[ct]
   rw[hm,show l.length-(i+1)=m by omega,mQ,Cx _ _ (by omega),R,Nat.sub_self,List.replicate_succ,List.set_cons_zero,CB];rfl
  rw[e]
 ·intro rec;simp only[Q205.s0];rw[decide_eq_false (by rw[Cf];show ¬ (BB l:Int)<((BD (BB l:Int):Nat):Int);omega),Nat.sub_self,List.replicate_zero,BN];simp only[cond_false,Q3.f];have r:=yu K (ct l.length) (λZ=>(Q194.f K (Z.1,Z.2.1,l,())).map λy=>y.1.1) (ltL l) (λi=>0<=i/\i<l.length) (λy O=>ip.1 O) (λy z O hz=>by
   obtain⟨a,rfl⟩:=BF O.1;obtain⟨b,rfl⟩:=BF hz.1;have X:a<l.length:=by omega
   have Y:b<l.length:=by omega
   obtain⟨c0,c1⟩:=(I.1 l[a] (BC X)).2;obtain⟨c2,c3⟩:=(I.1 l[b] (BC Y)).2;refine⟨l[b].2-l[a].2,?_,?_⟩
   ·simp only[Q194.f];rw[ag X,ag Y];simp only[BA];rw[aH (n:=l[b].2-l[a].2) (by omega) (by omega)];rfl
   ·unfold ltL;rw[dL X,dL Y,decide_eq_decide];omega) (by rw[M];omega) H
  rw[r];simp only[BA];rw[dX (by omega)];simp only[BA];rw[show Q190.f K (cR (ltL l) [] (ct l.length),3,())=some ((bW l,()),()) from zI K (bz l) 3 (by rw[wW];omega)];simp only[BA];rw[yx K (bW l) (Bx (CX _ _) (by omega)) H,ud];simp only[BA];exact ue K (l,3,()) l (by omega) I H
theorem AM {a b:Int}(r:0<=a)(y:a<4611686018427387904)(z:0<=b)(u:b<4611686018427387904):0<=qm .i64 a b:=by
 obtain⟨m,rfl⟩:=BF r;obtain⟨n,rfl⟩:=BF z;have h:(BitVec.ofInt 64 (m:Int) ^^^ BitVec.ofInt 64 (n:Int)).toNat=m ^^^ n:=by
  rw[BitVec.toNat_xor,BitVec.toNat_ofInt,BitVec.toNat_ofInt];congr 1
  ·omega
  ·omega
 have H:m ^^^ n<2 ^ 62:=Nat.xor_lt_two_pow (by omega) (by omega);show 0<=IntKind.i64.wrap (((BitVec.ofInt 64 (m:Int) ^^^ BitVec.ofInt 64 (n:Int)).toNat:Nat):Int);rw[h,DC];omega
structure fF (b:List Int):Prop where
 byte:∀ y∈b,0<=y/\y<=255
 len:b.length<=2000
theorem zU (K:Nat)(b:List Int)(q:Nat)(n:Int)(h:fF b)(hq:q<=100000)(hn:1<=n):∃ v:Int,Q12.f K ((b,(q:Int)),n,())=some ((v,()),((b,((q+1:Nat):Int)),()))/\0<=v/\v<n:=by
 have w1:wr .i64 ((q:Int)+1)=((q+1:Nat):Int):=ar q (by omega);have w2:wr .i64 (((q+1:Nat):Int)-1)=(q:Int):=by rw[aH (n:=((q+1:Nat):Int)-1) (by omega) (by omega)];omega
 have hl:=h.len;have I:decide (n=0)=false:=decide_eq_false (by omega);have r:∀ x:Int,0<=x->0<=CU x n/\CU x n<n:=λx u=>⟨DG _ u,C5 _ (by omega)⟩
 simp only[Q12.f];rw[decide_eq_false (by omega:¬ n<1)];simp only[cond_false,w1,w2,I];by_cases O:b.length=0
 ·rw[show ((b.length:Int)==0)=true by simpa using O];exact⟨0,rfl,by omega,by omega⟩
 ·rw[show ((b.length:Int)==0)=false by simpa using O];simp only[cond_false];by_cases H:q<b.length
  ·rw[decide_eq_true (by omega:(q:Int)<(b.length:Int)),ag H];simp only[cond_true,BA];obtain⟨J,R⟩:=h.byte b[q] (BC H);rw[aH (n:=b[q]) (by omega) (by omega)];exact⟨_,rfl,r _ J⟩
  ·rw[decide_eq_false (by omega:¬ (q:Int)<(b.length:Int)),decide_eq_false (by omega:¬ (b.length:Int)=0)];simp only[cond_false];have t1:CU (q:Int) (b.length:Int)=((q % b.length:Nat):Int):=by rw[Cl (by omega)];rfl
   have t2:wr .i64 (wr .i64 ((q:Int)*7)+3)=((q*7+3:Nat):Int):=by rw[aH (n:=(q:Int)*7) (by omega) (by omega),aH (n:=(q:Int)*7+3) (by omega) (by omega)];omega
   have t3:CU (((q*7+3:Nat)):Int) (b.length:Int)=(((q*7+3) % b.length:Nat):Int):=by rw[Cl (by omega)];rfl
   have M:q % b.length<b.length:=Nat.mod_lt _ (by omega);have Y:(q*7+3) % b.length<b.length:=Nat.mod_lt _ (by omega);rw[t1,t2,t3,ag M,ag Y];simp only[BA];obtain⟨J,R⟩:=h.byte b[q % b.length] (BC M);obtain⟨z0,z1⟩:=h.byte b[(q*7+3) % b.length] (BC Y);generalize b[q % b.length]=y at J R ⊢;generalize b[(q*7+3) % b.length]=z at z0 z1 ⊢;have d1:0<=Cb (q:Int) (b.length:Int)/\Cb (q:Int) (b.length:Int)<=q:=⟨DH (by omega) (by omega),DD _ (by omega)⟩;generalize Cb (q:Int) (b.length:Int)=e at d1 ⊢;have Z:wr .i64 (wr .i64 (wr .i64 (wr .i64 (wr .i64 y*131)+wr .i64 (wr .i64 z*1117))+wr .i64 ((q:Int)*29))+wr .i64 (wr .i64 e*53))=y*131+z*1117+q*29+e*53:=by
    rw[aH (n:=y) (by omega) (by omega),aH (n:=z) (by omega) (by omega),aH (n:=e) (by omega) (by omega),aH (n:=y*131) (by omega) (by omega),aH (n:=z*1117) (by omega) (by omega),aH (n:=(q:Int)*29) (by omega) (by omega),aH (n:=e*53) (by omega) (by omega),
     aH (n:=y*131+z*1117) (by omega) (by omega),aH (n:=y*131+z*1117+(q:Int)*29) (by omega) (by omega),aH (n:=y*131+z*1117+(q:Int)*29+e*53) (by omega) (by omega)]
   rw[Z];have u:0<=y*131+z*1117+q*29+e*53/\y*131+z*1117+q*29+e*53<=10000000:=by omega
   generalize y*131+z*1117+(q:Int)*29+e*53=X at u ⊢;have d2:0<=Cb X 64/\Cb X 64<=X:=⟨DH u.1 (by omega),DD _ u.1⟩;rw[aH (n:=Cb X 64) (by omega) (by omega)];exact⟨_,rfl,r _ (AM u.1 (by omega) d2.1 (by omega))⟩
theorem vD (K:Nat)(t:List af)(f:af)(Y:t.length<=1048576)(R:Asc (λg:af=>g.1) t)(Z:1048577<K):Q34.f K (t,f,())=some (((bN t f).1,(bN t f).2,()),()):=by
 simp only[Q34.f,Q34.pre];obtain⟨o,z,J⟩:=fj K t f.1 Y Z;rw[J];simp only[BA];cases z with
 |at_ i r e =>
  simp only;rw[jb R r e,decide_eq_true (by omega:((i:Nat):Int)>=0),ag r];simp only[cond_true,BA,BE,ag r];rw[show Q26.f K (f,t[i],())=_ from pG K f t[i]];simp only[BA];by_cases z:bo f t[i]
  ·rw[decide_eq_true z,if_pos z];simp only[BI,cond_false];rw[szb _ _ _ (by omega) (by show (BB ([]:List af))+t.length<=_;simp;omega)];simp only[cond_true,BO,ag r,BA,BE];rw[ik (k:=λg:af=>g.1) R r e]
  ·rw[decide_eq_false z,if_neg z];rfl
 |no h =>
  simp only;rw[gu h,decide_eq_false (by omega:¬ (-1:Int)>=0)];simp only[cond_false];have M:∀ m:Nat,m<=t.length->(bif decide ((0:Int)<=0)&&decide ((0:Int)<=(m:Int))&&decide ((m:Int)<=(BB t:Int))&&true then (bif decide ((BB ([]:List af)+BB ((t.take (BD (m:Int))).drop (BD 0)))*32<=an) then (bif decide ((BB ([]++((t.take (BD (m:Int))).drop (BD 0)))+BB ([f]))*32<=an) then (bif decide ((0:Int)<=(m:Int))&&decide ((m:Int)<=(BB t:Int))&&decide ((BB t:Int)<=(BB t:Int))&&true then (bif decide ((BB (([]++((t.take (BD (m:Int))).drop (BD 0)))++([f]))+BB ((t.take (BD (BB t:Int))).drop (BD (m:Int))))*32<=an) then (some (((([]++((t.take (BD (m:Int))).drop (BD 0)))++([f]))++((t.take (BD (BB t:Int))).drop (BD (m:Int))),true,()),())) else none) else none) else none) else none) else (none:Option ((List af×Bool×Unit)×Unit)))=some ((t.take m++[f]++t.drop m,true,()),()):=by
   intro m X;rw[decide_eq_true (by omega:(0:Int)<=0),decide_eq_true (by omega:(0:Int)<=(m:Int)),decide_eq_true (by omega:(m:Int)<=(BB t:Int)),decide_eq_true (by omega:(BB t:Int)<=(BB t:Int))];simp only[BE,CR,Bu,BO,CL,CN,cond_true];have J:(t.take m).length=m:=by rw[BW];omega
   have H:(t.drop m).length=t.length-m:=B3;rw[szb _ _ _ (by omega) (by simp only[BM];omega),szb _ _ _ (by omega) (by simp only[BG,BM];omega),szb _ _ _ (by omega) (by simp only[BP,BG,BM];omega)];rfl
  have:=co (step:=λrec a=>Q34.s0 K (t,f,()) rec a) t.length (λi=>(i:Int)) (λj=>∃ h:j<t.length,¬ t[j].1<f.1) (some ((t.take t.length++[f]++t.drop t.length,true,()),())) (λj=>some ((t.take j++[f]++t.drop j,true,()),())) ?_ ?_ t.length K 0 (by omega) (by omega)
  ·have I:∀ m,m<=t.length->(∀ i,(r:i<t.length)->i<m->t[i].1<f.1)->(∀ i,(r:i<t.length)->m<=i->f.1<t[i].1)->t.take m++[f]++t.drop m=bu (λg=>g.1) f t:=λm X lo r=>gr (k:=λg:af=>g.1) X lo r
   rcases this with ⟨J,H⟩|⟨j,_,J,⟨h3,h4⟩,h5,H⟩
   ·rw[I t.length (BR _) (λi r _=>by
     have:=J i (BX _) r;exact CQ.1 λh=>this ⟨r,h⟩) (λi r h=>by omega)]at H
    exact H
   ·rw[I j (by omega) (λi r y=>by
     have:=h5 i (BX _) y;exact CQ.1 λh=>this ⟨r,h⟩) (λi r y=>by
     have a0:=h t[i] (BC r);rcases B8 y with O|O
     ·have:=cB.1 R j i h3 r O;omega
     ·subst O;omega)]at H
    exact H
  ·intro rec i r;simp only[Q34.s0];rw[bk (by omega:(i:Int)<(BB t:Int)),ag r,ar i (by omega)];simp only[cond_true,BA];rw[show idx t ((BD (i:Int):Nat):Int)=some t[i] by rw[BE];exact ag r];simp only[BA];by_cases u:t[i].1<f.1
   ·exact .inl ⟨λ⟨_,h⟩=>h u,by rw[decide_eq_true u];rfl⟩
   ·exact .inr ⟨⟨r,u⟩,by rw[decide_eq_false u];exact M i (by omega)⟩
  ·intro rec;simp only[Q34.s0,aQ,cond_false];exact M t.length (BR _)
def eX (t:List af)(fs:List af):List af:=fs.foldl (λt f=>(bN t f).1) t
theorem qW:∀ {fs t:List af},az t->(∀ f∈fs,bg f)->az (eX t fs)
 |[],_,h,_=>h
 |f::fs,t,h,r=>qW (fs:=fs) (kh h (r f (by simp))) (λg u=>r g (by simp[u]))
theorem bX {t:List af}(h:az t):t.length<=1048576:=Bx (iP h.2 (λg r=>(h.1 g r).1)) (by decide)
theorem oh {R:Type}(a fs:List af)(X:az a)(M:∀ f∈fs,bg f)(r:List af->Option R){step:(List af×Int->Option R)->List af×Int->Option R}
  (h:∀ (rec:List af×Int->Option R) (t:List af) (i:Nat) (J:i<fs.length),az t->step rec (t,(i:Int))=rec ((bN t fs[i]).1,((i+1:Nat):Int)))
  (y:∀ (rec:List af×Int->Option R) (t:List af),step rec (t,(fs.length:Int))=r t) {k:Nat} (z:fs.length<k):ae step k (a,0)=r (eX a fs):=by
 have:∀ (d i k:Nat) (t:List af),i+d=fs.length->d<k->az t->ae step k (t,(i:Int))=r (eX t (fs.drop i)):=by
  intro d;induction d with
  |zero =>
   intro i k t J z _;obtain⟨k,rfl⟩:∃ H,k=H+1:=⟨k-1,by omega⟩;have:i=fs.length:=by omega
   subst this;show step (ae step k) _=_;rw[y,Cg];rfl
  |succ d O =>
   intro i k t J z I;obtain⟨k,rfl⟩:∃ H,k=H+1:=⟨k-1,by omega⟩;have u:i<fs.length:=by omega
   show step (ae step k) _=_;rw[h _ _ _ u I,BL u];exact O (i+1) k _ (by omega) (by omega) (kh I (M _ (BC u)))
 have:=this fs.length 0 k a (by omega) z X
 rwa [Bu]at this
theorem AN (K:Nat)(a b:List af)(r:az a)(u:az b)(y:1048577<K):Q172.f K (a,b,())=some ((eX a b,()),()):=by
 simp only[Q172.f,Q172.pre,Q1.f];obtain⟨b1,J,H⟩:=gn K a (bX r) y;obtain⟨Z,O,X⟩:=gn K b (bX u) y;have M:=H.2 r;have Y:=X.2 u;subst M Y;have I:=bX u;rw[J,O];simp only[BA,BI,cond_false];rw[dX (by have:=bX r;omega)];simp only[BA];refine oh a b r u.1 (step:=λrec x=>Q172.s0 K (a,b,()) rec x) (λt=>some ((t,()),())) ?_ ?_ (by omega)
 ·intro rec t i R z;simp only[Q172.s0];rw[bk (by omega:(i:Int)<(BB b:Int)),ag R,ar i (by omega)];simp only[cond_true,BA];rw[vr K t _ (bX z) z.2 y];rfl
 ·intro rec t;simp only[Q172.s0,aQ];rfl
theorem xb (f:af):¬ bo f f:=by
 unfold bo;simp
theorem kk (K:Nat)(xs:List af)(z:xs.length<=1048576)(y:1048577<K):Q224.f K (xs,xs,())=rb true:=by
 have u:Q224.l0 K (xs,xs,()) 0=rb true:=by
  refine eP (step:=λrec a=>Q224.s0 K (xs,xs,()) rec a) xs.length (λi=>(i:Int)) (rb true) ?_ ?_ (by omega)
  ·intro rec i r;simp only[Q224.s0];rw[decide_eq_true (by omega:(i:Int)<(BB xs:Int)),ag r,ar i (by omega)];simp only[cond_true,BA];rw[show Ty.eqv t2 xs[i] xs[i]=decide (xs[i]=xs[i]) from gq _ _,decide_eq_true rfl];rfl
  ·intro rec;simp only[Q224.s0,aQ];rfl
 simp only[Q224.f,Q224.pre,bne_self_eq_false,cond_false];exact u
theorem oX {l:List aG}(M:cP l)(T:List Int):az (ee l T l.length):=by
 unfold ee;constructor
 ·intro f Y;obtain⟨i,I,rfl⟩:=BZ.1 Y;obtain⟨h0,h1⟩:=ip.1 (BH.1 I).1;obtain⟨b,rfl⟩:=BF h0;have O:b<l.length:=by omega
  rw[cr O];exact (M.1 l[b] (BC O)).1
 ·unfold Asc;rw[By];have R:((ct l.length).filter λi=>decide (i∈T)).Pairwise λ (a b:Int)=>(0<=a/\a<l.length)/\(0<=b/\b<l.length)/\a<b:=by
   refine CS _ ?_;have:∀ u:List Int,(∀ x∈u,0<=x/\x<l.length)->u.Pairwise (·<·)->u.Pairwise λ (a b:Int)=>(0<=a/\a<l.length)/\(0<=b/\b<l.length)/\a<b:=by
    intro u z r;induction u with
    |nil=>exact List.Pairwise.nil
    |cons x u ih =>
     rw[BQ]at r ⊢;exact⟨λy H=>⟨z x (by simp),z y (by simp[H]),r.1 y H⟩,ih (λy H=>z y (by simp[H])) r.2⟩
   exact this _ (λx z=>ip.1 z) (jc _)
  refine R.imp λ {a b} h=>?_
  obtain⟨⟨X,a1⟩,⟨b0,b1⟩,Z⟩:=h;obtain⟨i,rfl⟩:=BF X;obtain⟨j,rfl⟩:=BF b0;have I:i<l.length:=by omega
  have J:j<l.length:=by omega
  rw[cr I,cr J];exact cB.1 M.2 i j I J (by omega)
theorem yA {l:List aG}(J:cP l)(T:List Int):cP (dA l T l.length):=by
 have r:∀ i (h:i<l.length),(dM l T (i:Int)).1=l[i].1:=λi h=>by
  unfold dM;rw[cr h];cases decide ((i:Int)∈T) <;> rfl
 have H:∀ i (h:i<l.length),(dM l T (i:Int)).2<=l[i].2:=λi h=>by
  unfold dM;rw[cr h];cases decide ((i:Int)∈T) with
  |true=>show l[i].2-1<=l[i].2;omega
  |false=>exact CD _
 unfold dA;constructor
 ·intro x O;obtain⟨M,I⟩:=BH.1 O;have I:x.2>0:=by simpa using I
  obtain⟨i,u,rfl⟩:=BJ M;rw[eB]at u;rw[e9 l T u]at I ⊢;have:=(J.1 l[i] (BC u));refine⟨by rw[r i u];exact this.1,?_,?_⟩
  ·omega
  ·have X:=H i u;have R:=this.2.2;omega
 ·unfold Asc;refine CS _ ?_;rw[CG];intro i j u y z;rw[eB]at u y;show (fV l T l.length)[i].1.1<(fV l T l.length)[j].1.1;rw[e9 l T u,e9 l T y,r i u,r j y];exact cB.1 J.2 i j u y z
def gY (n:aa)(to:Int):List af :=
 bif (aP (aa.table n) to).2.2.1==2 then (bN (ee (aa.cast n) (bW (aa.cast n)) (aa.cast n).length) (aP (aa.table n) to)).1 else ee (aa.cast n) (bW (aa.cast n)) (aa.cast n).length
def iQ (n:aa):aa:=fU n (aa.table n) (dA (aa.cast n) (bW (aa.cast n)) (aa.cast n).length) (aa.doubts n)
theorem nN {n:aa}(h:cq n)(to:Int):az (gY n to):=by
 have r:=oX h.cast (bW (aa.cast n));unfold gY;cases u:(aP (aa.table n) to).2.2.1==2 with
 |false=>exact r
 |true =>
  refine kh r (ek h.table ?_).1;by_cases y:∃ f∈aa.table n,f.1=to
  ·exact y
  ·rw[jv (λg z e=>y ⟨g,z,e⟩)]at u;simp at u
theorem clen {n:aa}(h:cq n):(aa.cast n).length<=8:=iP h.cast.2 (λx r=>(h.cast.1 x r).1.1)
theorem uL (K:Nat)(n:aa)(to:Int)(h:cq n)(u:1048577<K):Q95.f K (n,to,())=some ((gY n to,iQ n,()),()):=by
 have M:=clen h;simp only[Q95.f,zcp8];rw[show Q42.f K (n.2.2.2.2.2.2.2.2.2.1,3,())=_ from AL K (aa.cast n) (by omega) h.cast u];simp only[BA];obtain⟨o,J,I⟩:=fj K (aa.table n) to h.lt u;rw[show Q25.f K (n.2.2.2.2.2.2.2.2.1,to,())=_ from I];simp only[BA,gY];have H:=oX h.cast (bW (aa.cast n));cases J with
 |no y =>
  rw[jv y];rfl
 |at_ j z e =>
  have r:aP (aa.table n) to=(aa.table n)[j]:=by rw[<- e];exact iG h.table.2 (BC z)
  rw[r];simp only;rw[decide_eq_true (by omega:((j:Nat):Int)>=0),show idx n.2.2.2.2.2.2.2.2.1 ((j:Nat):Int)=some (aa.table n)[j] from ag z];simp only[cond_true,BA];cases (aa.table n)[j].2.2.1==2 with
  |false=>rfl
  |true =>
   simp only[cond_true];rw[vD K _ _ (bX H) H.2 u];rfl
theorem vE (K:Nat)(n:aa)(to:Int)(h:cq n)(r:1048577<K):Q206.f K (n,to,())=some ((gY n to,()),(iQ n,())):=by
 simp only[Q206.f,zcp8];rw[show Q205.f K (n.2.2.2.2.2.2.2.2.2.1,3,())=_ from vC K (aa.cast n) (clen h) h.cast r];simp only[BA];obtain⟨b,y⟩:=mM K (aa.table n) to h.table h.lt r;rw[show Q140.f K (n.2.2.2.2.2.2.2.2.1,to,())=_ from y];simp only[BA,gY];have u:=oX h.cast (bW (aa.cast n));cases (aP (aa.table n) to).2.2.1==2 with
 |false=>rfl
 |true =>
  simp only[cond_true];rw[vr K _ _ (bX u) u.2 r];rfl
def cG (n:aa)(k:Nat):Int:=CU (n.2.2.2.2.2.2.2.1+(k:Int)) 8
def hM (n:aa)(k:Nat):Prop:=cG n k≠n.1/\ez (aP (aa.table n) (cG n k))=true
def askN (n:aa)(to:Int):aa :=
 let m:=iQ n
 (m.1,m.2.1,m.2.2.1,m.2.2.2.1,m.2.2.2.2.1,m.2.2.2.2.2.1,m.2.2.2.2.2.2.1+1,to+1,m.2.2.2.2.2.2.2.2.1,m.2.2.2.2.2.2.2.2.2.1,(to,m.2.2.2.2.2.1,m.2.2.2.2.2.2.1+1,false),m.2.2.2.2.2.2.2.2.2.2.2)
def pingW (n:aa)(to:Int):ak:=(1,1,n.1,to,n.2.2.2.2.2.2.1+1,n.1,aa.coord n,gY n to)
theorem zV (K:Nat)(n:aa)(h:cq n)(Z:0<=n.2.2.2.2.2.2.2.1)(a0:n.2.2.2.2.2.2.2.1<=8)(R:1048577<K) :
  ∃ to:Int,Q96.f K (n,())=some ((to,()),())/\((to=-1/\∀ k,k<8->¬ hM n k)\/∃ k,k<8/\hM n k/\(∀ j,j<k->¬ hM n j)/\to=cG n k):=by
 have u:∀ k:Nat,k<8->wr .i64 (n.2.2.2.2.2.2.2.1+(k:Int))=n.2.2.2.2.2.2.2.1+(k:Int):=λk M=>aH (by omega) (by omega)
 have:=co (step:=λrec a=>Q96.s0 K (n,()) rec a) 8 (λi=>(i:Int)) (hM n) (some ((-1,()),())) (λj=>some ((cG n j,()),())) ?_ ?_ 8 K 0 (by omega) (by omega)
 ·rcases this with ⟨z,H⟩|⟨j,_,z,Y,X,H⟩
  ·exact⟨-1,H,.inl ⟨rfl,λk M=>z k (BX _) M⟩⟩
  ·exact⟨_,H,.inr ⟨j,z,Y,λm O=>X m (BX _) O,rfl⟩⟩
 ·intro rec i hi;simp only[Q96.s0];rw[decide_eq_true (by omega:(i:Int)<=7),u i hi,ar i (by omega)];simp only[cond_true];show (¬ hM n i/\(bif cG n i != n.1 then ((Q92.f K (aa.table n,cG n i,())).bind λI=>bif I.1.1 then (some ((cG n i,()),())) else (rec ((i+1:Nat):Int))) else (rec ((i+1:Nat):Int)))=rec ((i+1:Nat):Int))\/(hM n i/\(bif cG n i != n.1 then ((Q92.f K (aa.table n,cG n i,())).bind λI=>bif I.1.1 then (some ((cG n i,()),())) else (rec ((i+1:Nat):Int))) else (rec ((i+1:Nat):Int)))=some ((cG n i,()),()));rw[sL K (aa.table n) (cG n i) h.table h.lt R];by_cases r:cG n i=n.1
  ·exact .inl ⟨λJ=>J.1 r,by rw[show (cG n i != n.1)=false by simpa using r];rfl⟩
  ·rw[show (cG n i != n.1)=true by simpa using r];cases y:ez (aP (aa.table n) (cG n i)) with
   |true=>exact .inr ⟨⟨r,y⟩,rfl⟩
   |false=>exact .inl ⟨λJ=>(by rw[J.2]at y;cases y),rfl⟩
 ·intro rec;simp only[Q96.s0];rfl
abbrev lx:=Int×ByteArray×Bool
abbrev bQ:=List aa×List lx×List Int×List af
abbrev bQ.radio (w:bQ):List lx:=w.2.1
abbrev bQ.sides (w:bQ):List Int:=w.2.2.1
abbrev bQ.born (w:bQ):List af:=w.2.2.2
theorem fG {n:Int}(h:InP n 0 7):aj n=n / 4:=by
 obtain⟨r,u⟩:=h;unfold aj;rw[B5 r,aH (by omega) (by omega)]
theorem zW {α:Type}{k:α->Int}{xs:List α}(h:Asc k xs):∀ i (r:i<xs.length),k (xs[0]'(by omega))+i<=k xs[i]:=by
 rw[gM]at h;intro i;induction i with
 |zero=>intro r;simp
 |succ i u =>
  intro r;have z:=u (by omega);have y:=h (i+1) r (by omega);simp only[Nat.add_sub_cancel]at y;omega
theorem uf {t:List af}{s:Int}(u:az t)(y:bR t s):t.length<=4:=by
 cases h:t.length with
 |zero=>omega
 |succ m =>
  have r:m<t.length:=by omega
  have z:0<t.length:=by omega
  have O:=zW u.2 m r;have J:=y _ (BC r);have I:=y _ (BC z);have M:=(u.1 _ (BC r)).1;have H:=(u.1 _ (BC z)).1;rw[fG M]at J;rw[fG H]at I;omega
theorem sS {z:Int}{l:List bZ}(u:InP z 0 7)(h:c8 z l):l=[]\/∃ x,l=[x]:=by
 match l,h with
 |[],_=>exact .inl rfl
 |[x],_=>exact .inr ⟨x,rfl⟩
 |x::y::r,h =>
  exfalso;have H:=h.1 x (by simp);have M:=h.1 y (by simp);have h3:x.1<y.1:=by
   have:=h.2;unfold Asc at this;rw[BQ]at this;exact this.1 y (by simp)
  have e:=fG u;obtain⟨⟨a1,Y⟩,I,_⟩:=H;obtain⟨⟨X,O⟩,J,_⟩:=M;obtain⟨R,Z⟩:=u;rw[e]at I J;omega
theorem ly {a:Int}{m:Nat}(u:m<4611686018427387904):0<=bB .i64 a (m:Int)/\bB .i64 a (m:Int)<=m:=by
 have h:(BitVec.ofInt 64 a &&& BitVec.ofInt 64 (m:Int)).toNat<=m:=by
  rw[BitVec.toNat_and];refine Bx Nat.and_le_right ?_;rw[BitVec.toNat_ofInt];omega
 show 0<=IntKind.i64.wrap (((BitVec.ofInt 64 a &&& BitVec.ofInt 64 (m:Int)).toNat:Nat):Int)/\IntKind.i64.wrap (((BitVec.ofInt 64 a &&& BitVec.ofInt 64 (m:Int)).toNat:Nat):Int)<=m;generalize (BitVec.ofInt 64 a &&& BitVec.ofInt 64 (m:Int)).toNat=r at h ⊢;rw[DC];omega
def gO (g:List Int)(d:Int):Int:=g.getD (BD (CU (bB .i64 d 255) (g.length:Int))) 0
theorem iq {g:List Int}{d:Int}(h:g≠[]):idx g (CU (bB .i64 d 255) (g.length:Int))=some (gO g d)/\idx g ((BD (CU (bB .i64 d 255) (g.length:Int)):Nat):Int)=some (gO g d)/\gO g d∈g:=by
 have I:0<g.length:=Ck.2 h;have H:=(ly (a:=d) (m:=255) (by omega)).1;have u:0<=CU (bB .i64 d 255) (g.length:Int):=DG _ H;have z:CU (bB .i64 d 255) (g.length:Int)<g.length:=C5 _ (by omega);unfold gO;obtain⟨v,y⟩:=BF u;rw[y]at z ⊢;have r:v<g.length:=by omega
 rw[BE,ag r,List.getD_eq_getElem?_getD,BK r];exact⟨rfl,rfl,BC r⟩
def l7 (n:aa)(r d:Int):Int :=
 bif decide (fE (eF (aa.others n) r)≠[])&&bB .i64 d 4==0 then gO (fE (eF (aa.others n) r)) (CA d (2 ^ 3)) else r*4+bB .i64 (CA d (2 ^ 3)) 3
structure nO (n:aa):Prop where
 short:(aa.others n).length<=1
 table:∀ x∈aa.others n,az x.2/\x.2.length<=1048576
theorem AO {r d:Int}(H:0<=r)(z:r<=1):wr .i64 (wr .i64 (r*4)+bB .i64 (CA d (2 ^ 3)) 3)=r*4+bB .i64 (CA d (2 ^ 3)) 3:=by
 obtain⟨u,y⟩:=ly (a:=CA d (2 ^ 3)) (m:=3) (by omega);have u:0<=bB .i64 (CA d (2 ^ 3)) 3:=u;have y:bB .i64 (CA d (2 ^ 3)) 3<=3:=y;rw[aH (n:=r*4) (by omega) (by omega),aH (by omega) (by omega)]
theorem far_s (K:Nat)(n:aa)(r d:Int)(h:nO n)(R:0<=r)(O:r<=1)(J:1048577<K):Q101.f K (n,r,d,())=some ((l7 n r d,()),()):=by
 obtain⟨k,rfl⟩:∃ k,K=k+2:=⟨K-2,by omega⟩;show Q101.s0 (k+2) (n,r,d,()) (ae (λrec a=>Q101.s0 (k+2) (n,r,d,()) rec a) (k+1)) 0=_;have z:∀ (rec:Int->Option ((Int×Unit)×Unit)) (a:Int),¬ a<(aa.others n).length->Q101.s0 (k+2) (n,r,d,()) rec a=some ((r*4+bB .i64 (CA d (2 ^ 3)) 3,()),()):=by
  intro rec a X;simp only[Q101.s0];rw[show decide (a<(BB n.2.2.2.2.2.2.2.2.2.2.2.2.2.2:Int))=false from decide_eq_false X,AO R O];rfl
 match y:aa.others n with
 |[] =>
  rw[z _ _ (by rw[y];simp),l7,y];rfl
 |[x] =>
  have M:=h.table x (by rw[y];simp);have u:ae (λrec a=>Q101.s0 (k+2) (n,r,d,()) rec a) (k+1) 1=some ((r*4+bB .i64 (CA d (2 ^ 3)) 3,()),()):=z _ _ (by rw[y];simp);generalize ae (λrec a=>Q101.s0 (k+2) (n,r,d,()) rec a) (k+1)=rec at u ⊢;simp only[Q101.s0];rw[show decide ((0:Int)<(BB n.2.2.2.2.2.2.2.2.2.2.2.2.2.2:Int))=true from decide_eq_true (by show (0:Int)<((aa.others n).length:Int);rw[y];simp),show idx n.2.2.2.2.2.2.2.2.2.2.2.2.2.2 (0:Int)=some x by show idx (aa.others n) (0:Int)=some x;rw[y];rfl,show wr .i64 ((0:Int)+1)=1 from rfl];simp only[cond_true,BA,u];rw[l7,y];cases I:x.1==r with
  |false =>
   simp only[cond_false,eF,Cu,I,List.find?_nil];rfl
  |true =>
   simp only[cond_true,eF,Cu,I,DE,DB];rw[uE (k+2) x.2 M.2 J];simp only[BA];by_cases H:fE x.2=[]
   ·rw[H];rfl
   ·have Y:0<(fE x.2).length:=Ck.2 H;rw[decide_eq_true H,decide_eq_true (by omega:((fE x.2).length:Int)>0)];simp only[cond_true,B9];cases bB .i64 d 4==0 with
    |false=>rfl
    |true =>
     simp only[cond_true];rw[decide_eq_false (by omega:¬ ((fE x.2).length:Int)=0),(iq H).1,(iq H).2.1];rfl
 |_::_::_=>exact absurd h.short (by rw[y];simp)
def lz (n:aa):Bool:=decide (n.1∈fE (aa.table n))
theorem yB (K:Nat)(n:aa)(z:(aa.table n).length<=1048576)(I:1048577<K):Q100.f K (n,())=rb (lz n):=by
 simp only[Q100.f,Q100.pre];rw[show Q99.f K (n.2.2.2.2.2.2.2.2.1,2,())=_ from uE K (aa.table n) z I];simp only[BA];have J:=wQ (aa.table n);unfold lz;generalize fE (aa.table n)=g at J ⊢;have:=co (step:=λrec a=>Q100.s0 K (n,()) rec a) g.length (λi=>(g,(i:Int))) (λj=>∃ h:j<g.length,g[j]=n.1) (rb false) (λ_=>rb true) ?_ ?_ g.length K 0 (by omega) (by omega)
 ·rcases this with ⟨y,u⟩|⟨j,_,y,⟨O,M⟩,_,u⟩
  ·rw[decide_eq_false (λH=>by
    obtain⟨i,r,e⟩:=BJ H;exact y i (BX _) r ⟨r,e⟩)]
   exact u
  ·rw[decide_eq_true (M ▸ BC O:n.1∈g)];exact u
 ·intro rec i r;simp only[Q100.s0];rw[bk (by omega:(i:Int)<(BB g:Int)),ag r,ar i (by omega),BE,ag r];simp only[cond_true,BA];by_cases h:g[i]=n.1
  ·exact .inr ⟨⟨r,h⟩,by rw[show (g[i]==n.1)=true by simpa using h];rfl⟩
  ·exact .inl ⟨λ⟨_,R⟩=>h R,by rw[show (g[i]==n.1)=false by simpa using h];rfl⟩
 ·intro rec;simp only[Q100.s0,aQ];rfl
def wanW (n:aa)(d r:Int):ak:=(2,(nL 6 n (l7 n r d)).2)
def l8 (n:aa)(d:Int):List ak:=bif lz n then (([0,1]:List Int).filter (λs=>s != aj n.1)).map (wanW n d) else []
theorem wan_s (K:Nat)(n:aa)(d:Int)(h:nO n)(u:(aa.table n).length<=1048576)(y:1048577<K):Q102.f K (n,d,())=some ((l8 n d,()),()):=by
 simp only[Q102.f,Q102.pre];rw[yB K n u y];simp only[BA,l8];cases lz n with
 |false=>rfl
 |true =>
  simp only[BI,cond_false,cond_true];refine qr (step:=λrec a=>Q102.s0 K (n,d,()) rec a) ([0,1]:List Int) (λs=>s != aj n.1) (wanW n d) (λr i=>(r,(i:Int))) (λH=>some ((H,()),())) ?_ ?_ (by simp;omega)
  ·intro rec r i J M;have z:i<2:=J;have I:([0,1]:List Int)[i]=(i:Int):=by
    have:i=0\/i=1:=by omega
    rcases this with rfl|rfl <;> rfl
   simp only[Q102.s0,I];rw[decide_eq_true (by omega:(i:Int)<=1),ar i (by omega),dk K n.1];simp only[cond_true,BA];cases (i:Int) != aj n.1 with
   |false=>rfl
   |true =>
    simp only[cond_true];rw[far_s K n (i:Int) d h (by omega) (by omega) y];simp only[BA];refine (congrArg (λo=>BS o _) (nM K n 6 (l7 n (i:Int) d) u)).trans ?_;simp only[BA];rw[szw _ _ _ (by omega) (by simp;omega)];rfl
  ·intro rec r M;simp only[Q102.s0];rfl
def sU (n:aa)(f:af):Bool:=f.2.2.1 != 4&&f.1 != n.1
def fm (n:aa):List Int:=((aa.table n).filter (sU n)).map (·.1)
def sW (n:aa)(to:Int):List ak:=match aa.others n with
 |[]=>[]
 |x::_=>[(1,6,n.1,to,0,n.1,aa.coord n,x.2)]
def j8 (n:aa)(r:Int):List ak :=
 bif bB .i64 r 3==1 then l8 n (CA r (2 ^ 2)) else
 bif bB .i64 r 3==3||decide (fm n=[]) then [] else
 bif bB .i64 r 3==0 then [nL 4 n (gO (fm n) (CA r (2 ^ 2)))] else sW n (gO (fm n) (CA r (2 ^ 2)))
theorem and3 (a:Int):bB .i64 a 3=0\/bB .i64 a 3=1\/bB .i64 a 3=2\/bB .i64 a 3=3:=by
 obtain⟨r,u⟩:=ly (a:=a) (m:=3) (by omega);have r:0<=bB .i64 a 3:=r;have u:bB .i64 a 3<=3:=u;omega
theorem xc {n:aa}(r:az (aa.table n)){v:Int}(u:v∈fm n):0<=v:=by
 obtain⟨f,y,rfl⟩:=BZ.1 u;exact (r.1 f (BH.1 y).1).1.1
theorem AP (K:Nat)(n:aa)(d:Int)(H:(aa.table n).length<=1048576)(J:1048577<K):Q98.f K (n,d,())=some ((bif decide (fm n=[]) then -1 else gO (fm n) d,()),()):=by
 refine (vq (step:=λrec a=>Q98.s0 K (n,d,()) rec a) (aa.table n) (sU n) (λf=>f.1) (λy=>some ((bif decide (y=[]) then -1 else gO y d,()),())) ?_ ?_ (by omega)).trans rfl
 ·intro rec r i z I;simp only[Q98.s0];rw[show decide ((i:Int)<(BB n.2.2.2.2.2.2.2.2.1:Int))=true from bk (by omega:(i:Int)<(BB (aa.table n):Int)),show idx n.2.2.2.2.2.2.2.2.1 (i:Int)=some (aa.table n)[i] from ag z,ar i (by omega)];simp only[cond_true,BA,sU];rw[szb _ _ _ (by omega) (by simp;omega)];cases (aa.table n)[i].1 != n.1 <;> cases (aa.table n)[i].2.2.1 != 4 <;> rfl
 ·intro rec r _;simp only[Q98.s0];rw[show decide ((BB (aa.table n):Int)<(BB n.2.2.2.2.2.2.2.2.1:Int))=false from aQ _];simp only[cond_false];by_cases u:r=[]
  ·subst u;rfl
  ·have M:0<r.length:=Ck.2 u;rw[show ((r.length:Int)==0)=false by simp;exact u,decide_eq_false (by omega:¬ (r.length:Int)=0),decide_eq_false u,(iq u).1,(iq u).2.1];rfl
theorem AQ (K:Nat)(n:aa)(r:Int)(h:nO n)(J:az (aa.table n))(z:(aa.table n).length<=1048576)(I:1048577<K):Q103.f K (n,r,())=some ((j8 n r,()),()):=by
 simp only[Q103.f];rw[AP K n _ z I];simp only[BA];rw[wan_s K n _ h z I];simp only[BA,j8];by_cases u:fm n=[]
 ·rw[decide_eq_true u];simp only[cond_true,DJ,show decide ((-1:Int)>=0)=false from rfl,cond_false];rcases and3 r with e|e|e|e <;> rw[e] <;> rfl
 ·have O:=xc J (iq (d:=CA r (2 ^ 2)) u).2.2;rw[decide_eq_false u];simp only[cond_false,Bool.or_false];rw[decide_eq_true (by omega:gO (fm n) (CA r (2 ^ 2))>=0)];simp only[cond_true];rw[show Q39.f K (n,4,gO (fm n) (CA r (2 ^ 2)),0,n.1,n.2.2.2.2.2.2.2.2.1,())=_ from nM K n 4 _ z];simp only[BA];rcases and3 r with e|e|e|e
  ·rw[e];rfl
  ·rw[e];rfl
  ·rw[e];simp only[show ((2:Int)==0)=false from rfl,show ((2:Int)==1)=false from rfl,show ((2:Int)==2)=true from rfl,show ((2:Int)==3)=false from rfl,cond_false,cond_true];unfold sW
   match y:aa.others n with
   |[] =>
    rw[show decide ((BB n.2.2.2.2.2.2.2.2.2.2.2.2.2.2:Int)>0)=false by show decide (((aa.others n).length:Int)>0)=false;rw[y];rfl];rfl
   |[x] =>
    have M:=h.table x (by rw[y];simp);have H:(aa.others n).length=1:=by rw[y];rfl
    rw[show decide ((BB n.2.2.2.2.2.2.2.2.2.2.2.2.2.2:Int)>0)=true by show decide (((aa.others n).length:Int)>0)=true;rw[H];rfl,show decide ((BB n.2.2.2.2.2.2.2.2.2.2.2.2.2.2:Int)=0)=false by show decide (((aa.others n).length:Int)=0)=false;rw[H];rfl];simp only[cond_true,cond_false];rw[show idx n.2.2.2.2.2.2.2.2.2.2.2.2.2.2 (CU (bB .i64 (CA r (2 ^ 10)) 255) (BB n.2.2.2.2.2.2.2.2.2.2.2.2.2.2:Int))=some x by
     show idx (aa.others n) (CU (bB .i64 (CA r (2 ^ 10)) 255) ((aa.others n).length:Int))=some x;rw[H,y,show ((1:Nat):Int)=1 from rfl,Int.tmod_one];rfl]
    simp only[BA,Q39.f];rw[szb _ _ _ (by omega) (by have:=M.2;simp;omega)];rfl
   |_::_::_=>exact absurd h.short (by rw[y];simp)
  ·rw[e];rfl
def rk (f:af):Int:=f.2.1*16+f.2.2.1*2+(if f.2.2.2=true then 1 else 0)
theorem j9 {f g:af}(r:bg f)(u:bg g):bo f g<->rk g<rk f:=by
 obtain⟨_,_,y,I⟩:=r;obtain⟨_,_,H,z⟩:=u;unfold bo rk;by_cases a:f.2.1=g.2.1
 ·rw[if_neg (by simpa using a)];by_cases c:f.2.2.1=g.2.2.1
  ·rw[if_neg (by simpa using c),a,c];cases f.2.2.2 <;> cases g.2.2.2 <;> simp <;> omega
  ·rw[if_pos c];cases f.2.2.2 <;> cases g.2.2.2 <;> simp <;> omega
 ·rw[if_pos a];cases f.2.2.2 <;> cases g.2.2.2 <;> simp <;> omega
theorem kV {t:List af}(H:Asc (λg:af=>g.1) t)(f:af):bN t f=(t,false)\/(bN t f=(bu (λg=>g.1) f t,true)/\∀ g∈t,g.1=f.1->bo f g):=by
 by_cases h:∃ g∈t,g.1=f.1
 ·obtain⟨g,r,e⟩:=h;obtain⟨i,I,rfl⟩:=BJ r;rw[jb H I e];by_cases y:bo f t[i]
  ·rw[if_pos y];refine .inr ⟨rfl,λM u J=>?_⟩;rw[gp H u r (by rw[e,J])];exact y
  ·rw[if_neg y];exact .inl rfl
 ·have z:∀ g∈t,g.1≠f.1:=λg r e=>h ⟨g,r,e⟩
  exact .inr ⟨gu z,λg r e=>absurd e (z g r)⟩
theorem oi {n:aa}(R:az (aa.table n)):iD n<->(∀ d∈aa.doubts n,lu n d)/\Asc (λd:bM=>d.1) (aa.doubts n)/\∀ f∈aa.table n,f.2.2.1=2->∃ d∈aa.doubts n,d.1=f.1:=by
 have J:((aT (aa.table n)).map (λf:af=>f.1)).Pairwise (·<·):=by
  rw[By];exact CS _ R.2
 constructor
 ·rintro⟨h1,h2,h3⟩;refine⟨h1,h2,λf z u=>?_⟩;have r:((aa.doubts n).map (λd:bM=>d.1)).Pairwise (·<·):=by rw[By];exact h2
  have:=(i9 _ _ r J (λx y=>by
   obtain⟨d,r,rfl⟩:=BZ.1 y;obtain⟨⟨g,H,e,M,_⟩,_⟩:=h1 d r;exact BZ.2 ⟨g,BH.2 ⟨H,by simpa using M⟩,e⟩)).2 (by rw[BU,BU,h3])
  have O:f.1∈(aT (aa.table n)).map (λf:af=>f.1):=BZ.2 ⟨f,BH.2 ⟨z,by simpa using u⟩,rfl⟩;rw[<- this]at O;obtain⟨d,r,e⟩:=BZ.1 O;exact⟨d,r,e⟩
 ·rintro⟨h1,h2,h3⟩;refine⟨h1,h2,?_⟩;have r:((aa.doubts n).map (λd:bM=>d.1)).Pairwise (·<·):=by rw[By];exact h2
  have X:=(i9 _ _ r J (λx y=>by
   obtain⟨d,r,rfl⟩:=BZ.1 y;obtain⟨⟨g,H,e,M,_⟩,_⟩:=h1 d r;exact BZ.2 ⟨g,BH.2 ⟨H,by simpa using M⟩,e⟩)).1
  have Y:=(i9 _ _ J r (λx y=>by
   obtain⟨f,z,rfl⟩:=BZ.1 y;obtain⟨I,u⟩:=BH.1 z;obtain⟨d,r,e⟩:=h3 f I (by simpa using u);exact BZ.2 ⟨d,r,e⟩)).1
  rw[BU,BU]at X Y;omega
def cf (n:aa):Int:=n.2.2.2.2.2.1
def fp (n:aa)(b:Int):Prop:=InP b 0 7/\aj b=aj n.1
theorem oj {n:aa}(u:Asc (λg:af=>g.1) (aa.table n))(f:af)(b:Int):sayOf n f b=n \/
  (sayOf n f b=fU n (bu (λg=>g.1) f (aa.table n)) (cU (aa.cast n) f) (bif jR n f then aa.doubts n else cM (cf n) (aa.doubts n) f b)/\∀ g∈aa.table n,g.1=f.1->bo f g):=by
 rcases kV u f with h|⟨h,r⟩
 ·left;unfold sayOf;rw[h];rfl
 ·right;refine⟨?_,r⟩;unfold sayOf;rw[h];rfl
theorem vF {n:aa}{f:af}{b:Int}(O:az (aa.table n))(hD:iD n)(hf:bg f)(hb:fp n b)(hn:0<=cf n)(c:List aG) :
  iD (fU n (bu (λg=>g.1) f (aa.table n)) c (bif jR n f then aa.doubts n else cM (cf n) (aa.doubts n) f b)):=by
 obtain⟨h1,h2,h3⟩:=(oi O).1 hD;have Z:az (bu (λg:af=>g.1) f (aa.table n)):=⟨λg y=>by
  rcases aX.1 y with rfl|⟨y,_⟩
  ·exact hf
  ·exact O.1 g y,e8 O.2⟩
 refine (oi (n:=fU n _ c _) Z).2 ?_;have J:∀ d∈aa.doubts n,d.1≠f.1->∀ ds,lu (fU n (bu (λg:af=>g.1) f (aa.table n)) c ds) d:=λd z u ds=>by
  obtain⟨⟨g,y,X,R,Y⟩,r⟩:=h1 d z;exact⟨⟨g,aX.2 (.inr ⟨y,by rw[X];exact u⟩),X,R,Y⟩,r⟩
 have I:∀ g∈bu (λg:af=>g.1) f (aa.table n),g.1≠f.1->g.2.2.1=2->∃ d∈aa.doubts n,d.1=g.1:=λg y u h=>by
  rcases aX.1 y with rfl|⟨y,_⟩
  ·exact absurd rfl u
  ·exact h3 g y h
 cases hs:jR n f with
 |true =>
  obtain⟨g0,M,s1,s2,s3⟩:=of_decide_eq_true hs;refine⟨λd z=>?_,h2,λg y h=>?_⟩
  ·by_cases u:d.1=f.1
   ·obtain⟨⟨g,y,X,R,Y⟩,r⟩:=h1 d z;rw[gp O.2 y M (by rw[X,s1,u])]at R Y;exact⟨⟨f,aX.2 (.inl rfl),u.symm,by rw[<- s3];exact R,by rw[<- s2];exact Y⟩,r⟩
   ·exact J d z u _
  ·by_cases u:g.1=f.1
   ·have a0:g=f:=by
     rcases aX.1 y with h|⟨_,h⟩
     ·exact h
     ·exact absurd u h
    rw[a0]at h ⊢;obtain⟨d,z,e⟩:=h3 g0 M (by rw[s3];exact h);exact⟨d,z,by rw[e,s1]⟩
   ·exact I g y u h
 |false =>
  by_cases H:f.2.2.1=2
  ·have e:cM (cf n) (aa.doubts n) f b=bu (λd=>d.1) (mkD (cf n) f b) (aa.doubts n):=by unfold cM;rw[if_pos H]
   simp only[cond_false];rw[e];refine⟨λd z=>?_,e8 h2,λg y h=>?_⟩
   ·rcases aX.1 z with rfl|⟨z,u⟩
    ·exact⟨⟨f,aX.2 (.inl rfl),rfl,H,rfl⟩,⟨hn,CD _⟩,List.cons_ne_nil _ _,λx hx=>by rw[Bz.1 hx];exact hb,Cr _ _⟩
    ·exact J d z u _
   ·by_cases u:g.1=f.1
    ·exact⟨mkD (cf n) f b,aX.2 (.inl rfl),u.symm⟩
    ·obtain⟨d,z,e⟩:=I g y u h;exact⟨d,aX.2 (.inr ⟨z,λe'=>u (e.symm.trans e')⟩),e⟩
  ·have e:cM (cf n) (aa.doubts n) f b=(aa.doubts n).filter (λd=>!(d.1==f.1)):=by unfold cM;rw[if_neg H]
   simp only[cond_false];rw[e];refine⟨λd z=>?_,lW h2 _,λg y h=>?_⟩
   ·obtain⟨z,u⟩:=BH.1 z;exact J d z (by simpa using u) _
   ·have u:g.1≠f.1:=λu=>by
     rcases aX.1 y with h'|⟨_,h'⟩
     ·rw[h']at h;exact H h
     ·exact h' u
    obtain⟨d,z,e⟩:=I g y u h;exact⟨d,BH.2 ⟨z,by rw[e];simpa using u⟩,e⟩
theorem vG {n:aa}{f:af}(O:az (aa.table n))(Y:cP (aa.cast n))(X:gV (aa.table n) (aa.cast n))(M:bg f)(R:∀ g∈aa.table n,g.1=f.1->bo f g) :
  gV (bu (λg=>g.1) f (aa.table n)) (cU (aa.cast n) f):=by
 have y:∀ x∈aa.cast n,∃ g∈bu (λg:af=>g.1) f (aa.table n),g.1=x.1.1/\¬ bo x.1 g:=λx r=>by
  obtain⟨g,J,e,H⟩:=X x r;by_cases u:g.1=f.1
  ·refine⟨f,aX.2 (.inl rfl),by rw[<- e,u],λh=>H ?_⟩;have z:=(Y.1 x r).1;have I:=O.1 g J;have:=R g J u;rw[j9 M I]at this;rw[j9 z M]at h;rw[j9 z I];omega
  ·exact⟨g,aX.2 (.inr ⟨J,u⟩),e,H⟩
 intro x r;unfold cU at r;split at r
 ·exact y x r
 ·rcases aX.1 r with rfl|⟨r,_⟩
  ·exact⟨f,aX.2 (.inl rfl),rfl,xb f⟩
  ·exact y x r
structure UpX (n:aa):Prop where
 me:InP n.1 0 7
 now0:0<=cf n
 table:az (aa.table n)
 site:bR (aa.table n) (aj n.1)
 cast:cP (aa.cast n)
 vs:gV (aa.table n) (aa.cast n)
 probe:c7 n
 doubts:iD n
 coord:cF (aa.coord n)
 places:er n.1 (aa.places n)
 others:c8 n.1 (aa.others n)
theorem UpX.of {n:aa}(h:UpP n)(z:InP n.1 0 7)(X:0<=cf n):UpX n:=by
 obtain⟨I,J,_,⟨O,R⟩,M,H,u,y,r⟩:=h;exact⟨z,X,I,J,O,R,M,H,u,y,r⟩
theorem UpX.up {n:aa}(h:UpX n)(r:cW n):UpP n:=⟨h.table,h.site,r,⟨h.cast,h.vs⟩,h.probe,h.doubts,h.coord,h.places,h.others⟩
theorem UpX.say {n:aa}(h:UpX n):cq n:=by
 refine cq.mk' h.table h.cast h.doubts.2.1 λd r=>?_
 obtain⟨f,u,e,_⟩:=(h.doubts.1 d r).1;rw[<- e];exact (h.table.1 f u).1
theorem fp.me {n:aa}(h:InP n.1 0 7):fp n n.1:=⟨h,rfl⟩
theorem qX {n m:aa}(h:c7 n)(J:m.1=n.1)(M:aa.probe m=aa.probe n)(H:∀ g∈aa.table n,∃ u∈aa.table m,u.1=g.1)(X:cf n<=cf m)(hs:n.2.2.2.2.2.2.1<=m.2.2.2.2.2.2.1):c7 m:=by
 unfold c7 at h ⊢;rw[M,J];split at h
 ·rename_i r;rw[if_pos r];exact h
 ·rename_i r;rw[if_neg r];obtain⟨Z,⟨g,hg,I⟩,⟨z,Y⟩,⟨O,p5⟩⟩:=h;obtain⟨u,y,R⟩:=H g hg;exact⟨Z,⟨u,y,R.trans I⟩,⟨z,Cc Y X⟩,⟨O,Cc p5 hs⟩⟩
theorem UpX.said {n:aa}{f:af}{b:Int}(h:UpX n)(u:bg f)(H:aj f.1=aj n.1)(I:fp n b):UpX (sayOf n f b):=by
 rcases oj h.table.2 f b with e|⟨e,z⟩
 ·rw[e];exact h
 ·have y:=λg r=>jx (n:=n) (f:=f) (b:=b) (g:=g) r
  rw[e]at y ⊢;refine⟨h.me,h.now0,⟨λg r=>?_,e8 h.table.2⟩,λg r=>?_,pI h.cast u,vG h.table h.cast h.vs u z,qX h.probe rfl rfl y (CD _) (CD _),vF h.table h.doubts u I h.now0 _,h.coord,h.places,h.others⟩
  ·rcases aX.1 r with rfl|⟨r,_⟩
   ·exact u
   ·exact h.table.1 g r
  ·rcases aX.1 r with rfl|⟨r,_⟩
   ·exact H
   ·exact h.site g r
theorem xd {n:aa}(u:Asc (λg:af=>g.1) (aa.table n)){f g:af}{b:Int}(r:g.1≠f.1):g∈aa.table (sayOf n f b)<->g∈aa.table n:=by
 rcases oj u f b with e|⟨e,_⟩
 ·rw[e]
 ·rw[e];exact aX.trans ⟨λh=>h.elim (λh=>absurd (by rw[h]) r) (·.1),λh=>.inr ⟨h,r⟩⟩
theorem mR {n:aa}(z:Asc (λg:af=>g.1) (aa.table n)){f:af}{b:Int}(h:∀ g∈aa.table n,g.1=f.1->bo f g):f∈aa.table (sayOf n f b):=by
 have H:bN (aa.table n) f=(bu (λg=>g.1) f (aa.table n),true):=by
  rcases kV z f with e|⟨e,_⟩
  ·by_cases y:∃ g∈aa.table n,g.1=f.1
   ·obtain⟨g,r,u⟩:=y;obtain⟨i,I,rfl⟩:=BJ r;rw[jb z I u,if_pos (h _ r u)]
   ·exact gu λg r e=>y ⟨g,r,e⟩
  ·exact e
 unfold Go.Proofs.YtadlacffdemoiaaGreatEv.sayOf;rw[H];exact aX.2 (.inl rfl)
def OnN (n m:aa):Prop:=∃ t c r,m=fU n t c r
theorem OnN.refl (n:aa):OnN n n:=⟨_,_,_,rfl⟩
theorem OnN.say {n m:aa}(h:OnN n m)(f:af)(b:Int):OnN n (Go.Proofs.YtadlacffdemoiaaGreatEv.sayOf m f b):=by
 obtain⟨t,c,u,rfl⟩:=h;obtain⟨z,y,r,e,_⟩:=iF (fU n t c u) f b;exact⟨z,y,r,e⟩
def l9 (n:aa):af:=(n.1,n.2.2.2.2.1,(if n.2.2.1=true then 4 else 1),n.2.2.2.1)
theorem oY {n m:aa}(z:Asc (λg:af=>g.1) (aa.table m))(u:OnN n m){f:af}{b:Int}(r:f.1≠n.1)(h:cW m):cW (sayOf m f b):=by
 obtain⟨t,c,O,e⟩:=u.say f b;obtain⟨M,R,J,I⟩:=u;have H:l9 n∈aa.table m:=by rw[I]at h ⊢;exact h
 have y:=(xd z (f:=f) (b:=b) (g:=l9 n) (λh=>r h.symm)).2 H;rw[e]at y ⊢;exact y
theorem yC {n:aa}(h:UpX n)(z:cW n){d:bM}(y:d∈aa.doubts n):d.1≠n.1:=by
 obtain⟨⟨g,I,e,r,_⟩,_⟩:=h.doubts.1 d y;intro H;have u:l9 n∈aa.table n:=z;have:=gp h.table.2 I u (by rw[e,H];rfl);rw[this]at r;revert r;show (if n.2.2.1=true then (4:Int) else 1)=2->False;split <;> omega
theorem mS {n:aa}(h:UpX n)(hs:cW n):UpX (kj n)/\cW (kj n)/\OnN n (kj n):=by
 have:=lX (st:=im) (Inv:=λm=>(UpX m/\cW m/\OnN n m)/\∀ g∈aa.table n,∃ M∈aa.table m,M.1=g.1) (ds:=aa.doubts n) (n:=n) ⟨⟨h,hs,OnN.refl n⟩,λg u=>⟨g,u,rfl⟩⟩ ?_
 ·exact this.1
 ·rintro m d Z ⟨⟨r,y,J⟩,I⟩;have R:=yC h hs Z;unfold im;cases qs m.2.2.2.2.2.1 d.2.2.1 d.2.2.2.length with
  |false=>exact⟨⟨r,y,J⟩,I⟩
  |true =>
   obtain⟨⟨g,u,e,_⟩,_⟩:=h.doubts.1 d Z;obtain⟨M,X,e'⟩:=I g u;obtain⟨h1,h2,h3⟩:=ek r.table ⟨M,X,e'.trans e⟩;have O:aj (kD (aP (aa.table m) d.1)).1=aj m.1:=by
    show aj (aP (aa.table m) d.1).1=aj m.1;exact r.site _ h3
   have Y:(kD (aP (aa.table m) d.1)).1≠n.1:=by rw[show (kD (aP (aa.table m) d.1)).1=_ from h2];exact R
   refine⟨⟨r.said (uG h1) O (fp.me r.me),oY r.table.2 J Y y,J.say _ _⟩,λg u=>?_⟩;obtain⟨g1,z,e1⟩:=I g u;obtain⟨g2,H,e2⟩:=jx (f:=kD (aP (aa.table m) d.1)) (b:=m.1) z;exact⟨g2,H,e2.trans e1⟩
theorem UpX.setProbe {n:aa}(h:UpX n){p:af}(r:c7 (setP n p)):UpX (setP n p):=⟨h.me,h.now0,h.table,h.site,h.cast,h.vs,r,h.doubts,h.coord,h.places,h.others⟩
theorem xe (n:aa):c7 (setP n noP):=by
 unfold c7;exact (if_pos rfl).mpr rfl
theorem xf {n:aa}(h:UpX n)(H:cW n):UpX (dl n).1/\cW (dl n).1/\∃ p,OnN (setP n p) (dl n).1:=by
 have r:UpX n/\cW n/\∃ p,OnN (setP n p) n:=⟨h,H,aa.probe n,OnN.refl n⟩;have y:UpX (setP n noP):=h.setProbe (xe n);unfold dl;cases J:(aa.probe n).1==-1 with
 |true=>exact r
 |false =>
  have z:(aa.probe n).1≠-1:=by simpa using J
  have u:=h.probe;unfold c7 at u;rw[if_neg z]at u;simp only[cond_false];cases X:ez (aP (aa.table n) (aa.probe n).1) with
  |false=>exact⟨y,H,_,OnN.refl _⟩
  |true =>
   obtain⟨M,R,O⟩:=ek h.table (gX X);simp only[BI,cond_false];cases decide (n.2.2.2.2.2.1-(aa.probe n).2.1>=4) with
   |true =>
    simp only[cond_true];cases (aP (aa.table n) (aa.probe n).1).2.2.1==1 with
    |true =>
     have I:aj (pK (aP (aa.table n) (aa.probe n).1)).1=aj (setP n noP).1:=by
      show aj (aP (aa.table n) (aa.probe n).1).1=aj n.1;exact h.site _ O
     refine⟨y.said (zQ M) I (fp.me (n:=setP n noP) h.me),oY (n:=setP n noP) (m:=setP n noP) h.table.2 (OnN.refl (setP n noP)) ?_ H,noP,(OnN.refl (setP n noP)).say _ _⟩;rw[show (pK (aP (aa.table n) (aa.probe n).1)).1=_ from R];exact u.1
    |false=>exact⟨y,H,_,OnN.refl _⟩
   |false =>
    simp only[cond_false];cases decide (n.2.2.2.2.2.1-(aa.probe n).2.1>=2) with
    |false=>exact r
    |true =>
     simp only[cond_true];cases (aa.probe n).2.2.2 with
     |true=>exact r
     |false =>
      refine⟨h.setProbe ?_,H,_,OnN.refl _⟩;show c7 (lw n);unfold c7;rw[if_neg (show ¬ (aa.probe (lw n)).1=-1 from z)];exact u
def iR (n:aa):Option Int:=((List.range 8).map (cG n)).find? λx=>x != n.1&&ez (aP (aa.table n) x)
def jF (n:aa):Int:=n.2.2.2.2.2.2.1
def dQ (n:aa):aa×List ak:=bif decide (jF n>=999999) then (n,[]) else match iR n with
 |some to=>(askN n to,[pingW n to])
 |none=>(n,[])
theorem qY {n:aa}{to:Int}(h:iR n=some to):to≠n.1/\ez (aP (aa.table n) to)=true:=by
 have:=Cv h;simpa using this
theorem xg {l:List aG}{T:List Int}{x:aG}(h:x∈dA l T l.length):∃ y∈l,x.1=y.1:=by
 unfold dA at h;obtain⟨u,_⟩:=BH.1 h;obtain⟨i,r,rfl⟩:=BJ u;rw[eB]at r;rw[e9 l T r];refine⟨l[i],BC r,?_⟩;unfold dM;rw[cr r];cases decide ((i:Int)∈T) <;> rfl
theorem UpX.way {n:aa}(h:UpX n):UpX (iQ n):=⟨h.me,h.now0,h.table,h.site,yA h.cast _,λx z=>by
 obtain⟨y,r,e⟩:=xg z;obtain⟨g,H,u,I⟩:=h.vs y r;exact⟨g,H,by rw[e,u],by rw[e];exact I⟩,h.probe,h.doubts,h.coord,h.places,h.others⟩
structure sX (n:aa):Prop where
 seq:InP (jF n) 0 999999
 turn:InP n.2.2.2.2.2.2.2.1 0 8
theorem AR {n:aa}(h:UpX n)(z:cW n)(y:sX n):UpX (dQ n).1/\cW (dQ n).1/\sX (dQ n).1/\(dQ n).1.1=n.1/\cf (dQ n).1=cf n/\(dQ n).1.2.2.2.2.1=n.2.2.2.2.1:=by
 unfold dQ;by_cases J:jF n>=999999
 ·rw[decide_eq_true J];exact⟨h,z,y,rfl,rfl,rfl⟩
 ·rw[decide_eq_false J];simp only[cond_false];cases R:iR n with
  |none=>exact⟨h,z,y,rfl,rfl,rfl⟩
  |some to =>
   obtain⟨u,X⟩:=qY R;obtain⟨O,I,M⟩:=ek h.table (gX X);obtain⟨⟨Y,Z⟩,_⟩:=y;have r:InP to 0 7:=I ▸ O.1;have H:=h.way;refine⟨⟨h.me,h.now0,h.table,h.site,H.cast,H.vs,?_,h.doubts,h.coord,h.places,h.others⟩,z,⟨⟨show 0<=jF n+1 by omega,show jF n+1<=999999 by omega⟩,show 0<=to+1 by have:=r.1;omega,show to+1<=8 by have:=r.2;omega⟩,rfl,rfl,rfl⟩;show c7 (askN n to);unfold c7;rw[if_neg (show ¬ (aa.probe (askN n to)).1=-1 by have:=r.1;show ¬ to=-1;omega)];exact⟨u,⟨_,M,I⟩,⟨h.now0,CD _⟩,show 1<=jF n+1 by omega,CD _⟩
def d6 (n:aa):aa:=(n.1,n.2.1,n.2.2.1,n.2.2.2.1,n.2.2.2.2.1,n.2.2.2.2.2.1+1,n.2.2.2.2.2.2)
def fq (m:aa):aa×List ak:=bif (aa.probe m).1==-1 then dQ m else (m,[])
def ft (n:aa):aa×List ak:=dl (kj (d6 n))
def kE (n:aa):aa:=(fq (ft n).1).1
def pN (n:aa)(r:Int):List ak:=(ft n).2++(fq (ft n).1).2++j8 (kE n) r
theorem UpX.later {n:aa}(h:UpX n):UpX (d6 n):=by
 have J:cf (d6 n)=cf n+1:=rfl;have M:=h.now0;refine⟨h.me,by omega,h.table,h.site,h.cast,h.vs,qX h.probe rfl rfl (λg I=>⟨g,I,rfl⟩) (by omega) (CD _),⟨λd z=>?_,h.doubts.2⟩,h.coord,h.places,h.others⟩;obtain⟨r,⟨H,y⟩,u⟩:=h.doubts.1 d z;exact⟨r,⟨H,Cc y (show cf n<=cf (d6 n) by omega)⟩,u⟩
structure UpN (n:aa):Prop where
 x:UpX n
 self:cW n
 now1:cf n<=999999
 seq:sX n
 inc:InP n.2.2.2.2.1 0 999
 up:n.2.1=true
theorem UpN.of {n:aa}(h:gN n)(u:n.2.1=true):UpN n:=by
 obtain⟨z,y,J,I,H,r⟩:=h;rw[if_pos u]at r;exact⟨UpX.of r z y.1,r.2.2.1,y.2,⟨J,I⟩,H,u⟩
theorem UpN.ok {n:aa}(h:UpN n):gN n:=⟨h.x.me,⟨h.x.now0,h.now1⟩,h.seq.seq,h.seq.turn,h.inc,by rw[if_pos h.up];exact h.x.up h.self⟩
theorem pO {n:aa}(h:UpN n)(X:cf n<999999):UpN (ft n).1/\(ft n).1.1=n.1/\(ft n).1.2.2.1=n.2.2.1:=by
 have u:cW (d6 n):=h.self;obtain⟨I,r,J⟩:=mS h.x.later u;obtain⟨y,H,p,R⟩:=xf I r;obtain⟨t,c,Z,O⟩:=J;obtain⟨Y,c',M,z⟩:=R;have e:(ft n).1=_:=z;rw[O]at e;refine⟨⟨y,H,?_,⟨?_,?_⟩,?_,?_⟩,?_,?_⟩
 ·show cf (ft n).1<=999999;rw[e];show cf n+1<=999999;omega
 ·show InP (jF (ft n).1) 0 999999;rw[e];exact h.seq.seq
 ·show InP (ft n).1.2.2.2.2.2.2.2.1 0 8;rw[e];exact h.seq.turn
 ·show InP (ft n).1.2.2.2.2.1 0 999;rw[e];exact h.inc
 ·show (ft n).1.2.1=true;rw[e];exact h.up
 ·rw[e];rfl
 ·rw[e];rfl
theorem sY {m:aa}:(dQ m).1.2.1=m.2.1/\(dQ m).1.2.2.1=m.2.2.1:=by
 unfold dQ;cases decide (jF m>=999999) with
 |true=>exact⟨rfl,rfl⟩
 |false =>
  cases iR m with
  |none=>exact⟨rfl,rfl⟩
  |some to=>exact⟨rfl,rfl⟩
theorem vH {m:aa}(h:UpN m):UpN (fq m).1/\(fq m).1.1=m.1/\(fq m).1.2.2.1=m.2.2.1:=by
 unfold fq;cases (aa.probe m).1==-1 with
 |false=>exact⟨h,rfl,rfl⟩
 |true =>
  obtain⟨z,u,y,H,I,r⟩:=AR h.x h.self h.seq;refine⟨⟨z,u,?_,y,?_,?_⟩,H,sY.2⟩
  ·show cf (dQ m).1<=999999;rw[I];exact h.now1
  ·show InP (dQ m).1.2.2.2.2.1 0 999;rw[r];exact h.inc
  ·show (dQ m).1.2.1=true;rw[sY.1];exact h.up
theorem qu {n:aa}(h:UpN n)(r:cf n<999999):UpN (kE n)/\(kE n).1=n.1/\(kE n).2.2.1=n.2.2.1:=by
 obtain⟨u,J,H⟩:=pO h r;obtain⟨z,y,I⟩:=vH u;exact⟨z,y.trans J,I.trans H⟩
theorem yD {f g:af}(h:g.2.1<f.2.1):bo f g:=by
 unfold bo;rw[if_pos (by omega)];exact h
theorem zX {f g:af}(h:bo f g):g.2.1<=f.2.1:=by
 unfold bo at h;split at h <;> omega
theorem UpX.inc {n:aa}(h:UpX n)(i:Int):UpX (eA n i):=⟨h.me,h.now0,h.table,h.site,h.cast,h.vs,h.probe,h.doubts,h.coord,h.places,h.others⟩
theorem qZ {n:aa}(h:UpX n)(r:cW n){g:af}(u:g∈aa.table n)(e:g.1=n.1):g=l9 n:=gp h.table.2 u r (by rw[e];rfl)
theorem xh {n:aa}(h:UpX n)(r:cW n):aP (aa.table n) n.1=l9 n:=iG h.table.2 (f:=l9 n) r
theorem yE {n:aa}(h:UpN n)(H:n.2.2.1=false):UpN (mL n)/\(mL n).1=n.1:=by
 have z:bg (n.1,n.2.2.2.2.1,4,n.2.2.2.1):=⟨h.x.me,h.inc,show (1:Int)<=4 by omega,show (4:Int)<=4 by omega⟩;have r:=h.x.said z rfl (fp.me h.x.me);have y:(n.1,n.2.2.2.2.1,(4:Int),n.2.2.2.1)∈aa.table (sayOf n (n.1,n.2.2.2.2.1,4,n.2.2.2.1) n.1):=mR h.x.table.2 λg u e=>by
  rw[qZ h.x h.self u e];unfold bo l9;rw[H];simp
 obtain⟨t,c,I,e⟩:=(OnN.refl n).say (n.1,n.2.2.2.2.1,4,n.2.2.2.1) n.1;unfold mL;rw[e]at r y ⊢;exact⟨⟨⟨r.me,r.now0,r.table,r.site,r.cast,r.vs,r.probe,r.doubts,r.coord,r.places,r.others⟩,y,h.now1,⟨h.seq.seq,h.seq.turn⟩,h.inc,h.up⟩,rfl⟩
theorem xi {n:aa}{f:af}(h:UpN n)(y:n.2.2.1=false)(X:bg f):UpN (dY n f)/\(dY n f).1=n.1/\(dY n f).2.2.1=false:=by
 unfold dY;cases H:decide (bo f (aP (aa.table n) n.1))&&decide (f.2.1<999) with
 |false=>exact⟨h,rfl,y⟩
 |true =>
  rw[CE,decide_eq_true_eq,decide_eq_true_eq,xh h.x h.self]at H;obtain⟨R,M⟩:=H;have O:n.2.2.2.2.1<=f.2.1:=zX R;have r:=qt (n:=n) h.x.me X M;have I:UpX (sayOf (eA n (f.2.1+1)) (n.1,f.2.1+1,1,n.2.2.2.1) n.1):=(h.x.inc (f.2.1+1)).said r rfl (fp.me (n:=eA n (f.2.1+1)) h.x.me);have z:(n.1,f.2.1+1,(1:Int),n.2.2.2.1)∈aa.table (sayOf (eA n (f.2.1+1)) (n.1,f.2.1+1,1,n.2.2.2.1) n.1):=mR (n:=eA n (f.2.1+1)) h.x.table.2 λg u e=>by
   rw[qZ h.x h.self u e];exact yD (show n.2.2.2.2.1<f.2.1+1 by omega)
  obtain⟨t,c,J,e⟩:=(OnN.refl (eA n (f.2.1+1))).say (n.1,f.2.1+1,1,n.2.2.2.1) n.1;simp only[cond_true];rw[show sayOf (eA n (f.2.1+1)) (n.1,f.2.1+1,1,n.2.2.2.1) n.1=fU (eA n (f.2.1+1)) t c J from e]at I z ⊢;refine⟨⟨I,?_,h.now1,⟨h.seq.seq,h.seq.turn⟩,r.2.1,h.up⟩,rfl,y⟩;show (n.1,f.2.1+1,(if n.2.2.1=true then (4:Int) else 1),n.2.2.2.1)∈_;rw[y];exact z
theorem mT (f:af)(b:Int)(d:bM):(dK f b d).1=d.1/\(dK f b d).2.1=d.2.1/\(dK f b d).2.2.1=d.2.2.1:=by
 unfold dK;cases d.1==f.1&&d.2.1==f.2.1&&f.2.2.1==2 <;> exact⟨rfl,rfl,rfl⟩
theorem UpX.conf {n:aa}(h:UpX n)(f:af){b:Int}(hb:fp n b):UpX (jy n f b):=by
 refine⟨h.me,h.now0,h.table,h.site,h.cast,h.vs,h.probe,⟨λd J=>?_,?_,?_⟩,h.coord,h.places,h.others⟩
 ·obtain⟨r,y,rfl⟩:=BZ.1 J;obtain⟨H,M,I⟩:=mT f b r;obtain⟨⟨g,Y,O,e2,X⟩,Z,R,z⟩:=h.doubts.1 r y;refine⟨⟨g,Y,by rw[H];exact O,e2,by rw[M];exact X⟩,by rw[I];exact Z,?_⟩;unfold dK;cases r.1==f.1&&r.2.1==f.2.1&&f.2.2.1==2 with
  |false=>exact⟨R,z⟩
  |true =>
   refine⟨List.ne_nil_of_mem (aX.2 (.inl rfl)),λx u=>?_,e8 z.2⟩;rcases aX.1 u with rfl|⟨u,_⟩
   ·exact hb
   ·exact z.1 x u
 ·show Asc _ ((aa.doubts n).map (dK f b));unfold Asc;rw[By];exact h.doubts.2.1.imp λ {a c} h=>by show (dK f b a).1<(dK f b c).1;rw[(mT f b a).1,(mT f b c).1];exact h
 ·show _=((aa.doubts n).map (dK f b)).length;rw[BU];exact h.doubts.2.2
theorem sZ {n:aa}{f:af}{b:Int}(h:UpN n)(I:n.2.2.1=false)(z:bg f)(M:aj f.1=aj n.1)(H:fp n b):UpN (cQ b n f)/\(cQ b n f).1=n.1/\(cQ b n f).2.2.1=false:=by
 unfold cQ;by_cases r:f.1=n.1
 ·rw[show (f.1==n.1)=true by simpa using r];exact xi h I z
 ·rw[show (f.1==n.1)=false by simpa using r];have y:=h.x.said z M H;have u:=oY h.x.table.2 (OnN.refl n) (b:=b) r h.self;obtain⟨t,c,J,e⟩:=(OnN.refl n).say f b;simp only[cond_false];rw[show sayOf n f b=fU n t c J from e]at y u ⊢;exact⟨⟨y.conf f H,u,h.now1,⟨h.seq.seq,h.seq.turn⟩,h.inc,h.up⟩,rfl,I⟩
theorem kl {n:aa}{t:List af}{b:Int}(h:UpN n)(M:n.2.2.1=false)(H:az t)(J:bR t (aj n.1))(y:fp n b):UpN (dr n t b)/\(dr n t b).1=n.1/\(dr n t b).2.2.1=false:=by
 refine lX (st:=cQ b) (Inv:=λm=>UpN m/\m.1=n.1/\m.2.2.1=false) (ds:=t) (n:=n) ⟨h,rfl,M⟩ λm f u ⟨z,r,I⟩=>?_
 have:=sZ (b:=b) z I (H.1 f u) (by rw[r];exact J f u) ⟨y.1,by rw[r];exact y.2⟩;exact⟨this.1,this.2.1.trans r,this.2.2⟩
theorem UpN.learns {n:aa}(h:UpN n):dt n:=⟨h.x.say,h.x.me,⟨_,h.self,rfl⟩,λd u=>by
 obtain⟨_,_,_,r⟩:=h.x.doubts.1 d u;exact⟨r.2,λx y=>(r.1 x y).1⟩⟩
def mU (n:aa)(o:List bZ):aa:=(n.1,n.2.1,n.2.2.1,n.2.2.2.1,n.2.2.2.2.1,n.2.2.2.2.2.1,n.2.2.2.2.2.2.1,n.2.2.2.2.2.2.2.1,n.2.2.2.2.2.2.2.2.1,n.2.2.2.2.2.2.2.2.2.1,n.2.2.2.2.2.2.2.2.2.2.1,n.2.2.2.2.2.2.2.2.2.2.2.1,n.2.2.2.2.2.2.2.2.2.2.2.2.1,n.2.2.2.2.2.2.2.2.2.2.2.2.2.1,o)
theorem UpN.setOthers {n:aa}(h:UpN n){o:List bZ}(r:c8 n.1 o):UpN (mU n o):=⟨⟨h.x.me,h.x.now0,h.x.table,h.x.site,h.x.cast,h.x.vs,h.x.probe,h.x.doubts,h.x.coord,h.x.places,r⟩,h.self,h.now1,⟨h.seq.seq,h.seq.turn⟩,h.inc,h.up⟩
theorem vI {u s:Int}{r:List af}{o:List bZ}(I:c8 u o)(O:InP s 0 1)(y:s≠aj u)(J:r≠[])(M:az r)(H:bR r s):c8 u (bu (λx:bZ=>x.1) (s,r) o) :=
 ⟨λx z=>by
  rcases aX.1 z with rfl|⟨z,_⟩
  ·exact⟨O,y,J,M,H⟩
  ·exact I.1 x z,e8 I.2⟩
def gZ (l:List Int)(t:Int):List Int:=(l++[t]).drop ((l++[t]).length-3)
def dF (l:List dI)(r:Int):List Int:=((l.find? λp=>p.1==r).map (·.2.2)).getD []
def oZ (l:List dI)(r:Int)(c:dz)(t:Int):List dI:=bu (λp=>p.1) (r,c,gZ (dF l r) t) l
def pP (n:aa)(c:dz)(p:List dI):aa:=(n.1,n.2.1,n.2.2.1,n.2.2.2.1,n.2.2.2.2.1,n.2.2.2.2.2.1,n.2.2.2.2.2.2.1,n.2.2.2.2.2.2.2.1,n.2.2.2.2.2.2.2.2.1,n.2.2.2.2.2.2.2.2.2.1,noP,n.2.2.2.2.2.2.2.2.2.2.2.1,c,p,n.2.2.2.2.2.2.2.2.2.2.2.2.2.2)
theorem ug {l:List dI}{r:Int}{t:Int}(h:t∈dF l r):∃ p∈l,t∈p.2.2:=by
 unfold dF at h;cases u:l.find? λp=>p.1==r with
 |none=>rw[u]at h;simp at h
 |some p =>
  rw[u]at h;exact⟨p,CW u,h⟩
theorem xj {l:List Int}{t:Int}(u:∀ x∈l,InP x 1 60000)(r:InP t 1 60000):InP ((gZ l t).length:Int) 1 3/\∀ x∈gZ l t,InP x 1 60000:=by
 unfold gZ;constructor
 ·simp only[B3,BP,BG,BM];constructor <;> omega
 ·intro x y;have:=List.mem_of_mem_drop y;rcases B6.1 this with h|h
  ·exact u x h
  ·rw[Bz.1 h];exact r
theorem vJ {y r:Int}{l:List dI}{c:dz}{t:Int}(h:er y l)(I:InP r 0 7)(J:aj r=aj y)(R:r≠y)(O:cF c)(M:InP t 1 60000):er y (oZ l r c t):=by
 have H:=xj (l:=dF l r) (t:=t) (λx z=>by
  obtain⟨p,u,z⟩:=ug z;exact (h.1 p u).2.2.2.2.2 x z) M
 exact⟨λp u=>by
  rcases aX.1 u with rfl|⟨u,_⟩
  ·exact⟨I,J,R,O,H.1,H.2⟩
  ·exact h.1 p u,e8 h.2⟩
theorem UpN.heard {n:aa}(h:UpN n){c:dz}{p:List dI}(u:cF c)(r:er n.1 p):UpN (pP n c p):=⟨⟨h.x.me,h.x.now0,h.x.table,h.x.site,h.x.cast,h.x.vs,xe n,h.x.doubts,u,r,h.x.others⟩,h.self,h.now1,⟨h.seq.seq,h.seq.turn⟩,h.inc,h.up⟩
theorem UpN.way {n:aa}(h:UpN n):UpN (iQ n):=⟨h.x.way,h.self,h.now1,⟨h.seq.seq,h.seq.turn⟩,h.inc,h.up⟩
def Tot {α:Type}(o:Option α)(P:α->Prop):Prop:=∃ v,o=some v/\P v
section
variable {α β:Type} {P:α->Prop} {Q:β->Prop}
theorem Tot.ret {v:α}(h:P v):Tot (some v) P:=⟨v,rfl,h⟩
theorem Tot.mono {o:Option α}{r:α->Prop}(h:Tot o P)(k:∀ v,P v->r v):Tot o r:=by obtain⟨v,e,u⟩:=h;exact⟨v,e,k v u⟩
theorem Tot.bind {o:Option α}{g:α->Option β}(h:Tot o P)(k:∀ v,P v->Tot (g v) Q):Tot (o.bind g) Q:=by obtain⟨v,e,r⟩:=h;rw[e];exact k v r
theorem Tot.vl {o:Option α}{v:α}{g:α->Option β}(e:o=some v)(k:Tot (g v) Q):Tot (o.bind g) Q:=by rw[e];exact k
theorem Tot.cnd {b:Bool}{x y:Option α}(r:b=true->Tot x P)(u:b=false->Tot y P):Tot (bif b then x else y) P:=by
 cases b
 ·exact u rfl
 ·exact r rfl
theorem Tot.must {b:Bool}{x y:Option α}(r:b=true)(h:Tot x P):Tot (bif b then x else y) P:=by rw[r];exact h
theorem Tot.not {b:Bool}{x y:Option α}(r:b=false)(h:Tot x P):Tot (bif b then y else x) P:=by rw[r];exact h
theorem Tot.ix {xs:List α}{i:Int}{g:α->Option β}(u:0<=i)(z:i<xs.length)(k:∀ y∈xs,idx xs i=some y->Tot (g y) Q):Tot ((idx xs i).bind g) Q:=by
 obtain⟨n,rfl⟩:=BF u;have r:n<xs.length:=by omega
 have:=ag r;rw[this];exact k _ (BC r) this
theorem Tot.iter {A:Type}{step:(A->Option β)->A->Option β}(Inv:A->Prop)(m:A->Nat)(h:∀ (rec:A->Option β) (a:A),Inv a->(∀ r,Inv r->m r<m a->Tot (rec r) Q)->Tot (step rec a) Q):∀ (k:Nat) (a:A),m a<k->Inv a->Tot (ae step k a) Q:=by
 intro k;induction k with
 |zero=>intro a z;omega
 |succ k I =>
  intro a z H;exact h (ae step k) a H λr u y=>I r (by omega) u
end
theorem Ret.tot {o:Option RB}{P:Prop}(h:Ret o P):Tot o λv=>(v.1.1=true<->P):=by
 obtain⟨b,e,r⟩:=h;exact⟨_,e,r⟩
section
variable {α β:Type} {Q:β->Prop}
theorem Tot.cat {x y:ByteArray}{k:ByteArray->Option β}{a b:Nat}(u:x.size<=a)(r:y.size<=b)(h:∀ z:ByteArray,z.size<=a+b->Tot (k z) Q)(H:a+b<=4611686018427387904:=by omega):Tot (aU x y k) Q:=by
 unfold aU;rw[decide_eq_true (by omega)];exact h _ (by rw[ByteArray.size_append];omega)
theorem Tot.fit {a b c:Nat}{x y:Option β}(h:Tot x Q)(u:c<=1000:=by omega)(r:a+b<=2097152:=by omega):Tot (bif decide ((a+b)*c<=an) then x else y) Q:=by
 have:=Ca r u;rw[decide_eq_true (by unfold an;omega)];exact h
theorem Tot.ix2 {xs:List α}{i:Int}{g:α->Option β}(r:0<=i)(u:i<xs.length)(k:∀ y∈xs,idx xs i=some y->Tot (g y) Q):Tot ((idx xs i).bind λ_=>(idx xs ((BD i:Nat):Int)).bind g) Q :=
 Tot.ix r u λy z e=>by rw[Int.toNat_of_nonneg r,e];exact k y z e
end
theorem fH (s:ByteArray):s.data.toList.length=s.size:=Array.length_toList
theorem iS (xs:List Int):(gI xs).size=xs.length:=by
 unfold gI;show (List.toArray _).size=_;rw[List.size_toArray,BU]
theorem q8 (s:ByteArray):(eq s).length=s.size:=by
 unfold eq;rw[BU];exact fH s
theorem dec_t:∀ (d k:Nat) (n:Int),0<=n->n<10 ^ (d+1)->n<=1000000000->d<=100->d<k->Tot (Q0.f k (n,())) λr=>r.1.1.size<=d+1:=by
 intro d;induction d with
 |zero =>
  intro k n H u X M I;obtain⟨k,rfl⟩:∃ m,k=m+1:=⟨k-1,by omega⟩;show Tot (Q0.step (Q0.f k) (n,())) _;simp only[Q0.step];refine Tot.not (decide_eq_false (show ¬ n< -9223372036854775807 by omega)) (Tot.not (decide_eq_false (show ¬ n<0 by omega)) (Tot.must (decide_eq_true (show n<10 by exact u)) (Tot.ret ?_)));show (gI _).size<=1;rw[iS];exact BR _
 |succ d R =>
  intro k n H u X M I;obtain⟨k,rfl⟩:∃ m,k=m+1:=⟨k-1,by omega⟩;show Tot (Q0.step (Q0.f k) (n,())) _;simp only[Q0.step];refine Tot.not (decide_eq_false (show ¬ n< -9223372036854775807 by omega)) (Tot.not (decide_eq_false (show ¬ n<0 by omega)) (Tot.cnd (λ_=>Tot.ret ?_) λh=>?_))
  ·show (gI _).size<=_;rw[iS];exact Nat.succ_le_succ (BX _)
  ·have h:¬ n<10:=of_decide_eq_false h;have e:Cb n 10=n / 10:=by rw[B5 H]
   have y:(10:Int) ^ (d+1+1)=10 ^ (d+1)*10:=Int.pow_succ ..;have J:n / 10<10 ^ (d+1):=Int.ediv_lt_of_lt_mul (by omega) (by rw[<- y];exact u);rw[e,aH (by omega) (by omega)];refine Tot.bind (R k (n / 10) (by omega) J (by omega) (by omega) (by omega)) λv O=>Tot.cat O (b:=1) (by rw[iS];exact BR _) (λz Y=>Tot.ret Y) (by omega)
theorem kW (K:Nat)(n:Int)(u:0<=n)(y:n<=999999)(z:1048577<K):Tot (Q0.f K (n,())) λr=>r.1.1.size<=6 :=
 dec_t 5 K n u (by show n<1000000;omega) (by omega) (by omega) (by omega)
theorem ta (K:Nat)(i:Int)(y:0<=i)(u:i<=4):Tot (Q64.f K (i,())) λr=>r.1.1.size<=7:=by
 have:i=0\/i=1\/i=2\/i=3\/i=4:=by omega
 rcases this with rfl|rfl|rfl|rfl|rfl <;> exact⟨_,rfl,by decide⟩
theorem tc (K:Nat)(i:Int)(y:0<=i)(u:i<=6):Tot (Q61.f K (i,())) λr=>r.1.1.size<=4:=by
 have:i=0\/i=1\/i=2\/i=3\/i=4\/i=5\/i=6:=by omega
 rcases this with rfl|rfl|rfl|rfl|rfl|rfl|rfl <;> exact⟨_,rfl,by decide⟩
theorem yF (K:Nat)(t:List af)(H:az t)(hK:1048577<K):Tot (Q67.f K (t,())) λr=>r.1.1.size<=240:=by
 have hl:=iP H.2 (λg hg=>(H.1 g hg).1);refine Tot.iter (step:=λrec a=>Q67.s0 K (t,()) rec a) (λa=>0<=a.2/\a.2<=t.length/\(a.1.size:Int)<=30*a.2) (λa=>t.length-a.2.toNat) ?_ K _ (by show t.length-BD 0<K;omega) ⟨by show (0:Int)<=0;omega,by show (0:Int)<=_;omega,by show (0:Int)<=30*0;omega⟩;rintro rec ⟨s,i⟩ ⟨h0,h1,h2⟩ ih;simp only at h0 h1 h2 ih ⊢;simp only[Q67.s0];refine Tot.cnd (λh=>?_) λh=>?_
 ·have h:=of_decide_eq_true h;obtain⟨n,rfl⟩:=BF h0;have hn:n<t.length:=by omega
  obtain⟨⟨f1,f2⟩,⟨f3,f4⟩,f5,f6⟩:=H.1 t[n] (BC hn);rw[ag hn,ar n (by omega)];simp only[BA];have go:∀ z:ByteArray,z.size<=s.size+29->Tot (rec (z,((n+1:Nat):Int))) λr=>r.1.1.size<=240:=λz hz=>ih _ ⟨by show (0:Int)<=((n+1:Nat):Int);omega,by show ((n+1:Nat):Int)<=_;omega,by show (z.size:Int)<=30*((n+1:Nat):Int);omega⟩ (by show t.length-BD ((n+1:Nat):Int)<t.length-BD (n:Int);omega)
  have body:∀ R:ByteArray,R.size<=s.size+1->Tot ((Q0.f K (t[n].1,())).bind λy3=>aU R y3.1.1 λy4=>aU y4 (ByteArray.mk #[58]) λy5=>(Q0.f K (t[n].2.1,())).bind λy7=>aU y5 y7.1.1 λy8=>aU y8 (ByteArray.mk #[58]) λy9=>(Q64.f K (t[n].2.2.1,())).bind λJ=>aU y9 J.1.1 λu=>bif t[n].2.2.2 then (aU u (ByteArray.mk #[42]) λI=>rec (I,((n+1:Nat):Int))) else (rec (u,((n+1:Nat):Int)))) λr=>r.1.1.size<=240:=λR Z =>
   Tot.bind (kW K _ f1 (by omega) hK) λv1 s1=>Tot.cat Z s1 λz1 X=>Tot.cat X (b:=1) (by decide) λz2 O =>
   Tot.bind (kW K _ f3 (by omega) hK) λv2 s2=>Tot.cat O s2 λz3 Y=>Tot.cat Y (b:=1) (by decide) λz4 y =>
   Tot.bind (ta K _ (by omega) f6) λv3 s3=>Tot.cat y s3 λz5 M =>
   Tot.cnd (λ_=>Tot.cat M (b:=1) (by decide) λz6 a0=>go z6 (by omega)) λ_=>go z5 (by omega)
  exact Tot.cnd (λ_=>Tot.cat (BR _) (b:=1) (by decide) λz hz=>body z hz) λ_=>body s (by omega)
 ·have h:=of_decide_eq_false h;exact Tot.ret (by show s.size<=240;omega)
theorem ol (K:Nat)(t:List af)(z:t.length<=1048576)(u:1048577<K):Tot (Q68.f K (t,())) λr=>r.1.1.size<=240:=by
 simp only[Q68.f];refine Tot.bind (gm K t z u).tot λv H=>Tot.cnd (λ_=>Tot.ret (by show (0:Nat)<=240;omega)) λh=>?_
 have y:=H.1 (by simpa using h);exact Tot.cnd (λ_=>Tot.ret (by show (1:Nat)<=240;omega)) λ_=>Tot.bind (yF K t y u) λv h=>Tot.ret h
theorem pQ (K:Nat)(n:Int)(I:-999999<=n)(H:n<=999999)(y:1048577<K):Tot (Q70.f K (n,())) λr=>r.1.1.size<=7:=by
 simp only[Q70.f];refine Tot.cnd (λh=>?_) λh=>?_
 ·have h:n<0:=of_decide_eq_true h;rw[aH (by omega) (by omega)];exact Tot.bind (kW K _ (by omega) (by omega) y) λv s=>Tot.cat (a:=1) (by decide) s λz u=>Tot.ret u
 ·have h:¬ n<0:=of_decide_eq_false h;exact Tot.bind (kW K _ (by omega) (by omega) y) λv s=>Tot.cat (a:=1) (by decide) s λz u=>Tot.ret u
theorem yG (K:Nat)(w:ak)(I:dJ w)(y:1048577<K):Tot (Q71.f K (w,())) λr=>r.1.1.size<=400:=by
 obtain⟨_,⟨a1,R⟩,⟨O,Z⟩,⟨Y,c2⟩,⟨M,d2⟩,⟨X,e2⟩,⟨⟨x1,x2⟩,⟨y1,y2⟩,⟨J,z2⟩,⟨u1,u2⟩⟩,z,_⟩:=I;have H:=bX z;simp only[Q71.f];have u:(ByteArray.mk #[32]).size<=1:=by decide
 refine Tot.cnd (λ_=>?_) λ_=>?_ <;>
 exact Tot.cat (a:=3) (by decide) u λ_ h=>Tot.bind (tc K _ (by omega) R) λ_ s=>Tot.cat h s λ_ h=>Tot.cat h u λ_ h =>
  Tot.bind (kW K _ O (by omega) y) λ_ s=>Tot.cat h s λ_ h=>Tot.cat h u λ_ h =>
  Tot.bind (kW K _ Y (by omega) y) λ_ s=>Tot.cat h s λ_ h=>Tot.cat h u λ_ h =>
  Tot.bind (kW K _ M (by omega) y) λ_ s=>Tot.cat h s λ_ h=>Tot.cat h u λ_ h =>
  Tot.bind (kW K _ X (by omega) y) λ_ s=>Tot.cat h s λ_ h=>Tot.cat h u λ_ h =>
  Tot.bind (pQ K _ (by show -999999<=(ak.coord w).1;omega) (by show (ak.coord w).1<=999999;omega) y) λ_ s=>Tot.cat h s λ_ h=>Tot.cat h u λ_ h =>
  Tot.bind (pQ K _ (by show -999999<=(ak.coord w).2.1;omega) (by show (ak.coord w).2.1<=999999;omega) y) λ_ s=>Tot.cat h s λ_ h=>Tot.cat h u λ_ h =>
  Tot.bind (kW K _ J (by show (ak.coord w).2.2.1<=999999;omega) y) λ_ s=>Tot.cat h s λ_ h=>Tot.cat h u λ_ h =>
  Tot.bind (kW K _ (by show 0<=(ak.coord w).2.2.2;omega) (by show (ak.coord w).2.2.2<=999999;omega) y) λ_ s=>Tot.cat h s λ_ h=>Tot.cat h u λ_ h =>
  Tot.bind (ol K _ H y) λ_ s=>Tot.cat h s λ_ h=>Tot.ret (Bx h (by decide))
theorem yH (K:Nat)(n:Int)(I:1048577<K):Tot (Q73.f K (n,())) λ_=>True:=by
 refine Tot.iter (step:=λrec a=>Q73.s0 K (n,()) rec a) (λa=>0<=a.2/\a.2<=8) (λa=>8-a.2.toNat) ?_ K _ (by show 8-BD 0<K;omega) ⟨by show (0:Int)<=0;omega,by show (0:Int)<=8;omega⟩;rintro rec ⟨s,i⟩ ⟨y,H⟩ u;simp only at y H u ⊢;simp only[Q73.s0];obtain⟨i,rfl⟩:=BF y;refine Tot.cnd (λh=>?_) λ_=>Tot.ret trivial
 have h:=of_decide_eq_true h;rw[ar i (by omega)];have r:∀ z:Int,Tot (rec (z,((i+1:Nat):Int))) λ_=>True:=λz=>u _ ⟨by show (0:Int)<=((i+1:Nat):Int);omega,by show ((i+1:Nat):Int)<=8;omega⟩ (by show 8-BD ((i+1:Nat):Int)<8-BD (i:Int);omega)
 exact Tot.cnd (λ_=>r _) λ_=>r _
theorem zY (K:Nat)(s:ByteArray)(J:s.size<=1000000)(I:1048577<K):Tot (Q74.f K (s,())) λ_=>True:=by
 refine Tot.iter (step:=λrec a=>Q74.s0 K (s,()) rec a) (λa=>0<=a.2/\a.2<=s.size) (λa=>s.size-a.2.toNat) ?_ K _ (by show s.size-BD 0<K;omega) ⟨by show (0:Int)<=0;omega,by show (0:Int)<=_;omega⟩;rintro rec ⟨z,i⟩ ⟨r,H⟩ u;simp only at r H u ⊢;simp only[Q74.s0];obtain⟨i,rfl⟩:=BF r;refine Tot.cnd (λh=>?_) λ_=>Tot.ret trivial
 have h:=of_decide_eq_true h;rw[ar i (by omega)];exact Tot.ix r (by rw[fH];exact h) λy _ _=>Tot.bind (yH K _ I) λv _=>u _ ⟨by show (0:Int)<=((i+1:Nat):Int);omega,by show ((i+1:Nat):Int)<=_;omega⟩ (by show s.size-BD ((i+1:Nat):Int)<s.size-BD (i:Int);omega)
theorem hex_t (K:Nat)(n:Int)(R:1048577<K):Tot (Q72.f K (n,())) λr=>r.1.1.size<=8:=by
 refine Tot.iter (step:=λrec a=>Q72.s0 K (n,()) rec a) (λa=>-1<=a.2/\a.2<=7/\a.1.length=7-a.2) (λa=>(a.2+1).toNat) ?_ K _ (by show BD 8<K;omega) ⟨by show (-1:Int)<=7;omega,by show (7:Int)<=7;omega,by show (0:Int)=7-7;omega⟩;rintro rec ⟨z,i⟩ ⟨O,H,M⟩ u;simp only at O H M u ⊢;simp only[Q72.s0];refine Tot.cnd (λh=>?_) λh=>?_
 ·have h:=of_decide_eq_true h;rw[aH (n:=4*i) (by omega) (by omega),aH (n:=i-1) (by omega) (by omega)];obtain⟨J,I⟩:=ly (a:=CA n (2 ^ min (BD (4*i)) 64)) (m:=15) (by omega);refine Tot.not (decide_eq_false (by omega)) (Tot.ix J (Int.lt_of_le_of_lt I (by decide)) λy _ _=>Tot.fit ?_ (by omega) (by simp only[BG,BM];omega));exact u _ ⟨by show -1<=i-1;omega,by show i-1<=7;omega,by show ((z++[_]).length:Int)=7-(i-1);rw[BP,CP];omega⟩ (by show BD (i-1+1)<BD (i+1);omega)
 ·have h:=of_decide_eq_false h;refine Tot.ret ?_;show (gI z).size<=8;rw[iS];omega
theorem om (K:Nat)(w:ak)(I:(ak.table w).length<=1048576)(u:1048577<K):Tot (Q75.f K (w,())) λr=>r.1.1.size<=409/\(¬ dJ w->r.1.1=ByteArray.mk #[]):=by
 simp only[Q75.f];refine Tot.bind (sD K w I u).tot λv J=>Tot.cnd (λ_=>Tot.ret ⟨by show (0:Nat)<=409;omega,λ_=>rfl⟩) λh=>?_
 have H:=J.1 (by simpa using h);exact Tot.bind (yG K w H u) λb O=>Tot.cat O (b:=1) (by decide) λz y=>Tot.bind (zY K _ (by omega) u) λs _=>Tot.bind (hex_t K _ u) λx M=>Tot.cat y M λz y=>Tot.ret ⟨y,λh=>absurd H h⟩
theorem vK (K:Nat)(s:ByteArray)(c:Int)(hs:s.size<=100000)(hK:1048577<K):Tot (Q60.f K (s,c,())) λr=>r.1.1.length<=s.size+1/\∀ p∈r.1.1,p.size<=s.size:=by
 have I:∀ i j:Nat,(s.extract i j).size<=s.size:=λi j=>by rw[Cd];omega
 refine Tot.iter (step:=λrec a=>Q60.s0 K (s,c,()) rec a) (λa=>0<=a.2.1/\a.2.1<=a.2.2/\a.2.2<=s.size/\a.1.length<=a.2.2/\∀ p∈a.1,p.size<=s.size) (λa=>s.size-a.2.2.toNat) ?_ K _ (by show s.size-BD 0<K;omega) ⟨by show (0:Int)<=0;omega,by show (0:Int)<=0;omega,by show (0:Int)<=_;omega,by show (0:Int)<=0;omega,λp M=>by cases M⟩;rintro rec ⟨u,from_,i⟩ ⟨z,J,X,Z,O⟩ R;simp only at z J X Z O R ⊢;simp only[Q60.s0];obtain⟨i,rfl⟩:=BF (Cc z J);have H:∀ x:ByteArray,x.size<=s.size->∀ p∈u++[x],p.size<=s.size:=λx Y p M=>by
  rcases B6.1 M with h|h
  ·exact O p h
  ·rw[Bz.1 h];exact Y
 refine Tot.cnd (λh=>?_) λh=>?_
 ·have h:=of_decide_eq_true h;rw[ar i (by omega)];refine Tot.ix (Cc z J) (by rw[fH];exact h) λy _ _=>Tot.cnd (λ_=>Tot.must (by rw[decide_eq_true z,decide_eq_true J,decide_eq_true X];rfl) (Tot.fit (R _ ⟨?_,?_,?_,?_,H _ (I _ _)⟩ ?_) (by omega) (by simp only[BG,BM];omega))) λ_=>R _ ⟨z,?_,?_,?_,O⟩ ?_
  ·show (0:Int)<=((i+1:Nat):Int);omega
  ·show ((i+1:Nat):Int)<=((i+1:Nat):Int);omega
  ·show ((i+1:Nat):Int)<=s.size;omega
  ·show ((u++[_]).length:Int)<=((i+1:Nat):Int);rw[BP,CP];omega
  ·show s.size-BD ((i+1:Nat):Int)<s.size-BD (i:Int);omega
  ·show from_<=((i+1:Nat):Int);omega
  ·show ((i+1:Nat):Int)<=s.size;omega
  ·show (u.length:Int)<=((i+1:Nat):Int);omega
  ·show s.size-BD ((i+1:Nat):Int)<s.size-BD (i:Int);omega
 ·refine Tot.must (by rw[decide_eq_true z,decide_eq_true (by omega),decide_eq_true (CD _)];rfl) (Tot.fit (Tot.ret ⟨?_,H _ (I _ _)⟩) (by omega) (by simp only[BG,BM];omega));show (u++[_]).length<=_;rw[BP,CP];omega
theorem jT (K:Nat)(s:ByteArray)(Y:s.size<=100000)(R:1048577<K):Tot (Q62.f K (s,())) λ_=>True:=by
 simp only[Q62.f,Q62.pre];have r:((s.size:Int)<=6)->Tot (Q62.l0 K (s,()) (0,0)) λ_=>True:=λX=>by
  refine Tot.iter (step:=λrec a=>Q62.s0 K (s,()) rec a) (λa=>0<=a.2/\a.2<=s.size) (λa=>s.size-a.2.toNat) ?_ K _ (by show s.size-BD 0<K;omega) ⟨by show (0:Int)<=0;omega,by show (0:Int)<=_;omega⟩;rintro rec ⟨z,i⟩ ⟨H,M⟩ J;simp only at H M J ⊢;simp only[Q62.s0];obtain⟨i,rfl⟩:=BF H;refine Tot.cnd (λh=>?_) λ_=>Tot.ret trivial
  have h:=of_decide_eq_true h;have I:((i:Nat):Int)<s.data.toList.length:=by rw[fH];exact h
  rw[ar i (by omega)];exact Tot.ix H I λy _ _=>Tot.cnd (λ_=>Tot.ret trivial) λ_=>Tot.ix H I λy _ _=>Tot.cnd (λ_=>Tot.ret trivial) λ_=>Tot.ix H I λy _ _=>J _ ⟨by show (0:Int)<=((i+1:Nat):Int);omega,by show ((i+1:Nat):Int)<=_;omega⟩ (by show s.size-BD ((i+1:Nat):Int)<s.size-BD (i:Int);omega)
 refine Tot.bind (cE K _ _ _).tot λv O=>Tot.cnd (λ_=>Tot.ret trivial) λh=>?_
 have u:=O.1 (by simpa using h);exact Tot.cnd (λh=>Tot.ix (by omega) (by rw[fH];have:=of_decide_eq_true h;omega) λy _ _=>Tot.cnd (λ_=>Tot.ret trivial) λ_=>r u.2) λ_=>r u.2
theorem uM (K:Nat)(s:ByteArray)(J:s.size<=100000)(I:1048577<K):Tot (Q63.f K (s,())) λ_=>True:=by
 simp only[Q63.f];refine Tot.cnd (λ_=>Tot.ret trivial) λh=>?_
 have h:=of_decide_eq_false h;have u:(0:Int)<s.data.toList.length:=by rw[fH];omega
 have r:Tot (bif decide ((0:Int)<=1)&&decide ((1:Int)<=(s.size:Int))&&decide ((s.size:Int)<=(s.size:Int)) then ((Q62.f K (s.extract (BD 1) (BD (s.size:Int)),())).bind λz=>bif decide (z.1.1<0) then (some (((-1),false,()),())) else (bif s.toList==(ByteArray.mk #[45,48]).toList then (some (((-1),false,()),())) else ((idx s.data.toList 0).bind λH=>bif (H.toNat:Int)==45 then (some ((wr .i64 (0-z.1.1),true,()),())) else (some ((z.1.1,true,()),()))))) else none) λ (_:(Int×Bool×Unit)×Unit)=>True :=
  Tot.must (by rw[decide_eq_true (by omega:(0:Int)<=1),decide_eq_true (by omega:(1:Int)<=s.size),decide_eq_true (CD _)];rfl) (Tot.bind (jT K _ (by rw[Cd];omega) I) λv _=>Tot.cnd (λ_=>Tot.ret trivial) λ_=>Tot.cnd (λ_=>Tot.ret trivial) λ_=>Tot.ix (by omega) u λy _ _=>Tot.cnd (λ_=>Tot.ret trivial) λ_=>Tot.ret trivial)
 exact Tot.ix (by omega) u λy _ _=>Tot.cnd (λ_=>Tot.ix (by omega) u λy _ _=>Tot.cnd (λ_=>Tot.ret trivial) λ_=>r) λ_=>r
theorem zZ (K:Nat)(s:ByteArray)(hs:s.size<=100000)(J:1048577<K):Tot (Q65.f K (s,())) λ_=>True:=by
 simp only[Q65.f,Q65.pre];have H:∀ (M:List ByteArray) (n1 n2:Int) (b:Bool),M.length=3->Tot (Q65.l0 K (s,()) (M,1,n1,n2,0,b)) λ_=>True:=λM n1 n2 b hx=>by
  refine Tot.iter (step:=λrec a=>Q65.s0 K (s,()) rec a) (λa=>a.1.length=3/\1<=a.2.1/\a.2.1<=5) (λa=>5-a.2.1.toNat) ?_ K _ (by show 5-BD 1<K;omega) ⟨hx,by show (1:Int)<=1;omega,by show (1:Int)<=5;omega⟩;rintro rec ⟨ys,i,m1,m2,m3,m4⟩ ⟨h0,h1,h2⟩ ih;simp only at h0 h1 h2 ih ⊢;simp only[Q65.s0];refine Tot.cnd (λh=>?_) λ_=>Tot.bind (oQ K _).tot λ_ _=>Tot.ret trivial
  have h:=of_decide_eq_true h;rw[aH (n:=i+1) (by omega) (by omega)];have go:∀ m:Int,Tot (rec (ys,i+1,m1,m2,m,m4)) λ_=>True:=λm=>ih _ ⟨h0,by show 1<=i+1;omega,by show i+1<=5;omega⟩ (by show 5-BD (i+1)<5-BD i;omega)
  exact Tot.bind (ta K i (by omega) h) λv _=>Tot.ix2 (by omega) (by omega) λy _ _=>Tot.cnd (λ_=>go _) λ_=>go _
 have u:∀ (z:ByteArray) (b:Bool),z.size<=s.size->Tot ((Q60.f K (z,58,())).bind λr=>bif (BB r.1.1:Int) != 3 then (some (((0,(0,(0,b))),false,()),())) else ((idx r.1.1 0).bind λ_=>(idx r.1.1 (BD 0:Nat)).bind λY=>(Q62.f K (Y,())).bind λO=>(idx r.1.1 1).bind λ_=>(idx r.1.1 (BD 1:Nat)).bind λI=>(Q62.f K (I,())).bind λR=>Q65.l0 K (s,()) (r.1.1,1,O.1.1,R.1.1,0,b))) λ_=>True:=λz b hz =>
  Tot.bind (vK K z 58 (by omega) J) λv ⟨_,Z⟩=>Tot.cnd (λ_=>Tot.ret trivial) λh=>by
   have h3:(v.1.1.length:Int)=3:=by simpa using h
   exact Tot.ix2 (by omega) (by omega) λy X _=>Tot.bind (jT K y (by have:=Z y X;omega) J) λ_ _=>Tot.ix2 (by omega) (by omega) λy X _=>Tot.bind (jT K y (by have:=Z y X;omega) J) λ_ _=>H _ _ _ _ (by omega)
 refine Tot.cnd (λh=>?_) λ_=>u s false (BR _)
 have h:=of_decide_eq_true h;rw[aH (n:=(s.size:Int)-1) (by omega) (by omega)];exact Tot.ix (by omega) (by rw[fH];omega) λy _ _=>Tot.cnd (λ_=>Tot.must (by simp only[CE,decide_eq_true_eq];omega) (u _ true (by rw[Cd];omega))) λ_=>u s false (BR _)
theorem z7 (K:Nat)(s:ByteArray)(X:s.size<=100000)(H:1048577<K):Tot (Q66.f K (s,())) λr=>r.1.1.length<=100001:=by
 simp only[Q66.f,Q66.pre];refine Tot.cnd (λ_=>Tot.ret (by show (0:Nat)<=_;omega)) λ_=>Tot.bind (vK K s 44 X H) ?_
 rintro⟨⟨xs,⟨⟩⟩,⟨⟩⟩ ⟨hl,hp⟩;dsimp only at hl hp ⊢;refine Tot.iter (step:=λrec a=>Q66.s0 K (s,()) rec a) (λa=>a.2.1=xs/\0<=a.2.2/\a.2.2<=xs.length/\(a.1.length:Int)<=a.2.2) (λa=>xs.length-a.2.2.toNat) ?_ K _ (by show xs.length-BD 0<K;omega) ⟨rfl,by show (0:Int)<=0;omega,by show (0:Int)<=_;omega,by show (0:Int)<=0;omega⟩;rintro rec ⟨u,I,i⟩ ⟨rfl,z,M,R⟩ J;simp only at z M R hl hp J ⊢;simp only[Q66.s0];obtain⟨i,rfl⟩:=BF z;refine Tot.cnd (λh=>?_) λ_=>Tot.ret (by show u.length<=_;omega)
 have h:=of_decide_eq_true h;rw[ar i (by omega)];exact Tot.ix2 z h λy O _=>Tot.bind (zZ K y (by have:=hp y O;omega) H) λv _=>Tot.cnd (λ_=>Tot.ret (by show (0:Nat)<=_;omega)) λ_=>Tot.fit (J _ ⟨rfl,by show (0:Int)<=((i+1:Nat):Int);omega,by show ((i+1:Nat):Int)<=_;omega,by show ((u++[_]).length:Int)<=((i+1:Nat):Int);rw[BP,CP];omega⟩ (by show I.length-BD ((i+1:Nat):Int)<I.length-BD (i:Int);omega)) (by omega) (by simp only[BG,BM];omega)
theorem z8 (K:Nat)(s:ByteArray)(z:s.size<=100000)(u:1048577<K):Tot (Q69.f K (s,())) λr=>r.1.1.length<=100001:=by
 simp only[Q69.f];exact Tot.bind (z7 K s z u) λv y=>Tot.cnd (λ_=>Tot.ret (by show (0:Nat)<=_;omega)) λ_=>Tot.bind (ol K _ (by omega) u) λx _=>Tot.cnd (λ_=>Tot.ret (by show (0:Nat)<=_;omega)) λ_=>Tot.ret y
theorem ma (K:Nat)(s:ByteArray)(Z:s.size<=100000)(H:1048577<K):Tot (Q76.f K (s,())) λr=>r.1.2.1=true->dJ r.1.1:=by
 simp only[Q76.f,Q76.pre];refine Tot.bind (vK K s 32 Z H) ?_;rintro⟨⟨xs,⟨⟩⟩,⟨⟩⟩ ⟨hl,hp⟩;dsimp only at hl hp ⊢;refine Tot.cnd (λ_=>Tot.ret λh=>by cases h) λ_=>Tot.cnd (λ_=>Tot.ret λh=>by cases h) λh=>?_
 have M:(xs.length:Int)=12:=by simpa using h
 have u:∀ y∈xs,y.size<=100000:=λy z=>Bx (hp y z) Z
 have I:∀ p:Int,Tot (Q76.l0 K (s,()) (xs,1,p,0)) λr=>r.1.2.1=true->dJ r.1.1:=λp=>by
  refine Tot.iter (step:=λrec a=>Q76.s0 K (s,()) rec a) (λa=>a.1=xs/\1<=a.2.1/\a.2.1<=7) (λa=>7-a.2.1.toNat) ?_ K _ (by show 7-BD 1<K;omega) ⟨rfl,by show (1:Int)<=1;omega,by show (1:Int)<=7;omega⟩;rintro rec ⟨ys,i,p,k⟩ ⟨rfl,R,h2⟩ Y;simp only at R h2 hl M u Y ⊢;simp only[Q76.s0];refine Tot.cnd (λh=>?_) λ_=>?_
  ·have h:=of_decide_eq_true h;rw[aH (n:=i+1) (by omega) (by omega)];have X:∀ m:Int,Tot (rec (ys,i+1,p,m)) λr=>r.1.2.1=true->dJ r.1.1:=λm=>Y _ ⟨rfl,by show 1<=i+1;omega,by show i+1<=7;omega⟩ (by show 7-BD (i+1)<7-BD i;omega)
   exact Tot.bind (tc K i (by omega) h) λv _=>Tot.ix2 (by omega) (by omega) λy _ _=>Tot.cnd (λ_=>X _) λ_=>X _
  ·refine Tot.ix2 (by omega) (by omega) λy z _=>Tot.bind (jT K y (u y z) H) λ_ _=>Tot.ix2 (by omega) (by omega) λy z _=>Tot.bind (jT K y (u y z) H) λ_ _=>Tot.ix2 (by omega) (by omega) λy z _=>Tot.bind (jT K y (u y z) H) λ_ _=>Tot.ix2 (by omega) (by omega) λy z _=>Tot.bind (jT K y (u y z) H) λ_ _ =>
    Tot.ix2 (by omega) (by omega) λy z _=>Tot.bind (uM K y (u y z) H) λ_ _=>Tot.ix2 (by omega) (by omega) λy z _=>Tot.bind (uM K y (u y z) H) λ_ _=>Tot.ix2 (by omega) (by omega) λy z _=>Tot.bind (z8 K y (u y z) H) λt ht=>Tot.ix2 (by omega) (by omega) λy z _=>Tot.bind (jT K y (u y z) H) λ_ _=>Tot.ix2 (by omega) (by omega) λy z _=>Tot.bind (jT K y (u y z) H) λ_ _ =>
    Tot.cnd (λ_=>Tot.ret λh=>by cases h) λ_=>Tot.cnd (λ_=>Tot.ret λh=>by cases h) λ_=>Tot.cnd (λ_=>Tot.ret λh=>by cases h) λ_=>Tot.bind (om K _ (by show t.1.1.length<=1048576;omega) H) λx ⟨_,hx⟩=>Tot.cnd (λ_=>Tot.ret λh=>by cases h) λJ=>Tot.ret λ_=>?_
   refine Classical.byContradiction λhn=>?_
   rw[hx hn]at J;have O:(ByteArray.mk #[]).toList=s.toList:=by
    have:((ByteArray.mk #[]).toList != s.toList)=false:=J;simpa using this
   rw[C0,C0]at O;have h0:=congrArg BB O;rw[fH,fH]at h0;have R:(ByteArray.mk #[]).size=0:=rfl;omega
 exact Tot.ix2 (by omega) (by omega) λy _ _=>Tot.cnd (λ_=>I 2) λ_=>I 1
def Rt (v r:Nat):Prop:=r*r<=v/\v<(r+1)*(r+1)
theorem AS (K:Nat)(v:Nat)(hv:v<1500000001*1500000001)(hK:1048577<K):∃ r,Rt v r/\Q48.f K ((v:Int),())=some (((r:Int),()),()):=by
 have H:∀ (e k l h:Nat),h-l<2 ^ e->e<k->l<=h->h<=1500000000->l*l<=v->v<(h+1)*(h+1)->∃ r,Rt v r/\ae (λrec a=>Q48.s0 K ((v:Int),()) rec a) k ((l:Int),(h:Int))=some (((r:Int),()),()):=by
  intro e;induction e with
  |zero =>
   intro k l h M hk I R y u;obtain⟨k,rfl⟩:∃ z,k=z+1:=⟨k-1,by omega⟩;have:l=h:=by omega
   subst this;refine⟨l,⟨y,u⟩,?_⟩;show Q48.s0 K _ _ _=_;simp only[Q48.s0];rw[decide_eq_false (by omega)];rfl
  |succ e X =>
   intro k l h M hk I R y u;obtain⟨k,rfl⟩:∃ z,k=z+1:=⟨k-1,by omega⟩;show ∃ r,Rt v r/\Q48.s0 K _ _ _=_;simp only[Q48.s0];by_cases hl:l<h
   ·rw[decide_eq_true (show (l:Int)<(h:Int) by omega)];have e1:wr .i64 ((l:Int)+(h:Int))=(l:Int)+h:=aH (by omega) (by omega);have e2:wr .i64 ((l:Int)+(h:Int)+1)=((l+h+1:Nat):Int):=(aH (by omega) (by omega)).trans (by omega);have e3:Cb ((l+h+1:Nat):Int) 2=(((l+h+1) / 2:Nat):Int):=by
     rw[B5 (by omega)];omega
    rw[e1,e2,e3];have hm:l<(l+h+1) / 2/\(l+h+1) / 2<=h:=by omega
    have J:h-(l+h+1) / 2<2 ^ e/\(l+h+1) / 2-1-l<2 ^ e:=by
     rw[Nat.pow_succ]at M;omega
    generalize (l+h+1) / 2=m at *;have e4:wr .i64 (m:Int)=m:=aH (by omega) (by omega);have e5:Cb (v:Int) (m:Int)=((v / m:Nat):Int):=by
     rw[B5 (by omega)];rfl
    have a0:v / m<=v:=Nat.div_le_self _ _;have O:m<=v / m<->m*m<=v:=Nat.le_div_iff_mul_le (by omega);generalize v / m=q at *;have Z:wr .i64 (q:Int)=(q:Int):=aH (by omega) (by omega);rw[e4,e5,Z,decide_eq_false (show ¬ (m:Int)=0 by omega)];simp only[cond_true,cond_false];by_cases Y:m<=q
    ·rw[decide_eq_true (by omega)];exact X k m h J.1 (by omega) (by omega) R (O.1 Y) u
    ·rw[decide_eq_false (by omega)];have a1:¬ m*m<=v:=λh4=>Y (O.2 h4)
     have e7:wr .i64 ((m:Int)-1)=((m-1:Nat):Int):=eO m (by omega) (by omega);rw[e7];exact X k l (m-1) J.2 (by omega) (by omega) (by omega) y (by rw[show m-1+1=m by omega];omega)
   ·have:l=h:=by omega
    subst this;refine⟨l,⟨y,u⟩,?_⟩;rw[decide_eq_false (by omega)];rfl
 exact H 31 K 0 1500000000 (by decide) (by omega) (by omega) (by omega) (by omega) hv
def iT (x:Int):Int:=if x< -1000000000 then -1000000000 else if x>1000000000 then 1000000000 else x
theorem qv (K:Nat)(x:Int):Q47.f K (x,())=some ((iT x,()),()):=by
 simp only[Q47.f,Q44.f,iT];by_cases h:x< -1000000000
 ·rw[decide_eq_true h,if_pos h];rfl
 ·rw[decide_eq_false h,if_neg h];by_cases r:x>1000000000
  ·rw[decide_eq_true r,if_pos r];rfl
  ·rw[decide_eq_false r,if_neg r];rfl
theorem td (x:Int):-1000000000<=iT x/\iT x<=1000000000:=by
 unfold iT;split
 ·omega
 ·split <;> omega
theorem zp {a:Int}(h:-1000000000<=a/\a<=1000000000):0<=a*a/\a*a<=1000000000000000000:=by
 have e:∃ b:Nat,b<=1000000000/\a*a=((b*b:Nat):Int):=by
  refine⟨a.natAbs,by omega,?_⟩;exact (Int.natAbs_mul_self).symm
 obtain⟨b,r,u⟩:=e;have:=Ca r r;omega
theorem xk (K:Nat)(x y:Int)(I:1048577<K):Tot (Q49.f K (x,y,())) λ_=>True:=by
 simp only[Q49.f];rw[qv K x,qv K y];simp only[BA];have M:=zp (td x);have O:=zp (td y);generalize iT x*iT x=a at *;generalize iT y*iT y=b at *;have z:wr .i64 a=a:=aH (by omega) (by omega);have J:wr .i64 b=b:=aH (by omega) (by omega);have H:wr .i64 (a+b)=(((a+b).toNat:Nat):Int):=(aH (by omega) (by omega)).trans (by omega);rw[z,J,H];obtain⟨r,_,u⟩:=AS K (a+b).toNat (by omega) I;rw[u];simp only[BA];rw[qv K r];exact⟨_,rfl,trivial⟩
theorem AT (K:Nat)(c d:dz)(r:1048577<K):Tot (Q50.f K (c,d,())) λ_=>True:=by
 simp only[Q50.f];exact Tot.bind (iC K c).tot λ_ _=>Tot.cnd (λ_=>Tot.ret trivial) λ_=>Tot.bind (iC K d).tot λ_ _=>Tot.cnd (λ_=>Tot.ret trivial) λ_=>Tot.bind (xk K _ _ r) λ_ _=>Tot.ret trivial
theorem kF (K:Nat)(n u y:Int)(h:u<=y):Tot (Q44.f K (n,u,y,())) λr=>InP r.1.1 u y:=by
 simp only[Q44.f];exact Tot.cnd (λ_=>Tot.ret ⟨CD _,h⟩) λz=>Tot.cnd (λ_=>Tot.ret ⟨h,CD _⟩) λH=>Tot.ret ⟨Int.not_lt.1 (of_decide_eq_false z),Int.not_lt.1 (of_decide_eq_false H)⟩
theorem AU (K:Nat)(c b:dz)(t s:Int)(H:cF c)(R:1048577<K):Tot (Q55.f K (c,b,t,s,())) λr=>cF r.1.1:=by
 simp only[Q55.f];refine Tot.bind (iC K c).tot λv M=>Tot.cnd (λh=>?_) λ_=>Tot.bind (iC K b).tot λv M=>Tot.cnd (λ_=>Tot.ret H) λz=>Tot.bind (cE K _ _ _).tot λv' I=>Tot.cnd (λ_=>Tot.ret H) λy=>?_
 ·rw[M.2 H]at h;cases h
 have hb:=M.1 (by simpa using z);have Z:=I.1 (by simpa using y);obtain⟨_,_,_,⟨c1,c2⟩⟩:=H;obtain⟨_,_,_,⟨b1,b2⟩⟩:=hb;obtain⟨t1,t2⟩:=Z;have Y:¬ wr .i64 (c.2.2.2+b.2.2.2)=0:=by rw[aH (by omega) (by omega)];omega
 have u:∀ w:Int,Tot (Q54.f K (c,b,w,t,())) λr=>InP r.1.1 1 1500:=λw=>by
  simp only[Q54.f,Q53.f];refine Tot.bind (P:=λ_=>True) (Tot.cnd (λ_=>Tot.ret trivial) λ_=>Tot.ret trivial) λ_ _=>Tot.not (decide_eq_false (show ¬ t=0 by omega)) (Tot.bind (kF K _ _ _ (by omega)) λ_ _=>Tot.not (decide_eq_false Y) (Tot.bind (kF K _ _ _ (by omega)) λ_ h=>Tot.ret h))
 refine Tot.bind (AT K c b R) λ_ _=>?_
 simp only[Q51.f];refine Tot.bind (P:=λ_=>True) (Tot.not (decide_eq_false Y) (Tot.ret trivial)) λ_ _=>Tot.bind (xk K _ _ R) λn _=>Tot.cnd (λ_=>?_) λh=>?_
 ·simp only[Q52.f];refine Tot.bind (P:=λ_=>True) (Tot.cnd (λ_=>Tot.ret trivial) λ_=>Tot.cnd (λ_=>Tot.ret trivial) λ_=>Tot.cnd (λ_=>Tot.ret trivial) λ_=>Tot.ret trivial) λ_ _=>Tot.cnd (λ_=>?_) λ_=>?_ <;>
  exact Tot.bind (kF K _ _ _ (by omega)) λ_ J=>Tot.bind (kF K _ _ _ (by omega)) λ_ z=>Tot.bind (kF K _ _ _ (by omega)) λ_ y=>Tot.bind (u _) λ_ O=>Tot.ret ⟨J,z,y,O⟩
 ·have X:¬ n.1.1=0:=by simpa using h
  refine Tot.cnd (λ_=>?_) λ_=>?_ <;>
  exact Tot.not (decide_eq_false X) (Tot.bind (kF K _ _ _ (by omega)) λ_ J=>Tot.not (decide_eq_false X) (Tot.bind (kF K _ _ _ (by omega)) λ_ z=>Tot.bind (kF K _ _ _ (by omega)) λ_ y=>Tot.bind (u _) λ_ O=>Tot.ret ⟨J,z,y,O⟩))
noncomputable def pR (K:Nat)(c b:dz)(t s:Int):dz:=((Q55.f K (c,b,t,s,())).getD (((0,0,0,0),()),())).1.1
noncomputable def r8 (K:Nat)(l:List Int):Int:=((Q56.f K (l,())).getD ((0,()),())).1.1
theorem xm (K:Nat)(c b:dz)(t s:Int)(u:cF c)(r:1048577<K):Q55.f K (c,b,t,s,())=some ((pR K c b t s,()),())/\cF (pR K c b t s):=by
 obtain⟨⟨⟨v,⟨⟩⟩,⟨⟩⟩,e,h⟩:=AU K c b t s u r;unfold pR;rw[e];exact⟨rfl,h⟩
theorem med_t (K:Nat)(l:List Int)(hl:l.length<=100)(hK:1048577<K):Tot (Q56.f K (l,())) λ_=>True:=by
 simp only[Q56.f,Q56.pre];have H:∀ I:List Int,I.length<=100->Tot (Q56.l0 K (l,()) (I,[],0)) λ_=>True:=λI hx=>by
  refine Tot.iter (step:=λrec a=>Q56.s0 K (l,()) (Q56.l1 K (l,()) rec) rec a) (λa=>a.1=I/\0<=a.2.2/\a.2.2<=I.length/\(a.2.1.length:Int)=a.2.2) (λa=>I.length-a.2.2.toNat) ?_ K _ (by show I.length-BD 0<K;omega) ⟨rfl,by show (0:Int)<=0;omega,by show (0:Int)<=_;omega,rfl⟩;rintro rec ⟨ys,u,i⟩ ⟨rfl,X,h1,h2⟩ ih;simp only at X h1 h2 hx ih ⊢;simp only[Q56.s0];obtain⟨i,rfl⟩:=BF X;refine Tot.cnd (λh=>?_) λ_=>Tot.cnd (λ_=>Tot.ret trivial) λh=>?_
  ·have J:=of_decide_eq_true h;clear h;refine Tot.iter (step:=λz a=>Q56.s1 K (l,()) rec z a) (λa=>a.1=ys/\a.2.1=u/\a.2.2.1=i/\0<=a.2.2.2/\a.2.2.2<=u.length) (λa=>u.length-a.2.2.2.toNat) ?_ K _ (by show u.length-BD 0<K;omega) ⟨rfl,rfl,rfl,by show (0:Int)<=0;omega,by show (0:Int)<=_;omega⟩;rintro z ⟨R,r,j,k⟩ ⟨rfl,rfl,e,k0,k1⟩ O;simp only at e k0 k1 J h1 h2 hx O ih ⊢;subst e;simp only[Q56.s1];obtain⟨k,rfl⟩:=BF k0;have Z:∀ y:Int,Tot (rec (R,(([]++((r.take (BD (k:Int))).drop (BD 0)))++([y]))++((r.take (BD (BB r:Int))).drop (BD (k:Int))),wr .i64 ((i:Int)+1))) λ_=>True:=λy=>by
    rw[ar i (by omega)];refine ih _ ⟨rfl,by show (0:Int)<=((i+1:Nat):Int);omega,by show ((i+1:Nat):Int)<=_;omega,?_⟩ (by show R.length-BD ((i+1:Nat):Int)<R.length-BD (i:Int);omega);simp only[BE,CR,Bu,BO,BP,BW,B3,BG,BM];omega
   have M:Tot (bif decide (0<=0)&&decide ((0:Int)<=(k:Int))&&decide ((k:Int)<=(BB r:Int))&&true then (bif decide ((BB ([]:List (Ty.den (.int .i64)))+BB ((r.take (BD (k:Int))).drop (BD 0)))*8<=an) then ((idx R (i:Int)).bind λY=>bif decide ((BB ([]++((r.take (BD (k:Int))).drop (BD 0)))+BB ([Y]))*8<=an) then (bif decide ((0:Int)<=(k:Int))&&decide ((k:Int)<=(BB r:Int))&&decide ((BB r:Int)<=(BB r:Int))&&true then (bif decide ((BB (([]++((r.take (BD (k:Int))).drop (BD 0)))++([Y]))+BB ((r.take (BD (BB r:Int))).drop (BD (k:Int))))*8<=an) then (rec (R,(([]++((r.take (BD (k:Int))).drop (BD 0)))++([Y]))++((r.take (BD (BB r:Int))).drop (BD (k:Int))),wr .i64 ((i:Int)+1))) else none) else none) else none) else none) else none) λ_=>True:=by
    refine Tot.must (by simp only[CE,decide_eq_true_eq,Ci];omega) (Tot.fit (Tot.ix X J λy _ _=>Tot.fit (Tot.must (by simp only[CE,decide_eq_true_eq,Ci];omega) (Tot.fit (Z y) (by omega) ?_)) (by omega) ?_) (by omega) ?_) <;>
    simp only[BE,CR,Bu,BO,BP,BW,B3,BG,BM] <;> omega
   refine Tot.cnd (λh4=>?_) λ_=>M
   have h4:=of_decide_eq_true h4;refine Tot.ix k0 h4 λy1 _ _=>Tot.ix X J λy2 _ _=>Tot.cnd (λ_=>?_) λ_=>M
   rw[ar k (by omega)];exact O _ ⟨rfl,rfl,rfl,by show (0:Int)<=((k+1:Nat):Int);omega,by show ((k+1:Nat):Int)<=_;omega⟩ (by show r.length-BD ((k+1:Nat):Int)<r.length-BD (k:Int);omega)
  ·have h:¬ (u.length:Int)=0:=by simpa using h
   rw[aH (n:=(u.length:Int)-1) (by omega) (by omega)];have e:Cb ((u.length:Int)-1) 2=((u.length:Int)-1) / 2:=by rw[B5 (by omega)]
   rw[e,aH (by omega) (by omega)];exact Tot.ix (by omega) (by omega) λy _ _=>Tot.ret trivial
 refine Tot.cnd (λh=>?_) λ_=>H l hl
 have h:=of_decide_eq_true h;rw[aH (n:=(l.length:Int)-3) (by omega) (by omega)];exact Tot.must (by simp only[CE,decide_eq_true_eq,Ci];omega) (H _ (by simp only[B3,BW];omega))
theorem med_s (K:Nat)(l:List Int)(u:l.length<=100)(r:1048577<K):Q56.f K (l,())=some ((r8 K l,()),()):=by
 obtain⟨⟨⟨v,⟨⟩⟩,⟨⟩⟩,e,_⟩:=med_t K l u r;unfold r8;rw[e];rfl
theorem q9 {α A R:Type}(k:α->Int)(x:α)(t:List α)(hA:Asc k t)(S0 S1:List α->Nat->A)(I:List α->Option R){step:(A->Option R)->A->Option R}
  (h0:∀ (rec:A->Option R) (r:List α) (i:Nat) (M:i<t.length),r.length=i->(∀ y∈t.take i,k y<k x)->step rec (S0 r i)=if k t[i]<k x then rec (S0 (r++[t[i]]) (i+1)) else if k t[i]=k x then rec (S1 (r++[x]) (i+1)) else rec (S1 (r++[x]++[t[i]]) (i+1)))
  (h1:∀ (rec:A->Option R) (r:List α) (i:Nat) (M:i<t.length),r.length<=i+1->k x<k t[i]->step rec (S1 r i)=rec (S1 (r++[t[i]]) (i+1)))
  (e0:∀ (rec:A->Option R) (r:List α),r.length=t.length->(∀ y∈t,k y<k x)->step rec (S0 r t.length)=I (r++[x]))
  (e1:∀ (rec:A->Option R) (r:List α),r.length<=t.length+1->step rec (S1 r t.length)=I r) {K:Nat} (Y:t.length<K):ae step K (S0 [] 0)=I (bu k x t):=by
 have r1:∀ (n i K:Nat) (r:List α),i+n=t.length->n<K->r.length<=i+1->(∀ y∈t.drop i,k x<k y)->ae step K (S1 r i)=I (r++t.drop i):=by
  intro n;induction n with
  |zero =>
   intro i K r M Y O _;obtain⟨K,rfl⟩:∃ X,K=X+1:=⟨K-1,by omega⟩;have:i=t.length:=by omega
   subst this;show step (ae step K) _=_;rw[e1 _ _ O,Cg,BN]
  |succ n ih =>
   intro i K r M Y O hg;obtain⟨K,rfl⟩:∃ X,K=X+1:=⟨K-1,by omega⟩;have u:i<t.length:=by omega
   rw[BL u]at hg;show step (ae step K) _=_;rw[h1 _ _ _ u O (hg _ (.head _)),ih (i+1) K _ (by omega) (by omega) (by simp;omega) (λy z=>hg y (.tail _ z)),BL u];simp
 have H:∀ i (M:i<t.length),∀ y∈t.drop (i+1),k t[i]<k y:=λi M y z=>by
  have:=List.Pairwise.drop (i:=i) hA;rw[BL M]at this;exact (BQ.1 this).1 y z
 have r0:∀ (n i K:Nat) (r:List α),i+n=t.length->n<K->r=t.take i->(∀ y∈t.take i,k y<k x)->ae step K (S0 r i)=I (bu k x t):=by
  intro n;induction n with
  |zero =>
   intro i K r M Y O J;obtain⟨K,rfl⟩:∃ X,K=X+1:=⟨K-1,by omega⟩;have:i=t.length:=by omega
   subst this;rw[CL]at O J;subst O;show step (ae step K) _=_;rw[e0 _ _ rfl J];unfold bu;rw[BT.2 (by simpa using J),BY.2 (λy z=>by have:=J y z;simp;omega)]
  |succ n ih =>
   intro i K r M Y O J;obtain⟨K,rfl⟩:∃ X,K=X+1:=⟨K-1,by omega⟩;have u:i<t.length:=by omega
   subst O;have a0:(t.take i).length=i:=by rw[BW];omega
   show step (ae step K) _=_;rw[h0 _ _ _ u a0 J];have Z:k x<=k t[i]->bu k x t=t.take i++x::(t.drop i).filter (λy=>decide (k x<k y)):=λhc=>by
    unfold bu;conv=>lhs;rw[<- Ce i t]
    rw[B7,B7,BT.2 (by simpa using J),(BY (l:=t.take i)).2 (λy z=>by have:=J y z;simp;omega),BO];rw[BL u,BV,if_neg (by simp;omega),BY.2 (λy z=>by have:=H i u y z;simp;omega),BN]
   by_cases hc:k t[i]<k x
   ·rw[if_pos hc];refine ih (i+1) K _ (by omega) (by omega) (by rw[C7,BK u];rfl) λy z=>?_
    rw[C7,BK u]at z;rcases B6.1 z with z|z
    ·exact J y z
    ·simp at z;rw[z];exact hc
   ·rw[if_neg hc,Z (by omega),BL u];by_cases he:k t[i]=k x
    ·rw[if_pos he,r1 n (i+1) K _ (by omega) (by omega) (by simp;omega) (λy z=>by have:=H i u y z;omega),BV,if_neg (by simp;omega),BT.2 (λy z=>by have:=H i u y z;simp;omega)];simp
    ·rw[if_neg he,r1 n (i+1) K _ (by omega) (by omega) (by simp;omega) (λy z=>by have:=H i u y z;omega),BV,if_pos (by simp;omega),BT.2 (λy z=>by have:=H i u y z;simp;omega)];simp
 exact r0 t.length 0 K [] (by omega) Y rfl (by simp)
theorem xn {t:List af}{f:af}(h:∀ g∈t,g.1<f.1):(bN t f).1=t++[f]:=by
 rw[gu (λg u e=>by have:=h g u;omega)];unfold bu;rw[BT.2 (by simpa using h),BY.2 (λy r=>by have:=h y r;simp;omega)]
theorem pS:∀ {fs t:List af},Asc (λf:af=>f.1) fs->(∀ g∈t,∀ f∈fs,g.1<f.1)->eX t fs=t++fs
 |[],t,_,_=>by simp[eX]
 |f::fs,t,y,h=>by
  show eX (bN t f).1 fs=_;rw[xn (λg r=>h g r f (by simp)),pS (BQ.1 y).2 ?_]
  ·simp
  ·intro g r e u;rcases B6.1 r with r|r
   ·exact h g r e (by simp[u])
   ·rw[Bz.1 r];exact (BQ.1 y).1 e u
theorem vL {fs:List af}(h:az fs):eX [] fs=fs:=by
 rw[pS h.2 (by simp)];rfl
theorem z9 (K:Nat)(a b:List af)(r:az a)(u:az b)(y:1048577<K):Q35.f K (a,b,())=some ((eX a b,()),()):=by
 simp only[Q35.f,Q35.pre];obtain⟨X,I,H⟩:=gm K a (bX r) y;obtain⟨R,J,O⟩:=gm K b (bX u) y;have:=bX r;have:=bX u;rw[I,J,H.2 r,O.2 u];simp only[BA,BI,cond_false];rw[szb _ _ _ (by omega) (by show (BB ([]:List af))+a.length<=_;simp;omega)];simp only[cond_true,BO];refine oh a b r u.1 (step:=λrec x=>Q35.s0 K (a,b,()) rec x) (λt=>some ((t,()),())) ?_ ?_ (by omega)
 ·intro rec t i M z;simp only[Q35.s0];rw[bk (by omega:(i:Int)<(BB b:Int)),ag M,ar i (by omega)];simp only[cond_true,BA];rw[vD K t _ (bX z) z.2 y];rfl
 ·intro rec t;simp only[Q35.s0,aQ];rfl
theorem o6 {r:Int}{l:List bZ}(h:c8 r l)(s:Int):az (eF l s):=by
 rcases qR (l:=l) (s:=s) with e|⟨x,u,_,e⟩ <;> rw[e]
 ·exact⟨by simp,List.Pairwise.nil⟩
 ·exact (h.1 x u).2.2.2.1
theorem olen {u:Int}{l:List bZ}(h:c8 u l):l.length<=1048576:=Bx (iP h.2 λx r=>⟨(h.1 x r).1.1,Cc (h.1 x r).1.2 (by decide)⟩) (by decide)
theorem xo (K:Nat)(n:aa)(s:Int)(t:List af)(h:c8 n.1 (aa.others n))(r:az t)(y:1048577<K):Q36.f K (n,s,t,())=some ((eX (eF (aa.others n) s) t,()),()):=by
 have z:=olen h;refine pE (step:=λrec a=>Q36.s0 K (n,s,t,()) rec a) (aa.others n) s (λl=>some ((eX l t,()),())) ?_ ?_ (aa.others n).length 0 K (by omega) (by omega)
 ·intro rec i u;simp only[Q36.s0];rw[bk (by omega:(i:Int)<(BB (aa.others n):Int)),ag u,ar i (by omega)];simp only[cond_true,BA];cases (aa.others n)[i].1==s with
  |false=>rfl
  |true=>exact (congrArg (λo=>BS o _) (z9 K _ t (h.1 _ (BC u)).2.2.2.1 r y)).trans rfl
 ·intro rec;simp only[Q36.s0,aQ,cond_false];rw[vL r];refine (congrArg (λb=>bif b then _ else _) (szb (BB ([]:List af)) t.length 32 (by omega) ?_)).trans rfl;have:=bX r;simp;omega
theorem sum_s (K:Nat)(n:aa)(s:Int)(t:List af)(h:c8 n.1 (aa.others n))(R:1048577<K):Q37.f K (n,s,t,())=some ((mU n (bu (λx:bZ=>x.1) (s,t) (aa.others n)),()),()):=by
 have X:=olen h;refine q9 (step:=λrec a=>Q37.s0 K (n,s,t,()) rec a) (λx:bZ=>x.1) (s,t) (aa.others n) h.2 (λr i=>(r,false,(i:Int))) (λr i=>(r,true,(i:Int))) (λo=>some ((mU n o,()),())) ?_ ?_ ?_ ?_ (by omega)
 ·intro rec r i H I _;simp only[Q37.s0,zcp4,zcp8];rw[bk (by omega:(i:Int)<(BB (aa.others n):Int)),ag H,ar i (by omega)];simp only[cond_true,BA,Bv];have z:=szb r.length 1 32 (by omega) (by omega);have M:=szb (r++[(s,t)]).length 1 32 (by omega) (by simp;omega);generalize (aa.others n)[i]=y at *;by_cases J:y.1<s
  ·rw[if_pos J,show decide (y.1>=s)=false from decide_eq_false (by omega),show (y.1 != s)=true by simp;omega];exact (congrArg (λb=>bif b then _ else _) z).trans rfl
  ·rw[if_neg J,show decide (y.1>=s)=true from decide_eq_true (by omega)];refine (congrArg (λb=>bif b then _ else _) z).trans ?_;by_cases u:y.1=s
   ·rw[if_pos u,show (y.1 != s)=false by simpa using u];rfl
   ·rw[if_neg u,show (y.1 != s)=true by simpa using u];exact (congrArg (λb=>bif b then _ else _) M).trans rfl
 ·intro rec r i H I O;simp only[Q37.s0,zcp4,zcp8];rw[bk (by omega:(i:Int)<(BB (aa.others n):Int)),ag H,ar i (by omega)];simp only[cond_true,BA,BI,cond_false];have z:=szb r.length 1 32 (by omega) (by omega);rw[show ((aa.others n)[i].1 != s)=true by simp;have:s<_:=O;omega];exact (congrArg (λb=>bif b then _ else _) z).trans rfl
 ·intro rec r I _;simp only[Q37.s0,zcp4,zcp8,aQ,cond_false,Bv,cond_true];exact (congrArg (λb=>bif b then _ else _) (szb r.length 1 32 (by omega) (by omega))).trans rfl
 ·intro rec r I;simp only[Q37.s0,zcp4,zcp8,aQ,cond_false,BI];rfl
theorem yI (K:Nat)(a b:List af)(Z:a.length<=1048576)(X:1048577<K):Q38.f K (a,b,())=rb (decide (a≠b)):=by
 simp only[Q38.f,Q38.pre];by_cases H:a.length=b.length
 ·rw[show ((BB a:Int) != (BB b:Int))=false by simp;omega];have:=co (step:=λrec x=>Q38.s0 K (a,b,()) rec x) a.length (λi=>(i:Int)) (λj=>∃ (h:j<a.length) (Y:j<b.length),a[j]≠b[j]) (rb false) (λ_=>rb true) ?_ ?_ a.length K 0 (by omega) (by omega)
  ·rcases this with ⟨I,z⟩|⟨j,_,I,⟨y,J,R⟩,_,z⟩
   ·refine (z:Q38.l0 K (a,b,()) 0=_).trans ?_;rw[decide_eq_false];rintro u;exact u (CV H λi y J=>CQ.1 λO=>I i (BX _) y ⟨y,J,O⟩)
   ·refine (z:Q38.l0 K (a,b,()) 0=_).trans ?_;rw[decide_eq_true];rintro rfl;exact R rfl
  ·intro rec i M;simp only[Q38.s0];rw[bk (by omega:(i:Int)<(BB a:Int)),ag M,ar i (by omega),ag (show i<b.length by omega)];simp only[cond_true,BA];rw[show Ty.eqv t2 a[i] (b[i]'(by omega))=decide (a[i]=b[i]'(by omega)) from gq _ _];by_cases r:a[i]=b[i]'(by omega)
   ·exact .inl ⟨λ⟨_,_,h⟩=>h r,by rw[decide_eq_true r];rfl⟩
   ·exact .inr ⟨⟨M,by omega,r⟩,by rw[decide_eq_false r];rfl⟩
  ·intro rec;simp only[Q38.s0,aQ];rfl
 ·rw[show ((BB a:Int) != (BB b:Int))=true by simp;omega,decide_eq_true (show a≠b from λe=>H (by rw[e]))];rfl
end Go.Proofs.YtadlacffdemoiaaGreatEv
