/- The marks that a law writes into what was answered, and the look whether they still stand. -/
import Derived.Test.YtaegajachoklkaaGreatP1
import Derived.Test.YtaegajachoklkaaGreatE0
import Derived.Laws.Strings
set_option linter.unusedVariables false
set_option linter.unusedSimpArgs false
open Bool renaming not_true->BC,not_false->BV,and_eq_true->Bc,true_and->Bi,false_and->Bv,and_self->Bz,eq_iff_iff->B9,false_or->CG,and_true->CH,true_or->CK,not_eq_true'->Ca,not_eq_true->Cg,and_false->Ck,or_true->Cm
open ByteArray renaming size_extract->B6
open Classical renaming not_not->Bg
open Eq renaming trans->CY
open Go.ByteArray renaming toList_eq->CR
open Go.IntKind renaming wrap_i64->Cd
open Int renaming toNat->AV,eq_ofNat_of_zero_le->AX,toNat_natCast->AY,le_refl->BT,tdiv_eq_ediv_of_nonneg->Ba,fdiv->Bf,tmod->Bx,toNat_zero->B3,tdiv->B4,le_trans->B5,le_of_lt->CB,tmod_eq_emod_of_nonneg->CD,tmod_lt_of_pos->CV,tdiv_le_self->Ce,tmod_nonneg->Ci,tdiv_nonneg->Cj
open List renaming length->AU,getElem_mem->AW,length_cons->AZ,mem_filter->BA,drop_eq_getElem_cons->BD,append_nil->BE,getElem?_eq_getElem->BF,length_append->BG,getElem_of_mem->BH,length_nil->BI,nil_append->BJ,pairwise_cons->BK,filter_eq_self->BL,filter_eq_nil_iff->BM,mem_singleton->BN,filter_cons->BO,mem_map->BQ,drop_zero->BR,length_take->BS,eq_nil_of_length_eq_zero->BU,length_map->BW,length_drop->BX,pairwise_map->BY,filter_append->Bb,reverse_reverse->Be,mem_append->Bh,take_length->Bj,mem_of_find?_eq_some->Bk,append_assoc->Bl,pairwise_append->Bm,take_succ_eq_append_getElem->Bn,mem_cons->Bo,take_of_length_le->Bp,take_append_drop->Br,getElem?_eq_none->Bs,length_singleton->Bt,reverse_cons->Bu,pairwise_iff_getElem->By,length_filter_le->B7,drop_length->B8,length_pos_iff->CA,mem_take_iff_getElem->CE,getElem_take->CF,pairwise_singleton->CI,ext_getElem->CJ,find?_cons->CL,find?_some->CM,map_append->CN,length_take_le->CO,length_reverse->CP,flatMap_append->CQ,map_cons->CS,find?_eq_none->CT,mem_cons_self->CU,ne_nil_of_mem->CW,getElem_drop->CX,take_add_one->CZ,perm_middle->Cb,flatMap_nil->Cf,length_set->Ch,mem_range->Cl
open List.Pairwise renaming filter->Bw
open Nat renaming le_refl->BP,le_trans->BZ,zero_le->Bd,lt_or_eq_of_le->Bq,mul_le_mul->CC
open Option renaming bind_some->AT,bind->BB,getD_some->Cc
namespace Go.Proofs.YtaegajachoklkaaGreatEv
open Go
theorem kJ {α β R:Type}(t:List α)(p:α->Bool)(g:α->β)(n:Nat)(y:List β->Option R){step:(List β×Int->Option R)->List β×Int->Option R}
  (h:∀ (rec:List β×Int->Option R) (r:List β) (i:Nat) (M:i<t.length),r.length<=i->r.length<n->step rec (r,(i:Int))=rec (bif p t[i] then r++[g t[i]] else r,((i+1:Nat):Int)))
  (X:∀ (rec:List β×Int->Option R) (r:List β) (i:Nat),i<t.length->r.length<=i->n<=r.length->step rec (r,(i:Int))=y r)
  (z:∀ (rec:List β×Int->Option R) (r:List β),r.length<=t.length->step rec (r,(t.length:Int))=y r) :
  ∀ (d i k:Nat) (r:List β),i+d=t.length->d<k->r.length<=i->r.length<=n->ae step k (r,(i:Int))=y (r++(((t.drop i).filter p).map g).take (n-r.length)):=by
 intro d;induction d with
 |zero =>
  intro i k r M Z H _;obtain⟨k,rfl⟩:∃ I,k=I+1:=⟨k-1,by omega⟩;have:i=t.length:=by omega
  subst this;show step (ae step k) _=_;rw[z _ _ H];simp
 |succ d J =>
  intro i k r M Z H O;obtain⟨k,rfl⟩:∃ I,k=I+1:=⟨k-1,by omega⟩;have u:i<t.length:=by omega
  show step (ae step k) _=_;by_cases Y:r.length<n
  ·rw[h _ _ _ u H Y,BD u,BO];cases hp:p t[i] with
   |true =>
    simp only[cond_true,if_true,CS];rw[J (i+1) k _ (by omega) (by omega) (by simp;omega) (by simp;omega)];congr 1;obtain⟨m,hm⟩:∃ m,n-r.length=m+1:=⟨n-r.length-1,by omega⟩;rw[hm,List.take_succ_cons,Bl];simp only[BG,AZ,BI];rw[show n-(r.length+(0+1))=m by omega];rfl
   |false =>
    simp only[cond_false];rw[J (i+1) k _ (by omega) (by omega) (by omega) (by omega)];rfl
  ·rw[X _ _ _ u H (by omega)];rw[show n-r.length=0 by omega];simp
theorem u3 {α β R:Type}(t:List α)(p:α->Bool)(g:α->β)(u:List β->Option R){step:(List β×Int->Option R)->List β×Int->Option R}
  (h:∀ (rec:List β×Int->Option R) (r:List β) (i:Nat) (z:i<t.length),r.length<=i->step rec (r,(i:Int))=rec (bif p t[i] then r++[g t[i]] else r,((i+1:Nat):Int)))
  (y:∀ (rec:List β×Int->Option R) (r:List β),r.length<=t.length->step rec (r,(t.length:Int))=u r) {k:Nat} (I:t.length<k) :
  ae step k ([],0)=u ((t.filter p).map g):=by
 have:=kJ t p g (t.length+1) u (λrec r i z H _=>h rec r i z H) (λrec r i z H J=>by omega) y t.length 0 k [] (by omega) I (BP _) (by simp);refine this.trans ?_;congr 1;simp only[BJ,BI,BR];exact Bp (by have:=B7 p t;simp;omega)
theorem iK {e:Ty}{b:Nat}{xs:List e.den}(h:xs.length*b<=140737488355328):eD e b xs=some ((xs,()),()):=by
 unfold eD;rw[decide_eq_true (by simpa[ak]using h)];rfl
theorem pb {α β:Type}{xs r:List α}{b:Nat}{x y:β}(h:(xs.length+r.length)*b<=140737488355328):(bif decide ((AU xs+AU r)*b<=ak) then x else y)=x:=by
 rw[decide_eq_true (by simpa[ak]using h)];rfl
def my (f:af):Bool:=f.2.2.2&&f.2.2.1==1
def fp (t:List af):List Int:=((t.filter my).map (·.1)).take 2
theorem uk (K:Nat)(t:List af)(J:t.length<=1048576)(I:1048577<K):Q94.f K (t,2,())=some ((fp t,()),()):=by
 have:=kJ (step:=λrec a=>Q94.s0 K (t,2,()) rec a) t my (λf=>f.1) 2 (λH=>some ((H,()),())) ?_ ?_ ?_ t.length 0 K [] (by omega) (by omega) (BP _) (by simp)
 ·exact this
 ·intro rec r i u y z;simp only[Q94.s0];rw[bO (by omega:(i:Int)<(AU t:Int)),ai u,au i (by omega),decide_eq_true (by omega:(AU r:Int)<2)];simp only[cond_true,AT,my];cases t[i].2.2.2 with
  |true =>
   simp only[cond_true,Bi];cases t[i].2.2.1==1 with
   |true=>simp only[cond_true];rw[pb (by simp;omega)]
   |false=>rfl
  |false=>rfl
 ·intro rec r i u y z;simp only[Q94.s0];rw[bO (by omega:(i:Int)<(AU t:Int)),decide_eq_false (by omega:¬ (AU r:Int)<2)];rfl
 ·intro rec r _;simp only[Q94.s0,bf];rfl
theorem wu (t:List af):(fp t).length<=2:=by
 unfold fp;exact CO _ _
def eP (l:List cj)(s:Int):List af:=((l.find? λx=>x.1==s).map (·.2)).getD []
theorem u5 {R:Type}(l:List cj)(s:Int)(r:List af->Option R){step:(Int->Option R)->Int->Option R}
  (h:∀ (rec:Int->Option R) (i:Nat) (H:i<l.length),step rec (i:Int)=bif l[i].1==s then r l[i].2 else rec ((i+1:Nat):Int))
  (y:∀ rec:Int->Option R,step rec (l.length:Int)=r []) :
  ∀ (d i k:Nat),i+d=l.length->d<k->ae step k (i:Int)=r (eP (l.drop i) s):=by
 intro d;induction d with
 |zero =>
  intro i k H J;obtain⟨k,rfl⟩:∃ z,k=z+1:=⟨k-1,by omega⟩;have:i=l.length:=by omega
  subst this;show step (ae step k) _=_;rw[y];simp[eP]
 |succ d I =>
  intro i k H J;obtain⟨k,rfl⟩:∃ z,k=z+1:=⟨k-1,by omega⟩;have u:i<l.length:=by omega
  show step (ae step k) _=_;rw[h _ _ u,BD u];simp only[eP,CL];cases l[i].1==s with
  |true=>rfl
  |false=>exact I (i+1) k (by omega) (by omega)
theorem qD {l:List cj}{s:Int}:eP l s=[]\/∃ x∈l,x.1=s/\eP l s=x.2:=by
 unfold eP;cases h:l.find? λx=>x.1==s with
 |none=>exact .inl rfl
 |some x=>exact .inr ⟨x,Bk h,by simpa using CM h,rfl⟩
def bM {α:Type}(k:α->Int)(x:α)(xs:List α):List α:=xs.filter (λy=>decide (k y<k x))++x::xs.filter (λy=>decide (k x<k y))
theorem qE {α:Type}{k:α->Int}{xs:List α}{v:Int}{m:Nat}(J:m<=xs.length)(I:∀ i,(z:i<xs.length)->i<m->k xs[i]<v)(z:∀ i,(h:i<xs.length)->m<=i->v<=k xs[i]):xs.filter (λy=>decide (k y<v))=xs.take m:=by
 conv=>lhs;rw[<- Br m xs]
 rw[Bb];have r:(xs.take m).filter (λy=>decide (k y<v))=xs.take m:=by
  rw[BL];intro y u;obtain⟨i,r,rfl⟩:=BH u;rw[BS]at r;rw[CF];exact decide_eq_true (I i (by omega) (by omega))
 have H:(xs.drop m).filter (λy=>decide (k y<v))=[]:=by
  rw[BM];intro y u;obtain⟨i,r,rfl⟩:=BH u;rw[BX]at r;rw[CX];have:=z (m+i) (by omega) (by omega);simp only[decide_eq_true_eq];omega
 rw[r,H,BE]
theorem qF {α:Type}{k:α->Int}{xs:List α}{v:Int}{m:Nat}(J:m<=xs.length)(I:∀ i,(z:i<xs.length)->i<m->k xs[i]<=v)(z:∀ i,(h:i<xs.length)->m<=i->v<k xs[i]):xs.filter (λy=>decide (v<k y))=xs.drop m:=by
 conv=>lhs;rw[<- Br m xs]
 rw[Bb];have r:(xs.take m).filter (λy=>decide (v<k y))=[]:=by
  rw[BM];intro y u;obtain⟨i,r,rfl⟩:=BH u;rw[BS]at r;rw[CF];have:=I i (by omega) (by omega);simp only[decide_eq_true_eq];omega
 have H:(xs.drop m).filter (λy=>decide (v<k y))=xs.drop m:=by
  rw[BL];intro y u;obtain⟨i,r,rfl⟩:=BH u;rw[BX]at r;rw[CX];exact decide_eq_true (z (m+i) (by omega) (by omega))
 rw[r,H,BJ]
theorem oC {α:Type}{k:α->Int}{xs:List α}{x:α}{m:Nat}(h:Asc k xs)(H:m<xs.length)(e:k xs[m]=k x):xs.set m x=bM k x xs:=by
 have M:=eA.1 h;have I:∀ i,(r:i<xs.length)->i<m->k xs[i]<k x:=λi r y=>by rw[<- e];exact M i m r H y
 have J:∀ i,(r:i<xs.length)->m<i->k x<k xs[i]:=λi r y=>by rw[<- e];exact M m i H r y
 rw[bM,qE (m:=m) (by omega) I (λi r u=>by
   rcases Bq u with z|z
   ·exact CB (J i r z)
   ·subst z;omega),
  qF (m:=m+1) (by omega) (λi r u=>by
   rcases Bq (Nat.le_of_lt_succ u) with z|z
   ·exact CB (I i r z)
   ·subst z;omega) (λi r u=>J i r u),
  List.set_eq_take_append_cons_drop,if_pos H]
theorem oD {α:Type}{k:α->Int}{xs:List α}{x:α}{m:Nat}(H:m<=xs.length)(z:∀ i,(u:i<xs.length)->i<m->k xs[i]<k x)(u:∀ i,(h:i<xs.length)->m<=i->k x<k xs[i]):xs.take m++[x]++xs.drop m=bM k x xs:=by
 rw[bM,qE H z (λi y r=>CB (u i y r)),qF H (λi y r=>CB (z i y r)) u,Bl];rfl
theorem aW {α:Type}{k:α->Int}{xs:List α}{x y:α}:y∈bM k x xs<->y=x\/(y∈xs/\k y≠k x):=by
 simp only[bM,Bh,Bo,BA,decide_eq_true_eq];constructor
 ·rintro (⟨r,z⟩|rfl|⟨r,z⟩)
  ·exact .inr ⟨r,by omega⟩
  ·exact .inl rfl
  ·exact .inr ⟨r,by omega⟩
 ·rintro (rfl|⟨r,z⟩)
  ·exact .inr (.inl rfl)
  ·rcases Int.lt_or_gt_of_ne z with u|u
   ·exact .inl ⟨r,u⟩
   ·exact .inr (.inr ⟨r,u⟩)
theorem eN {α:Type}{k:α->Int}{xs:List α}{x:α}(h:Asc k xs):Asc k (bM k x xs):=by
 unfold Asc bM;rw[Bm,BK];refine⟨h.filter _,⟨λy u=>?_,h.filter _⟩,λy u z r=>?_⟩
 ·simpa using (BA.1 u).2
 ·have H:k y<k x:=by simpa using (BA.1 u).2
  rcases Bo.1 r with rfl|r
  ·exact H
  ·have I:k x<k z:=by simpa using (BA.1 r).2
   omega
theorem xS {α:Type}{k:α->Int}{xs:List α}{x:α}:(bM k x xs).length<=xs.length+1:=by
 have:∀ l:List α,(l.filter (λy=>decide (k y<k x))).length+(l.filter (λy=>decide (k x<k y))).length<=l.length:=by
  intro l;induction l with
  |nil=>simp
  |cons y l u =>
   simp only[BO,AZ];by_cases r:k y<k x
   ·rw[if_pos (decide_eq_true r),if_neg (by simp;omega)];simp only[AZ];omega
   ·rw[if_neg (by simpa using r)];split <;> (try simp only[AZ]) <;> omega
 have:=this xs;simp only[bM,BG,AZ];omega
theorem oE {α:Type}{k:α->Int}{xs:List α}(h:Asc k xs){i:Nat}(u:i<xs.length){v:Int}(e:k xs[i]=v):xs.find? (λy=>k y==v)=some xs[i]:=by
 cases r:xs.find? (λy=>k y==v) with
 |none =>
  have:=CT.1 r xs[i] (AW u);simp[e]at this
 |some y =>
  have z:k y=v:=by simpa using CM r
  obtain⟨j,H,rfl⟩:=BH (Bk r);have:=sj h H u (by rw[z,e]);subst this;rfl
theorem nr {α:Type}{k:α->Int}{xs:List α}{v:Int}(h:∀ y∈xs,k y≠v):xs.find? (λy=>k y==v)=none:=by
 rw[CT];intro y r;simpa using h y r
def jC {α:Type}(k:α->Int)(x:α):Bool->List α->List α
 |d,[]=>bif d then [] else [x]
 |d,y::r=>(bif !d&&decide (k x<=k y) then [x] else [])++((bif k y != k x then [y] else [])++jC k x (d||decide (k x<=k y)) r)
theorem pc {α:Type}{k:α->Int}{x:α}:∀ {r:List α},(∀ y∈r,k x<k y)->jC k x true r=r
 |[],_=>rfl
 |y::r,h=>by
  have H:=h y (by simp);simp only[jC,BC,Bv,cond_false,CK,BJ];rw[pc (λz u=>h z (by simp[u])),show (k y != k x)=true by simp;omega];rfl
theorem kK {α:Type}{k:α->Int}{x:α}:∀ {xs:List α},Asc k xs->jC k x false xs=bM k x xs
 |[],_=>rfl
 |y::u,h=>by
  have O:Asc k u:=(BK.1 h).2;have H:∀ z∈u,k y<k z:=(BK.1 h).1;simp only[jC,BV,Bi,CG];by_cases J:k x<=k y
  ·rw[decide_eq_true J,pc (λz r=>by have:=H z r;omega)];simp only[cond_true,bM,BO];have R:u.filter (λz=>decide (k z<k x))=[]:=by
    rw[BM];intro z r;have:=H z r;simp;omega
   have M:u.filter (λz=>decide (k x<k z))=u:=by
    rw[BL];intro z r;have:=H z r;simp;omega
   rw[R,M,if_neg (by simp;omega)];by_cases I:k y=k x
   ·rw[if_neg (by simp;omega),show (k y != k x)=false by simpa using I];rfl
   ·rw[if_pos (by simp;omega),show (k y != k x)=true by simpa using I];rfl
  ·rw[decide_eq_false J,kK O,show (k y != k x)=true by simp;omega];simp only[cond_false,cond_true,bM,BO,BJ];rw[if_pos (by simp;omega),if_neg (by simp;omega)];rfl
theorem so {α A R:Type}(k:α->Int)(x:α)(t:List α)(q:α->Bool)(X:Option R)(z:List α->Option R)(S:List α->Bool->Nat->A){step:(A->Option R)->A->Option R}
  (h:∀ (rec:A->Option R) (r:List α) (d:Bool) (i:Nat) (Y:i<t.length),r.length<=i+1->(d=false->r.length<=i)->step rec (S r d i)=bif q t[i] then X else rec (S ((r++(bif !d&&decide (k x<=k t[i]) then [x] else []))++(bif k t[i] != k x then [t[i]] else [])) (d||decide (k x<=k t[i])) (i+1)))
  (y:∀ (rec:A->Option R) (r:List α) (d:Bool),r.length<=t.length+1->(d=false->r.length<=t.length)->step rec (S r d t.length)=z (r++(bif d then [] else [x]))) :
  ∀ (n i K:Nat) (r:List α) (d:Bool),i+n=t.length->n<K->r.length<=i+1->(d=false->r.length<=i)->ae step K (S r d i)=bif (t.drop i).any q then X else z (r++jC k x d (t.drop i)):=by
 intro n;induction n with
 |zero =>
  intro i K r d Y hK M H;obtain⟨K,rfl⟩:∃ J,K=J+1:=⟨K-1,by omega⟩;have:i=t.length:=by omega
  subst this;show step (ae step K) _=_;rw[y _ _ _ M H,B8];rfl
 |succ n Z =>
  intro i K r d Y hK M H;obtain⟨K,rfl⟩:∃ J,K=J+1:=⟨K-1,by omega⟩;have u:i<t.length:=by omega
  show step (ae step K) _=_;rw[h _ _ _ _ u M H,BD u,List.any_cons];cases hq:q t[i] with
  |true=>rfl
  |false =>
   simp only[cond_false,CG,jC];rw[Z (i+1) K _ _ (by omega) (by omega) ?_ ?_]
   ·simp only[Bl]
   ·cases d with
    |true =>
     simp only[BC,Bv,cond_false,BE];cases k t[i] != k x <;> simp <;> omega
    |false =>
     have:=H rfl;cases O:decide (k x<=k t[i]) <;> cases k t[i] != k x <;> simp <;> omega
   ·intro I;rw[Bool.or_eq_false_iff]at I;obtain⟨rfl,O⟩:=I;have:=H rfl;rw[O];cases k t[i] != k x <;> simp <;> omega
theorem iY (K:Nat)(n:aa)(u:NB n)(y:1048577<K):∃ b,Q185.f K (n,())=rb b/\Q164.f K (n,())=rb b/\(b=true<->dB n):=by
 obtain⟨b,J,r⟩:=sn K n u y;obtain⟨H,z,I⟩:=oA K n u y;have:b=H:=by rw[B9,r,I]
 subst this;exact⟨b,J,z,r⟩
theorem dB.up {n:aa}(h:dB n)(r:n.2.1=true):UpP n:=by
 have:=h.2.2.2.2.2
 rwa [if_pos r]at this
abbrev ap:=Int×Int×Int×Int×Int×Int×dh×List af
abbrev ap.table (w:ap):List af:=w.2.2.2.2.2.2.2
abbrev ap.coord (w:ap):dh:=w.2.2.2.2.2.2.1
def nu:List af->Prop
 |[]=>False
 |f::l=>bS (f::l) (ao f.1)
def fP (w:ap):Prop:=InP w.1 1 2/\InP w.2.1 1 6/\InP w.2.2.1 0 7/\InP w.2.2.2.1 0 7/\InP w.2.2.2.2.1 0 999999/\InP w.2.2.2.2.2.1 0 7/\cn (ap.coord w)/\aA (ap.table w) /\
 (if w.2.1=6 then nu (ap.table w) else bS (ap.table w) (ao w.2.2.1))
theorem oF (K:Nat)(w:ap)(r:(ap.table w).length<=1048576)(u:1048577<K):Ret (Q30.f K (w,())) (fP w):=by
 refine Ret.nx (cm K _ _ _) λ_=>Ret.nx (cm K _ _ _) λ_=>Ret.nx (cm K _ _ _) λ_=>Ret.nx (cm K _ _ _) λ_=>Ret.nx (cm K _ _ _) λ_=>Ret.nx (cm K _ _ _) λ_=>Ret.nx (ig K _) λ_=>Ret.nx (fZ K _ r u) λ_=>?_
 dsimp only;by_cases h:w.2.1=6
 ·rw[show (w.2.1==6)=true by simpa using h,if_pos h];obtain⟨w1,w2,w3,w4,z,y,H,t⟩:=w;cases t with
  |nil=>exact Ret.no (λh=>h)
  |cons f l =>
   rw[show decide ((AU (f::l):Int)>0)=true from decide_eq_true (by simp only[AZ];omega)];simp only[cond_true];exact Ret.vl (ai (xs:=f::l) (i:=0) (by simp)) (eM K _ _ r u).id
 ·rw[show (w.2.1==6)=false by simpa using h,if_neg h];exact (eM K _ _ r u).id
theorem sq (K:Nat)(w:ap)(r:(ap.table w).length<=1048576)(u:1048577<K):Ret (Q187.f K (w,())) (fP w):=by
 refine Ret.iff (Q:=fP w) (Ret.nx (eo K _ _ _) λ_=>Ret.nx (eo K _ _ _) λ_=>Ret.nx (iI K _) λ_=>Ret.nx (iI K _) λ_=>Ret.nx (iI K _) λ_=>Ret.nx (eo K _ _ _) λ_=>Ret.nx (nn K _) λ_=>Ret.nx (jg K _ r u)
  (Q:=if w.2.1=6 then nu (ap.table w) else bS (ap.table w) (ao w.2.2.1)) λ_=>?_) ?_
 ·dsimp only;by_cases h:w.2.1=6
  ·rw[show (w.2.1==6)=true by simpa using h,if_pos h];obtain⟨w1,w2,w3,w4,z,y,H,t⟩:=w;cases t with
   |nil=>exact Ret.no (λh=>h)
   |cons f l =>
    rw[show decide ((AU (f::l):Int)>0)=true from decide_eq_true (by simp only[AZ];omega)];simp only[cond_true];exact Ret.vl (ai (xs:=f::l) (i:=0) (by simp)) (Ret.vl (pa K _) (gV K _ _ r u).id)
  ·rw[show (w.2.1==6)=false by simpa using h,if_neg h];simp only[cond_false];exact Ret.vl (pa K _) (gV K _ _ r u).id
 ·unfold fP;constructor
  ·rintro⟨h1,h2,h3,h4,h5,h6,h7,h8,h9⟩;exact⟨h1,h2,h3,h4,h6,h5,h7,h8,h9⟩
  ·rintro⟨h1,h2,h3,h4,h6,h5,h7,h8,h9⟩;exact⟨h1,h2,h3,h4,h5,h6,h7,h8,h9⟩
theorem ij {α A R:Type}(xs:List α)(S:List α->Nat->A)(r:Option R){step:(A->Option R)->A->Option R}
  (h:∀ (rec:A->Option R) (u:List α) (i:Nat) (z:i<xs.length),u.length=i->step rec (S u i)=rec (S (u++[xs[i]]) (i+1))) (y:∀ rec:A->Option R,step rec (S xs xs.length)=r) {k:Nat} (H:xs.length<k):ae step k (S [] 0)=r:=by
 refine p9 (step:=step) xs.length (λi=>S (xs.take i) i) r ?_ ?_ H
 ·intro rec i z;show step rec (S (xs.take i) i)=rec (S (xs.take (i+1)) (i+1));rw[h rec (xs.take i) i z (by simp;omega),Bn z]
 ·intro rec;show step rec (S (xs.take xs.length) xs.length)=r;rw[Bj];exact y rec
theorem szb (a b c:Nat)(r:c<=64)(h:a+b<=2097152):decide ((a+b)*c<=ak)=true:=by
 have:=CC h r;exact decide_eq_true (by unfold ak;omega)
theorem wv (K:Nat)(n:aa)(u:NB n)(J:1048577<K):Q107.f K (n,())=some ((n,()),()):=by
 have I:=u.table;have M:=u.cast;have H:=u.doubts;have R:=u.places;have O:=u.others;simp only[Q107.f,Q107.pre];rw[szb _ _ _ (by omega) (by show (AU ([]:List af))+(aa.table n).length<=_;simp;omega),szb _ _ _ (by omega) (by show (AU ([]:List aV))+(aa.cast n).length<=_;simp;omega)];simp only[cond_true];refine ij (aa.doubts n) (step:=λrec a=>Q107.s0 K (n,()) (Q107.l1 K (n,())) rec a) (λr i=>((i:Int),r)) _ ?_ ?_ (by omega)
 ·intro rec r i y z;have:=u.by_ _ (AW y);simp only[Q107.s0];rw[bO (by omega:(i:Int)<(AU (aa.doubts n):Int)),ai y,au i (by omega)];simp only[cond_true,AT];rw[szb _ _ _ (by omega) (by simp;omega),szb _ _ _ (by omega) (by simp;omega)];rfl
 ·intro rec;simp only[Q107.s0,bf,cond_false];refine ij (aa.places n) (step:=λrec a=>Q107.s1 K (n,()) (Q107.l2 K (n,())) rec a) (λr i=>((i:Int),aa.doubts n,r)) _ ?_ ?_ (by omega)
  ·intro rec r i y z;have:=u.trips _ (AW y);simp only[Q107.s1];rw[bO (by omega:(i:Int)<(AU (aa.places n):Int)),ai y,au i (by omega)];simp only[cond_true,AT];rw[szb _ _ _ (by omega) (by simp;omega),szb _ _ _ (by omega) (by simp;omega)];rfl
  ·intro rec;simp only[Q107.s1,bf,cond_false];refine ij (aa.others n) (step:=λrec a=>Q107.s2 K (n,()) rec a) (λr i=>((i:Int),aa.doubts n,aa.places n,r)) _ ?_ ?_ (by omega)
   ·intro rec r i y z;have:=u.facts _ (AW y);simp only[Q107.s2,zcp8];rw[bO (by omega:(i:Int)<(AU (aa.others n):Int)),ai y,au i (by omega)];simp only[cond_true,AT];rw[szb _ _ _ (by omega) (by simp;omega),szb _ _ _ (by omega) (by simp;omega)];rfl
   ·intro rec;simp only[Q107.s2,zcp8,bf,cond_false];rfl
theorem xT (K:Nat)(n:aa)(u:NB n)(J:1048577<K):Q193.f K (n,())=some ((n,()),()):=by
 have I:=u.table;have M:=u.cast;have H:=u.doubts;have R:=u.places;have O:=u.others;simp only[Q193.f,Q193.pre];refine ij (aa.doubts n) (step:=λrec a=>Q193.s0 K (n,()) (Q193.l1 K (n,())) rec a) (λr i=>(r,(i:Int))) _ ?_ ?_ (by omega)
 ·intro rec r i y z;have:=u.by_ _ (AW y);simp only[Q193.s0,Q2.f];rw[bO (by omega:(i:Int)<(AU (aa.doubts n):Int)),ai y,au i (by omega)];simp only[cond_true,AT];rw[iK (by omega)];simp only[AT];rw[szb _ _ _ (by omega) (by simp;omega)];rfl
 ·intro rec;simp only[Q193.s0,bf,cond_false];refine ij (aa.places n) (step:=λrec a=>Q193.s1 K (n,()) (Q193.l2 K (n,())) rec a) (λr i=>(aa.doubts n,r,(i:Int))) _ ?_ ?_ (by omega)
  ·intro rec r i y z;have:=u.trips _ (AW y);simp only[Q193.s1,Q2.f];rw[bO (by omega:(i:Int)<(AU (aa.places n):Int)),ai y,au i (by omega)];simp only[cond_true,AT];rw[iK (by omega)];simp only[AT];rw[szb _ _ _ (by omega) (by simp;omega)];rfl
  ·intro rec;simp only[Q193.s1,bf,cond_false];refine ij (aa.others n) (step:=λrec a=>Q193.s2 K (n,()) rec a) (λr i=>(aa.doubts n,aa.places n,r,(i:Int))) _ ?_ ?_ (by omega)
   ·intro rec r i y z;have:=u.facts _ (AW y);simp only[Q193.s2,zcp8,Q1.f];rw[bO (by omega:(i:Int)<(AU (aa.others n):Int)),ai y,au i (by omega)];simp only[cond_true,AT];rw[iK (by omega)];simp only[AT];rw[szb _ _ _ (by omega) (by simp;omega)];rfl
   ·intro rec;simp only[Q193.s2,zcp8,bf,cond_false,Q1.f,Q3.f];rw[iK (by show (aa.table n).length*_<=_;omega),iK (by show (aa.cast n).length*_<=_;omega)];rfl
instance (f g:af):Decidable (bE f g):=by unfold bE;infer_instance
theorem pd (K:Nat)(f g:af):Q43.f K (f,g,())=rb (decide (bE f g)):=by
 obtain⟨b,u,r⟩:=sl K f g;rw[u,show b=decide (bE f g) by rw[B9,r];simp]
def bY (t:List af)(f:af):List af×Bool :=
 match t.find? (λg=>g.1==f.1) with
 |some g=>if bE f g then (bM (λg=>g.1) f t,true) else (t,false)
 |none=>(bM (λg=>g.1) f t,true)
theorem lL {t:List af}{f:af}(u:Asc (λg:af=>g.1) t){i:Nat}(r:i<t.length)(e:t[i].1=f.1):bY t f=if bE f t[i] then (bM (λg=>g.1) f t,true) else (t,false):=by
 unfold bY;rw[show t.find? (λg=>g.1==f.1)=some t[i] from oE u r e]
theorem iL {t:List af}{f:af}(h:∀ g∈t,g.1≠f.1):bY t f=(bM (λg=>g.1) f t,true):=by
 unfold bY;rw[show t.find? (λg=>g.1==f.1)=none from nr h]
theorem put_s (K:Nat)(t:List af)(f:af)(ht:t.length<=1048576)(R:Asc (λg:af=>g.1) t)(Y:1048577<K):Q44.f K (t,f,())=some (((bY t f).1,(bY t f).2,()),()):=by
 simp only[Q44.f,Q44.pre];obtain⟨o,H,J⟩:=eW K t f.1 ht Y;rw[J];simp only[AT];cases H with
 |at_ i r e =>
  simp only;rw[lL R r e,decide_eq_true (by omega:((i:Nat):Int)>=0),ai r];simp only[cond_true,AT];rw[show Q43.f K (f,t[i],())=_ from pd K f t[i]];simp only[AT];by_cases H:bE f t[i]
  ·rw[decide_eq_true H,if_pos H];simp only[BC,cond_false];rw[szb _ _ _ (by omega) (by show (AU ([]:List af))+t.length<=_;simp;omega)];simp only[cond_true,BJ,ai r,AT,AY];rw[oC (k:=λg:af=>g.1) R r e]
  ·rw[decide_eq_false H,if_neg H];rfl
 |no h =>
  simp only;rw[iL h,decide_eq_false (by omega:¬ (-1:Int)>=0)];simp only[cond_false];have M:∀ m:Nat,m<=t.length->(bif decide ((0:Int)<=0)&&decide ((0:Int)<=(m:Int))&&decide ((m:Int)<=(AU t:Int))&&true then (bif decide ((AU ([]:List af)+AU ((t.take (AV (m:Int))).drop (AV 0)))*32<=ak) then (bif decide ((AU ([]++((t.take (AV (m:Int))).drop (AV 0)))+AU ([f]))*32<=ak) then (bif decide ((0:Int)<=(m:Int))&&decide ((m:Int)<=(AU t:Int))&&decide ((AU t:Int)<=(AU t:Int))&&true then (bif decide ((AU (([]++((t.take (AV (m:Int))).drop (AV 0)))++([f]))+AU ((t.take (AV (AU t:Int))).drop (AV (m:Int))))*32<=ak) then (some (((([]++((t.take (AV (m:Int))).drop (AV 0)))++([f]))++((t.take (AV (AU t:Int))).drop (AV (m:Int))),true,()),())) else none) else none) else none) else none) else (none:Option ((List af×Bool×Unit)×Unit)))=some ((t.take m++[f]++t.drop m,true,()),()):=by
   intro m X;rw[decide_eq_true (by omega:(0:Int)<=0),decide_eq_true (by omega:(0:Int)<=(m:Int)),decide_eq_true (by omega:(m:Int)<=(AU t:Int)),decide_eq_true (by omega:(AU t:Int)<=(AU t:Int))];simp only[AY,B3,BR,BJ,Bj,Bz,cond_true];have J:(t.take m).length=m:=by rw[BS];omega
   have z:(t.drop m).length=t.length-m:=BX;rw[szb _ _ _ (by omega) (by simp only[BI];omega),szb _ _ _ (by omega) (by simp only[AZ,BI];omega),szb _ _ _ (by omega) (by simp only[BG,AZ,BI];omega)];rfl
  have:=cG (step:=λrec a=>Q44.s0 K (t,f,()) rec a) t.length (λi=>(i:Int)) (λj=>∃ h:j<t.length,¬ t[j].1<f.1) (some ((t.take t.length++[f]++t.drop t.length,true,()),())) (λj=>some ((t.take j++[f]++t.drop j,true,()),())) ?_ ?_ t.length K 0 (by omega) (by omega)
  ·have I:∀ m,m<=t.length->(∀ i,(r:i<t.length)->i<m->t[i].1<f.1)->(∀ i,(r:i<t.length)->m<=i->f.1<t[i].1)->t.take m++[f]++t.drop m=bM (λg=>g.1) f t:=λm X lo r=>oD (k:=λg:af=>g.1) X lo r
   rcases this with ⟨J,z⟩|⟨j,_,J,⟨h3,h4⟩,Z,z⟩
   ·rw[I t.length (BP _) (λi r _=>by
     have:=J i (Bd _) r;exact Bg.1 λh=>this ⟨r,h⟩) (λi r h=>by omega)]at z
    exact z
   ·rw[I j (by omega) (λi r y=>by
     have:=Z i (Bd _) y;exact Bg.1 λh=>this ⟨r,h⟩) (λi r y=>by
     have a0:=h t[i] (AW r);rcases Bq y with O|O
     ·have:=eA.1 R j i h3 r O;omega
     ·subst O;omega)]at z
    exact z
  ·intro rec i r;simp only[Q44.s0];rw[bO (by omega:(i:Int)<(AU t:Int)),ai r,au i (by omega)];simp only[cond_true,AT];by_cases u:t[i].1<f.1
   ·exact .inl ⟨λ⟨_,h⟩=>h u,by rw[decide_eq_true u];rfl⟩
   ·exact .inr ⟨⟨r,u⟩,by rw[decide_eq_false u];exact M i (by omega)⟩
  ·intro rec;simp only[Q44.s0,bf,cond_false];exact M t.length (BP _)
def eY (l:List aV)(f:af):List aV:=if ∃ x∈l,x.1.1=f.1/\¬ bE f x.1 then l else bM (λx=>x.1.1) (f,4) l
theorem tO {l:List aV}{f:af}:eY l f=bif l.any (λx=>x.1.1==f.1&&!decide (bE f x.1)) then l else bM (λx=>x.1.1) (f,4) l:=by
 unfold eY;have:(∃ x∈l,x.1.1=f.1/\¬ bE f x.1)<->l.any (λx=>x.1.1==f.1&&!decide (bE f x.1))=true:=by
  rw[List.any_eq_true];simp
 by_cases h:∃ x∈l,x.1.1=f.1/\¬ bE f x.1
 ·rw[if_pos h,this.1 h];rfl
 ·rw[if_neg h,show l.any (λx=>x.1.1==f.1&&!decide (bE f x.1))=false by rw[Bool.eq_false_iff];exact λr=>h (this.2 r)];rfl
theorem zh (K:Nat)(l:List aV)(f:af)(Y:l.length<=1048576)(J:Asc (λx:aV=>x.1.1) l)(X:1048577<K):Q45.f K (l,f,())=some ((eY l f,()),()):=by
 have:=so (step:=λrec a=>Q45.s0 K (l,f,()) rec a) (λx:aV=>x.1.1) (f,4) l (λx=>x.1.1==f.1&&!decide (bE f x.1)) (some ((l,()),())) (λR=>some ((R,()),())) (λr d i=>(r,d,(i:Int))) ?_ ?_ l.length 0 K [] false (by omega) (by omega) (by simp) (by simp)
 ·refine CY (this:Q45.f K (l,f,())=_) ?_;rw[BR,tO,kK J];cases l.any (λx=>x.1.1==f.1&&!decide (bE f x.1)) <;> rfl
 ·intro rec r d i O M H;simp only[Q45.s0];rw[bO (by omega:(i:Int)<(AU l:Int)),ai O,au i (by omega)];simp only[cond_true,AT];have u:decide ((r.length+[((f,4):af×Nat)].length)*40<=ak)=true:=szb _ _ _ (by omega) (by simp;omega);have I:decide (((r++[((f,4):aV)]).length+[l[i]].length)*40<=ak)=true:=szb _ _ _ (by omega) (by simp;omega);have z:decide ((r.length+[l[i]].length)*40<=ak)=true:=szb _ _ _ (by omega) (by simp;omega);by_cases y:l[i].1.1=f.1
  ·rw[show (l[i].1.1==f.1)=true by simpa using y,show (l[i].1.1 != f.1)=false by simpa using y,show decide (f.1<=l[i].1.1)=true from decide_eq_true (by omega)];simp only[cond_true,cond_false,Bi,CH,Cm,BE];rw[show Q43.f K (f,l[i].1,())=_ from pd K f l[i].1];simp only[AT];cases decide (bE f l[i].1) with
   |false=>rfl
   |true =>
    simp only[BC,cond_false];cases d with
    |true=>simp only[BC,cond_false,BE]
    |false =>
     simp only[BV,cond_true];rw[u];rfl
  ·rw[show (l[i].1.1==f.1)=false by simpa using y,show (l[i].1.1 != f.1)=true by simpa using y];simp only[cond_true,cond_false,Bv];cases d with
   |true =>
    simp only[BC,cond_false,Bv,BE,CK];rw[z];rfl
   |false =>
    simp only[BV,cond_true,Bi,CG];cases decide (f.1<=l[i].1.1) with
    |true =>
     simp only[cond_true];rw[u];simp only[cond_true];rw[I];rfl
    |false =>
     simp only[cond_false,BE];rw[z];rfl
 ·intro rec r d M H;simp only[Q45.s0,bf];cases d with
  |true=>simp only[BC,cond_false,cond_true,BE]
  |false =>
   have:=H rfl;have u:decide ((r.length+[((f,4):af×Nat)].length)*40<=ak)=true:=szb _ _ _ (by omega) (by simp;omega);simp only[BV,cond_true,cond_false];rw[u];rfl
theorem nM {α:Type}{k:α->Int}{x:α}:∀ {r:List α},jC k x true r=r.filter (λy=>k y != k x)
 |[]=>rfl
 |y::r=>by
  simp only[jC,BC,Bv,cond_false,CK,BJ,BO];rw[nM];cases k y != k x <;> rfl
def mkD (r:Int)(f:af)(b:Int):ca:=(f.1,f.2.1,r,[b])
def cY (r:Int)(ds:List ca)(f:af)(b:Int):List ca:=if f.2.2.1=2 then bM (λd=>d.1) (mkD r f b) ds else ds.filter (λd=>!(d.1==f.1))
theorem zi (K:Nat)(n:aa)(f:af)(b:Int)(Y:(aa.doubts n).length<=1048576)(J:Asc (λd:ca=>d.1) (aa.doubts n))(X:1048577<K) :
  Q46.f K (n,f,b,())=some ((cY n.2.2.2.2.2.1 (aa.doubts n) f b,()),()):=by
 have:=so (step:=λrec a=>Q46.s0 K (n,f,b,()) rec a) (λd:ca=>d.1) (mkD n.2.2.2.2.2.1 f b) (aa.doubts n) (λ_=>false) none (λR=>some ((R,()),())) (λr d i=>(r,d,(i:Int))) ?_ ?_ (aa.doubts n).length 0 K [] (f.2.2.1 != 2) (by omega) (by omega) (by simp) (by simp)
 ·refine CY (this:Q46.f K (n,f,b,())=_) ?_;rw[BR,show (aa.doubts n).any (λ_=>false)=false by simp,cY];by_cases u:f.2.2.1=2
  ·rw[if_pos u,show (f.2.2.1 != 2)=false by simpa using u,kK J];rfl
  ·rw[if_neg u,show (f.2.2.1 != 2)=true by simpa using u,nM];rfl
 ·intro rec r d i O M z;simp only[Q46.s0];rw[bO (by omega:(i:Int)<(AU (aa.doubts n):Int)),ai O,au i (by omega)];simp only[cond_true,cond_false,AT];have y:decide ((r.length+[mkD n.2.2.2.2.2.1 f b].length)*48<=ak)=true:=szb _ _ _ (by omega) (by simp;omega);have I:decide (((r++[mkD n.2.2.2.2.2.1 f b]).length+[(aa.doubts n)[i]].length)*48<=ak)=true:=szb _ _ _ (by omega) (by simp;omega);have H:decide ((r.length+[(aa.doubts n)[i]].length)*48<=ak)=true:=szb _ _ _ (by omega) (by simp;omega);show (bif !d then (bif decide (f.1<=(aa.doubts n)[i].1) then (bif decide ((r.length+[mkD n.2.2.2.2.2.1 f b].length)*48<=ak) then (bif (aa.doubts n)[i].1 != f.1 then (bif decide (((r++[mkD n.2.2.2.2.2.1 f b]).length+[(aa.doubts n)[i]].length)*48<=ak) then (rec ((r++[mkD n.2.2.2.2.2.1 f b])++[(aa.doubts n)[i]],true,((i+1:Nat):Int))) else none) else (rec (r++[mkD n.2.2.2.2.2.1 f b],true,((i+1:Nat):Int)))) else none) else (bif (aa.doubts n)[i].1 != f.1 then (bif decide ((r.length+[(aa.doubts n)[i]].length)*48<=ak) then (rec (r++[(aa.doubts n)[i]],d,((i+1:Nat):Int))) else none) else (rec (r,d,((i+1:Nat):Int))))) else (bif (aa.doubts n)[i].1 != f.1 then (bif decide ((r.length+[(aa.doubts n)[i]].length)*48<=ak) then (rec (r++[(aa.doubts n)[i]],d,((i+1:Nat):Int))) else none) else (rec (r,d,((i+1:Nat):Int)))))=rec ((r++(bif !d&&decide (f.1<=(aa.doubts n)[i].1) then [mkD n.2.2.2.2.2.1 f b] else []))++(bif (aa.doubts n)[i].1 != f.1 then [(aa.doubts n)[i]] else []),d||decide (f.1<=(aa.doubts n)[i].1),((i+1:Nat):Int));rw[y,I,H];cases d <;> cases decide (f.1<=(aa.doubts n)[i].1) <;> cases (aa.doubts n)[i].1 != f.1 <;> simp only[BC,BV,Bi,Bv,CK,CG,cond_true,cond_false,BE]
 ·intro rec r d M z;simp only[Q46.s0,bf];cases d with
  |true=>simp only[BC,cond_false,cond_true,BE]
  |false =>
   have:=z rfl;have y:decide ((r.length+[mkD n.2.2.2.2.2.1 f b].length)*48<=ak)=true:=szb _ _ _ (by omega) (by simp;omega);show (bif decide ((r.length+[mkD n.2.2.2.2.2.1 f b].length)*48<=ak) then some ((r++[mkD n.2.2.2.2.2.1 f b],()),()) else none)=some ((r++[mkD n.2.2.2.2.2.1 f b],()),());rw[y];rfl
def iM (n:aa)(t:List af)(c:List aV)(ds:List ca):aa :=
 (n.1,n.2.1,n.2.2.1,n.2.2.2.1,n.2.2.2.2.1,n.2.2.2.2.2.1,n.2.2.2.2.2.2.1,n.2.2.2.2.2.2.2.1,t,c,n.2.2.2.2.2.2.2.2.2.2.1,ds,n.2.2.2.2.2.2.2.2.2.2.2.2)
def km (n:aa)(f:af):Bool:=decide (∃ g∈aa.table n,g.1=f.1/\g.2.1=f.2.1/\g.2.2.1=f.2.2.1)
def sayOf (n:aa)(f:af)(b:Int):aa :=
 bif (bY (aa.table n) f).2 then iM n (bY (aa.table n) f).1 (eY (aa.cast n) f) (bif km n f then aa.doubts n else cY n.2.2.2.2.2.1 (aa.doubts n) f b) else n
structure cH (n:aa):Prop where
 table:aA (aa.table n)
 cast:cX (aa.cast n)
 asc:Asc (λd:ca=>d.1) (aa.doubts n)
 inp:∀ d∈aa.doubts n,InP d.1 0 7
 lt:(aa.table n).length<=1048576
 lc:(aa.cast n).length<=1048576
 ld:(aa.doubts n).length<=1048576
theorem xU {n:aa}{f g:af}(u:Asc (λg:af=>g.1) (aa.table n))(r:g∈aa.table n)(e:g.1=f.1):km n f=(g.2.1==f.2.1&&g.2.2.1==f.2.2.1):=by
 rw[B9,km,decide_eq_true_eq,Bc,beq_iff_eq,beq_iff_eq];constructor
 ·rintro⟨x,hx,h1,h2,h3⟩;have:=gW u hx r (by rw[h1,e]);subst this;exact⟨h2,h3⟩
 ·rintro⟨h1,h2⟩;exact⟨g,r,e,h1,h2⟩
theorem xV {n:aa}{f:af}(h:∀ g∈aa.table n,g.1≠f.1):km n f=false :=
 decide_eq_false λ⟨g,r,e,_⟩=>h g r e
theorem pe (K:Nat)(n:aa)(f:af)(b:Int)(h:cH n)(r:1048577<K):Q85.f K (n,f,b,())=some ((sayOf n f b,()),()):=by
 simp only[Q85.f,zcp8];rw[show Q44.f K (n.2.2.2.2.2.2.2.2.1,f,())=_ from put_s K (aa.table n) f h.lt h.table.2 r];simp only[AT];cases H:(bY (aa.table n) f).2 with
 |false =>
  simp only[sayOf,H];rfl
 |true =>
  simp only[sayOf,H,BC,cond_false,cond_true];obtain⟨o,M,J⟩:=eW K (aa.table n) f.1 h.lt r;rw[show Q42.f K (n.2.2.2.2.2.2.2.2.1,f.1,())=_ from J];simp only[AT];have y:=zi K (n.1,n.2.1,n.2.2.1,n.2.2.2.1,n.2.2.2.2.1,n.2.2.2.2.2.1,n.2.2.2.2.2.2.1,n.2.2.2.2.2.2.2.1,(bY (aa.table n) f).1,eY (aa.cast n) f,n.2.2.2.2.2.2.2.2.2.2) f b h.ld h.asc r;have I:=zh K (aa.cast n) f h.lc h.cast.2 r;cases M with
  |at_ i z e =>
   simp only;rw[xU h.table.2 (AW z) e,decide_eq_true (by omega:((i:Nat):Int)>=0)];simp only[cond_true];rw[show idx n.2.2.2.2.2.2.2.2.1 (i:Int)=some (aa.table n)[i] from ai z];simp only[AT];rw[show Q45.f K (n.2.2.2.2.2.2.2.2.2.1,f,())=_ from I];simp only[AT];rw[y];cases (aa.table n)[i].2.1==f.2.1 with
   |true =>
    cases (aa.table n)[i].2.2.1==f.2.2.1 <;> rfl
   |false=>rfl
  |no u =>
   simp only;rw[xV u,decide_eq_false (by omega:¬ (-1:Int)>=0)];simp only[cond_false];rw[show Q45.f K (n.2.2.2.2.2.2.2.2.2.1,f,())=_ from I];simp only[AT];rw[y];rfl
theorem pf {α:Type}{k:α->Int}{xs:List α}(h:Asc k xs)(p:α->Bool):Asc k (xs.filter p):=Bw p h
theorem it {α:Type}{k:α->Int}{xs:List α}(h:Asc k xs)(u:∀ x∈xs,InP (k x) 0 7):xs.length<=8:=by
 have:=(iH (xs.map k) [0,1,2,3,4,5,6,7] (by unfold Asc at h;rw[BY];exact h) (by decide) (λy z=>by
  obtain⟨x,r,rfl⟩:=BQ.1 z;obtain⟨I,H⟩:=u x r;simp only[Bo,List.not_mem_nil,or_false];omega)).1
 rw[BW]at this;exact this
theorem gH (t:List af)(f:af):(bY t f).1=t\/(bY t f).1=bM (λg=>g.1) f t:=by
 unfold bY;split
 ·split
  ·exact .inr rfl
  ·exact .inl rfl
 ·exact .inr rfl
theorem jU {t:List af}{f:af}(h:aA t)(r:bC f):aA (bY t f).1:=by
 rcases gH t f with e|e
 ·rw[e];exact h
 ·rw[e];refine⟨λg u=>?_,eN h.2⟩;rcases aW.1 u with rfl|⟨y,_⟩
  ·exact r
  ·exact h.1 g y
theorem pg {l:List aV}{f:af}(h:cX l)(u:bC f):cX (eY l f):=by
 unfold eY;split
 ·exact h
 ·refine⟨λx r=>?_,eN h.2⟩;rcases aW.1 r with rfl|⟨y,_⟩
  ·exact⟨u,show (1:Int)<=4 by omega,show (4:Int)<=4 by omega⟩
  ·exact h.1 x y
theorem mz {r:Int}{ds:List ca}{f:af}{b:Int}{d:ca}(h:d∈cY r ds f b):d=mkD r f b\/d∈ds:=by
 unfold cY at h;split at h
 ·rcases aW.1 h with h|h
  ·exact .inl h
  ·exact .inr h.1
 ·exact .inr (BA.1 h).1
theorem sr {r:Int}{ds:List ca}{f:af}{b:Int}(h:Asc (λd:ca=>d.1) ds):Asc (λd:ca=>d.1) (cY r ds f b):=by
 unfold cY;split
 ·exact eN h
 ·exact pf h _
theorem jh (n:aa)(f:af)(b:Int):∃ t c r,sayOf n f b=iM n t c r/\(t=aa.table n\/t=(bY (aa.table n) f).1)/\(c=aa.cast n\/c=eY (aa.cast n) f)/\(r=aa.doubts n\/r=cY n.2.2.2.2.2.1 (aa.doubts n) f b):=by
 unfold sayOf;cases (bY (aa.table n) f).2 with
 |false=>exact⟨aa.table n,aa.cast n,aa.doubts n,rfl,.inl rfl,.inl rfl,.inl rfl⟩
 |true =>
  cases km n f with
  |true=>exact⟨_,_,_,rfl,.inr rfl,.inr rfl,.inl rfl⟩
  |false=>exact⟨_,_,_,rfl,.inr rfl,.inr rfl,.inr rfl⟩
theorem cH.mk' {n:aa}(u:aA (aa.table n))(r:cX (aa.cast n))(y:Asc (λd:ca=>d.1) (aa.doubts n))(z:∀ d∈aa.doubts n,InP d.1 0 7):cH n where
 table:=u
 cast:=r
 asc:=y
 inp:=z
 lt:=BZ (it u.2 (λg I=>(u.1 g I).1)) (by decide)
 lc:=BZ (it r.2 (λx H=>(r.1 x H).1.1)) (by decide)
 ld:=BZ (it y z) (by decide)
theorem jV {n:aa}{f:af}{b:Int}(h:cH n)(r:bC f):cH (sayOf n f b):=by
 obtain⟨t,c,z,e,H,I,y⟩:=jh n f b;rw[e];refine cH.mk' ?_ ?_ ?_ ?_
 ·show aA t;rcases H with rfl|rfl
  ·exact h.table
  ·exact jU h.table r
 ·show cX c;rcases I with rfl|rfl
  ·exact h.cast
  ·exact pg h.cast r
 ·show Asc _ z;rcases y with rfl|rfl
  ·exact h.asc
  ·exact sr h.asc
 ·show ∀ d∈z,InP d.1 0 7;rcases y with rfl|rfl
  ·exact h.inp
  ·intro d u;rcases mz u with rfl|u
   ·exact r.1
   ·exact h.inp d u
theorem UpP.say {n:aa}(h:UpP n):cH n:=by
 obtain⟨r,_,_,⟨H,_⟩,_,u,_⟩:=h;refine cH.mk' r H u.2.1 λd z=>?_
 obtain⟨f,y,e,_⟩:=(u.1 d z).1;rw[<- e];exact (r.1 f y).1
theorem qa {α β A R:Type}(t:List α)(p:α->Bool)(g:α->β)(S:List β->Nat->A)(u:List β->Option R){step:(A->Option R)->A->Option R}
  (h:∀ (rec:A->Option R) (r:List β) (i:Nat) (O:i<t.length),r.length<=i->step rec (S r i)=rec (S (bif p t[i] then r++[g t[i]] else r) (i+1)))
  (z:∀ (rec:A->Option R) (r:List β),r.length<=t.length->step rec (S r t.length)=u r) {k:Nat} (J:t.length<k) :
  ae step k (S [] 0)=u ((t.filter p).map g):=by
 have:∀ (d i k:Nat) (r:List β),i+d=t.length->d<k->r.length<=i->ae step k (S r i)=u (r++((t.drop i).filter p).map g):=by
  intro d;induction d with
  |zero =>
   intro i k r O J I;obtain⟨k,rfl⟩:∃ H,k=H+1:=⟨k-1,by omega⟩;have:i=t.length:=by omega
   subst this;show step (ae step k) _=_;rw[z _ _ I];simp
  |succ d M =>
   intro i k r O J I;obtain⟨k,rfl⟩:∃ H,k=H+1:=⟨k-1,by omega⟩;have y:i<t.length:=by omega
   show step (ae step k) _=_;rw[h _ _ _ y I,BD y,BO];cases p t[i] with
   |true =>
    simp only[cond_true,if_true,CS];rw[M (i+1) k _ (by omega) (by omega) (by simp;omega),Bl];rfl
   |false =>
    simp only[cond_false];rw[M (i+1) k _ (by omega) (by omega) (by omega)];rfl
 have:=this t.length 0 k [] (by omega) J (BP _)
 rwa [BR,BJ]at this
theorem szw (a b c:Nat)(r:c<=128)(h:a+b<=2097152):decide ((a+b)*c<=ak)=true:=by
 have:=CC h r;exact decide_eq_true (by unfold ak;omega)
def kn (n:aa):aa:=(n.1,n.2.1,true,n.2.2.2)
def ph (r:Int)(n:aa)(to:Int):ap:=(1,r,n.1,to,0,n.1,aa.coord n,aa.table n)
theorem nv (K:Nat)(n:aa)(r to:Int)(u:(aa.table n).length<=1048576):Q41.f K (n,r,to,0,n.1,aa.table n,())=some ((ph r n to,()),()):=by
 simp only[Q41.f];rw[szb _ _ _ (by omega) (by show (AU ([]:List af))+(aa.table n).length<=_;simp;omega)];rfl
def ee (f:af):Bool:=f.2.2.1==1||f.2.2.1==2
theorem ul (K:Nat)(t:List af)(f:af)(I:aA t)(J:t.length<=1048576)(r:f∈t)(y:1048577<K):Q87.f K (t,f.1,())=rb (ee f):=by
 simp only[Q87.f];obtain⟨o,z,H⟩:=eW K t f.1 J y;rw[H];simp only[AT];cases z with
 |at_ i u e =>
  simp only;rw[decide_eq_true (by omega:((i:Nat):Int)>=0),ai u];simp only[cond_true,AT];rw[gW I.2 (AW u) r e,ee];cases f.2.2.1==1 <;> rfl
 |no h=>exact absurd rfl (h f r)
def su (n:aa)(f:af):Bool:=f.1 != n.1&&ee f
def ll (n:aa):List ap:=((aa.table n).filter (su n)).map λf=>ph 5 n f.1
def mA (n:aa):aa:=kn (sayOf n (n.1,n.2.2.2.2.1,4,n.2.2.2.1) n.1)
theorem sv (K:Nat)(x:ab Q103.ps)(m:aa)(J:aA (aa.table m))(y:(aa.table m).length<=1048576)(I:1048577<K) :
  Q103.l0 K x ([],0,m.1,m.2.1,m.2.2.2.1,m.2.2.2.2.1,m.2.2.2.2.2.1,m.2.2.2.2.2.2.1,m.2.2.2.2.2.2.2.1,m.2.2.2.2.2.2.2.2.1,m.2.2.2.2.2.2.2.2.2.1,m.2.2.2.2.2.2.2.2.2.2.1.1,m.2.2.2.2.2.2.2.2.2.2.1.2.1,m.2.2.2.2.2.2.2.2.2.2.1.2.2.1,m.2.2.2.2.2.2.2.2.2.2.1.2.2.2,m.2.2.2.2.2.2.2.2.2.2.2.1,m.2.2.2.2.2.2.2.2.2.2.2.2.1.1,m.2.2.2.2.2.2.2.2.2.2.2.2.1.2.1,m.2.2.2.2.2.2.2.2.2.2.2.2.1.2.2.1,m.2.2.2.2.2.2.2.2.2.2.2.2.1.2.2.2,m.2.2.2.2.2.2.2.2.2.2.2.2.2.1,m.2.2.2.2.2.2.2.2.2.2.2.2.2.2)=some ((kn m,ll (kn m),()),()):=by
 refine qa (step:=λrec a=>Q103.s0 K x rec a) (aa.table m) (su (kn m)) (λf=>ph 5 (kn m) f.1) (λr i=>(r,(i:Int),m.1,m.2.1,m.2.2.2.1,m.2.2.2.2.1,m.2.2.2.2.2.1,m.2.2.2.2.2.2.1,m.2.2.2.2.2.2.2.1,m.2.2.2.2.2.2.2.2.1,m.2.2.2.2.2.2.2.2.2.1,m.2.2.2.2.2.2.2.2.2.2.1.1,m.2.2.2.2.2.2.2.2.2.2.1.2.1,m.2.2.2.2.2.2.2.2.2.2.1.2.2.1,m.2.2.2.2.2.2.2.2.2.2.1.2.2.2,m.2.2.2.2.2.2.2.2.2.2.2.1,m.2.2.2.2.2.2.2.2.2.2.2.2.1.1,m.2.2.2.2.2.2.2.2.2.2.2.2.1.2.1,m.2.2.2.2.2.2.2.2.2.2.2.2.1.2.2.1,m.2.2.2.2.2.2.2.2.2.2.2.2.1.2.2.2,m.2.2.2.2.2.2.2.2.2.2.2.2.2.1,m.2.2.2.2.2.2.2.2.2.2.2.2.2.2)) (λz=>some ((kn m,z,()),())) ?_ ?_ (by omega)
 ·intro rec r i u H;simp only[Q103.s0,zceae5f];rw[show decide ((i:Int)<(AU m.2.2.2.2.2.2.2.2.1:Int))=true from bO (by omega:(i:Int)<(AU (aa.table m):Int)),show idx m.2.2.2.2.2.2.2.2.1 (i:Int)=some (aa.table m)[i] from ai u,au i (by omega)];simp only[cond_true,AT,su];rw[show (kn m).1=m.1 from rfl];cases M:(aa.table m)[i].1 != m.1 with
  |false=>rfl
  |true =>
   simp only[cond_true,Bi];rw[show Q87.f K (m.2.2.2.2.2.2.2.2.1,(aa.table m)[i].1,())=_ from ul K (aa.table m) _ J y (AW u) I];simp only[AT];cases ee (aa.table m)[i] with
   |false=>rfl
   |true =>
    simp only[cond_true];refine (congrArg (λo=>BB o _) (nv K (kn m) 5 (aa.table m)[i].1 y)).trans ?_;simp only[AT];rw[szw _ _ _ (by omega) (by simp;omega)];rfl
 ·intro rec r H;simp only[Q103.s0,zceae5f];rw[show decide ((AU (aa.table m):Int)<(AU m.2.2.2.2.2.2.2.2.1:Int))=false from bf _];rfl
theorem u6 {n:aa}(r:dB n):bC (n.1,n.2.2.2.2.1,4,n.2.2.2.1):=⟨r.1,r.2.2.2.2.1,show (1:Int)<=4 by omega,show (4:Int)<=4 by omega⟩
theorem zj (K:Nat)(n:aa)(J:NB n)(H:dB n)(z:n.2.1=true)(I:n.2.2.1=false)(u:1048577<K):Q103.f K (n,())=some ((mA n,ll (mA n),()),()):=by
 have r:=(H.up z).say;have y:=jV (b:=n.1) r (u6 H);simp only[Q103.f,Q103.pre,zc8f7ea];rw[z,I];simp only[BC,cond_false];rw[pe K n _ n.1 r u];exact sv K _ _ y.table y.lt u
theorem mB {α r A R:Type}(ds:List α)(st:r->α->r)(Inv:r->Prop)(S:r->Nat->A)(u:r->Option R){step:(A->Option R)->A->Option R}(n:r)(O:Inv n)
  (h:∀ (rec:A->Option R) (m:r) (i:Nat) (M:i<ds.length),Inv m->step rec (S m i)=rec (S (st m ds[i]) (i+1))/\Inv (st m ds[i]))
  (z:∀ (rec:A->Option R) (m:r),Inv m->step rec (S m ds.length)=u m) {k:Nat} (I:ds.length<k):ae step k (S n 0)=u (ds.foldl st n):=by
 have:∀ (d i k:Nat) (m:r),i+d=ds.length->d<k->Inv m->ae step k (S m i)=u ((ds.drop i).foldl st m):=by
  intro d;induction d with
  |zero =>
   intro i k m M I J;obtain⟨k,rfl⟩:∃ H,k=H+1:=⟨k-1,by omega⟩;have:i=ds.length:=by omega
   subst this;show step (ae step k) _=_;rw[z _ _ J,B8];rfl
  |succ d X =>
   intro i k m M I J;obtain⟨k,rfl⟩:∃ H,k=H+1:=⟨k-1,by omega⟩;have y:i<ds.length:=by omega
   show step (ae step k) _=_;obtain⟨Z,Y⟩:=h (ae step k) m i y J;rw[Z,BD y];exact X (i+1) k _ (by omega) (by omega) Y
 have:=this ds.length 0 k n (by omega) I O
 rwa [BR]at this
theorem lM {α r:Type}{st:r->α->r}{Inv:r->Prop}:∀ {ds:List α} {n:r},Inv n->(∀ m,∀ d∈ds,Inv m->Inv (st m d))->Inv (ds.foldl st n)
 |[],_,h,_=>h
 |d::ds,n,h,y=>lM (ds:=ds) (y n d (by simp) h) (λm z u=>y m z (by simp[u]))
def aT (t:List af)(r:Int):af:=(t.find? λg=>g.1==r).getD (0,0,0,false)
theorem ko {t:List af}(y:Asc (λg:af=>g.1) t){f:af}(r:f∈t):aT t f.1=f:=by
 obtain⟨i,u,e⟩:=BH r;unfold aT;rw[show t.find? (λg=>g.1==f.1)=some t[i] from oE y u (by rw[e]),e];rfl
theorem kp {t:List af}{r:Int}(h:∀ g∈t,g.1≠r):aT t r=(0,0,0,false):=by
 unfold aT;rw[show t.find? (λg=>g.1==r)=none from nr h];rfl
theorem sw (K:Nat)(t:List af)(r:Int)(z:aA t)(I:t.length<=1048576)(y:1048577<K):Q87.f K (t,r,())=rb (ee (aT t r)):=by
 by_cases h:∃ f∈t,f.1=r
 ·obtain⟨f,H,rfl⟩:=h;rw[ul K t f z I H y,ko z.2 H]
 ·have u:∀ g∈t,g.1≠r:=λg O e=>h ⟨g,O,e⟩
  simp only[Q87.f];obtain⟨o,J,M⟩:=eW K t r I y;rw[M,kp u];cases J with
  |at_ i R e=>exact absurd e (u _ (AW R))
  |no _=>rfl
theorem jW (n:aa)(f:af)(b:Int):(sayOf n f b).1=n.1/\(sayOf n f b).2.1=n.2.1/\(sayOf n f b).2.2.1=n.2.2.1/\(sayOf n f b).2.2.2.1=n.2.2.2.1/\(sayOf n f b).2.2.2.2.1=n.2.2.2.2.1/\(sayOf n f b).2.2.2.2.2.1=n.2.2.2.2.2.1/\(sayOf n f b).2.2.2.2.2.2.1=n.2.2.2.2.2.2.1/\(sayOf n f b).2.2.2.2.2.2.2.1=n.2.2.2.2.2.2.2.1/\aa.probe (sayOf n f b)=aa.probe n/\(sayOf n f b).2.2.2.2.2.2.2.2.2.2.2.2=n.2.2.2.2.2.2.2.2.2.2.2.2:=by
 obtain⟨t,c,r,e,_⟩:=jh n f b;rw[e];exact⟨rfl,rfl,rfl,rfl,rfl,rfl,rfl,rfl,rfl,rfl⟩
theorem mC {t:List af}{f g:af}(r:g∈t):∃ u∈(bY t f).1,u.1=g.1:=by
 rcases gH t f with e|e
 ·rw[e];exact⟨g,r,rfl⟩
 ·rw[e];by_cases h:g.1=f.1
  ·exact⟨f,aW.2 (.inl rfl),h.symm⟩
  ·exact⟨g,aW.2 (.inr ⟨r,h⟩),rfl⟩
theorem ji {n:aa}{f:af}{b:Int}{g:af}(r:g∈aa.table n):∃ u∈aa.table (sayOf n f b),u.1=g.1:=by
 obtain⟨t,c,z,e,y,_⟩:=jh n f b;rw[e];rcases y with rfl|rfl
 ·exact⟨g,r,rfl⟩
 ·exact mC r
def qb (u r:Int)(len:Nat):Bool:=decide (u-r>=if 6-(len:Int)+1<3 then 3 else 6-(len:Int)+1)
def kq (f:af):af:=(f.1,f.2.1,3,f.2.2.2)
def gX (n:aa)(d:ca):aa:=bif qb n.2.2.2.2.2.1 d.2.2.1 d.2.2.2.length then sayOf n (kq (aT (aa.table n) d.1)) n.1 else n
def jX (n:aa):aa:=(aa.doubts n).foldl gX n
theorem due_s (K:Nat)(r:Int)(d:ca)(u:0<=d.2.2.1)(H:d.2.2.1<=r)(y:r<=1000000)(z:d.2.2.2.length<=1048576):Q84.f K (r,d,())=rb (qb r d.2.2.1 d.2.2.2.length):=by
 simp only[Q84.f];rw[aJ (n:=6-(AU d.2.2.2:Int)) (by omega) (by omega),aJ (n:=6-(AU d.2.2.2:Int)+1) (by omega) (by omega),aJ (n:=r-d.2.2.1) (by omega) (by omega)];unfold qb;by_cases h:6-(AU d.2.2.2:Int)+1<3
 ·rw[decide_eq_true h,if_pos h];rfl
 ·rw[decide_eq_false h,if_neg h];rfl
structure pi (ds:List ca) (now:Int) (n:aa):Prop where
 ok:cH n
 key:∀ d∈ds,∃ f∈aa.table n,f.1=d.1
 now_:n.2.2.2.2.2.1=now
theorem um {f:af}(h:bC f):bC (kq f):=⟨h.1,h.2.1,show (1:Int)<=3 by omega,show (3:Int)<=4 by omega⟩
theorem eH {t:List af}{r:Int}(y:aA t)(h:∃ f∈t,f.1=r):bC (aT t r)/\(aT t r).1=r/\aT t r∈t:=by
 obtain⟨f,u,rfl⟩:=h;rw[ko y.2 u];exact⟨y.1 f u,rfl,u⟩
theorem tP {ds:List ca}{r:Int}{n:aa}{d:ca}(h:pi ds r n)(J:d∈ds):pi ds r (gX n d):=by
 unfold gX;cases qb n.2.2.2.2.2.1 d.2.2.1 d.2.2.2.length with
 |false=>exact h
 |true =>
  have I:=um (eH h.ok.table (h.key d J)).1;refine⟨jV h.ok I,λO y=>?_,(jW n _ _).2.2.2.2.2.1.trans h.now_⟩;obtain⟨g,M,e⟩:=h.key O y;obtain⟨H,u,z⟩:=ji (f:=kq (aT (aa.table n) d.1)) (b:=n.1) M;exact⟨H,u,z.trans e⟩
theorem Ag (K:Nat)(n:aa)(h:pi (aa.doubts n) n.2.2.2.2.2.1 n)(X:∀ d∈aa.doubts n,0<=d.2.2.1/\d.2.2.1<=n.2.2.2.2.2.1/\d.2.2.2.length<=1048576)(z:n.2.2.2.2.2.1<=1000000)(J:1048577<K):Q86.f K (n,())=some ((jX n,()),()):=by
 have hl:=h.ok.ld;refine mB (step:=λrec a=>Q86.s0 K (n,()) rec a) (aa.doubts n) gX (pi (aa.doubts n) n.2.2.2.2.2.1) (λm i=>((i:Int),m.1,m.2.1,m.2.2.1,m.2.2.2.1,m.2.2.2.2.1,m.2.2.2.2.2.1,m.2.2.2.2.2.2.1,m.2.2.2.2.2.2.2.1,m.2.2.2.2.2.2.2.2.1,m.2.2.2.2.2.2.2.2.2.1,m.2.2.2.2.2.2.2.2.2.2.1.1,m.2.2.2.2.2.2.2.2.2.2.1.2.1,m.2.2.2.2.2.2.2.2.2.2.1.2.2.1,m.2.2.2.2.2.2.2.2.2.2.1.2.2.2,m.2.2.2.2.2.2.2.2.2.2.2.1,m.2.2.2.2.2.2.2.2.2.2.2.2.1.1,m.2.2.2.2.2.2.2.2.2.2.2.2.1.2.1,m.2.2.2.2.2.2.2.2.2.2.2.2.1.2.2.1,m.2.2.2.2.2.2.2.2.2.2.2.2.1.2.2.2,m.2.2.2.2.2.2.2.2.2.2.2.2.2.1,m.2.2.2.2.2.2.2.2.2.2.2.2.2.2)) (λm=>some ((m,()),())) n h ?_ ?_ (by omega)
 ·intro rec m i H u;refine⟨?_,tP u (AW H)⟩;simp only[Q86.s0,zc286a0,zc3ec45];obtain⟨M,R,I⟩:=X _ (AW H);rw[show decide ((i:Int)<(AU n.2.2.2.2.2.2.2.2.2.2.2.1:Int))=true from bO (by omega:(i:Int)<(AU (aa.doubts n):Int)),show idx n.2.2.2.2.2.2.2.2.2.2.2.1 (i:Int)=some (aa.doubts n)[i] from ai H,au i (by omega)];simp only[cond_true,AT];rw[due_s K m.2.2.2.2.2.1 (aa.doubts n)[i] M (by rw[u.now_];exact R) (by rw[u.now_];exact z) I];simp only[AT];have r:=u.key _ (AW H);generalize (aa.doubts n)[i]=d at r M R I ⊢;unfold gX;cases qb m.2.2.2.2.2.1 d.2.2.1 d.2.2.2.length with
  |false=>rfl
  |true =>
   simp only[cond_true];have y:=eH u.ok.table r;obtain⟨o,Y,Z⟩:=eW K (aa.table m) d.1 u.ok.lt J;rw[show Q42.f K (m.2.2.2.2.2.2.2.2.1,d.1,())=_ from Z];simp only[AT];cases Y with
   |no h=>exact absurd r (λ⟨f,hf,e⟩=>h f hf e)
   |at_ j O e =>
    simp only;rw[show idx m.2.2.2.2.2.2.2.2.1 ((j:Nat):Int)=some (aa.table m)[j] from ai O,gW u.ok.table.2 (AW O) y.2.2 (by rw[e,y.2.1])];simp only[AT];refine (congrArg (λo=>BB o _) (pe K m (kq (aT (aa.table m) d.1)) m.1 u.ok J)).trans ?_;rfl
 ·intro rec m u;simp only[Q86.s0,zc286a0,zc3ec45];rw[show decide ((AU (aa.doubts n):Int)<(AU n.2.2.2.2.2.2.2.2.2.2.2.1:Int))=false from bf _];rfl
def setP (n:aa)(p:af):aa:=(n.1,n.2.1,n.2.2.1,n.2.2.2.1,n.2.2.2.2.1,n.2.2.2.2.2.1,n.2.2.2.2.2.2.1,n.2.2.2.2.2.2.2.1,n.2.2.2.2.2.2.2.2.1,n.2.2.2.2.2.2.2.2.2.1,p,n.2.2.2.2.2.2.2.2.2.2.2)
def noP:af:=(-1,0,0,false)
def pj (f:af):af:=(f.1,f.2.1,2,f.2.2.2)
def u7 (n:aa)(f:af):Bool:=f.2.2.1==1&&f.1 != n.1&&f.1 != (aa.probe n).1
def fg (n:aa):List Int:=(((aa.table n).filter (u7 n)).map (·.1)).take 2
def askW (n:aa)(to:Int):ap:=(1,3,n.1,to,(aa.probe n).2.2.1,(aa.probe n).1,aa.coord n,[])
def lm (n:aa):aa:=setP n ((aa.probe n).1,(aa.probe n).2.1,(aa.probe n).2.2.1,true)
def cZ (n:aa):aa×List ap :=
 bif (aa.probe n).1==-1 then (n,[]) else
 bif !ee (aT (aa.table n) (aa.probe n).1) then (setP n noP,[]) else
 bif decide (n.2.2.2.2.2.1-(aa.probe n).2.1>=4) then (bif (aT (aa.table n) (aa.probe n).1).2.2.1==1 then sayOf (setP n noP) (pj (aT (aa.table n) (aa.probe n).1)) n.1 else setP n noP,[]) else
 bif decide (n.2.2.2.2.2.1-(aa.probe n).2.1>=2) then (bif !(aa.probe n).2.2.2 then (lm n,(fg n).map (askW n)) else (n,[])) else (n,[])
theorem cH.setP {n:aa}(h:cH n)(p:af):cH (setP n p):=⟨h.table,h.cast,h.asc,h.inp,h.lt,h.lc,h.ld⟩
theorem zk {f:af}(h:bC f):bC (pj f):=⟨h.1,h.2.1,show (1:Int)<=2 by omega,show (2:Int)<=4 by omega⟩
theorem gI {t:List af}{r:Int}(h:ee (aT t r)=true):∃ f∈t,f.1=r:=by
 by_cases u:∃ f∈t,f.1=r
 ·exact u
 ·rw[kp (λg y e=>u ⟨g,y,e⟩)]at h;simp[ee]at h
theorem ww (K:Nat)(n:aa)(J:(aa.table n).length<=1048576)(I:1048577<K):Q88.f K (n,())=some ((fg n,()),()):=by
 have:=kJ (step:=λrec a=>Q88.s0 K (n,()) rec a) (aa.table n) (u7 n) (λf=>f.1) 2 (λH=>some ((H,()),())) ?_ ?_ ?_ (aa.table n).length 0 K [] (by omega) (by omega) (BP _) (by simp)
 ·exact this
 ·intro rec r i u y z;simp only[Q88.s0];rw[show decide ((i:Int)<(AU n.2.2.2.2.2.2.2.2.1:Int))=true from bO (by omega:(i:Int)<(AU (aa.table n):Int)),show idx n.2.2.2.2.2.2.2.2.1 (i:Int)=some (aa.table n)[i] from ai u,au i (by omega),decide_eq_true (by omega:(AU r:Int)<2)];simp only[cond_true,AT,u7];show (bif (aa.table n)[i].1 != n.1 then (bif (aa.table n)[i].1 != (aa.probe n).1 then (bif (aa.table n)[i].2.2.1==1 then (bif decide ((AU r+AU ([(aa.table n)[i].1]))*8<=ak) then (rec (r++([(aa.table n)[i].1]),((i+1:Nat):Int))) else none) else (rec (r,((i+1:Nat):Int)))) else (rec (r,((i+1:Nat):Int)))) else (rec (r,((i+1:Nat):Int))))=_;rw[szb _ _ _ (by omega) (by simp;omega)];cases (aa.table n)[i].1 != n.1 <;> cases (aa.table n)[i].1 != (aa.probe n).1 <;> cases (aa.table n)[i].2.2.1==1 <;> rfl
 ·intro rec r i u y z;simp only[Q88.s0];rw[show decide ((i:Int)<(AU n.2.2.2.2.2.2.2.2.1:Int))=true from bO (by omega:(i:Int)<(AU (aa.table n):Int)),decide_eq_false (by omega:¬ (AU r:Int)<2)];rfl
 ·intro rec r _;simp only[Q88.s0];rw[show decide ((AU (aa.table n):Int)<(AU n.2.2.2.2.2.2.2.2.1:Int))=false from bf _];rfl
theorem Ah (K:Nat)(n:aa)(h:cH n)(Z:(aa.probe n).1≠-1)(h0:0<=(aa.probe n).2.1)(h1:(aa.probe n).2.1<=1000000)(R:0<=n.2.2.2.2.2.1)(X:n.2.2.2.2.2.1<=1000000)(u:1048577<K) :
  Q89.f K (n,())=some (((cZ n).1,(cZ n).2,()),()):=by
 simp only[Q89.f,Q89.pre,zcp8,cZ];rw[show ((aa.probe n).1==-1)=false by simpa using Z];simp only[cond_false];rw[show Q87.f K (n.2.2.2.2.2.2.2.2.1,n.2.2.2.2.2.2.2.2.2.2.1.1,())=_ from sw K (aa.table n) (aa.probe n).1 h.table h.lt u];simp only[AT];cases O:ee (aT (aa.table n) (aa.probe n).1) with
 |false=>rfl
 |true =>
  have y:=eH h.table (gI O);simp only[BC,cond_false];rw[aJ (n:=n.2.2.2.2.2.1-n.2.2.2.2.2.2.2.2.2.2.1.2.1) (by show -9223372036854775808<=n.2.2.2.2.2.1-(aa.probe n).2.1;omega) (by show n.2.2.2.2.2.1-(aa.probe n).2.1<=9223372036854775807;omega)];show (bif decide (n.2.2.2.2.2.1-(aa.probe n).2.1>=4) then _ else _)=_;cases decide (n.2.2.2.2.2.1-(aa.probe n).2.1>=4) with
  |true =>
   simp only[cond_true];obtain⟨o,Y,e1⟩:=eW K (aa.table n) (aa.probe n).1 h.lt u;rw[show Q42.f K (n.2.2.2.2.2.2.2.2.1,n.2.2.2.2.2.2.2.2.2.2.1.1,())=_ from e1];simp only[AT];cases Y with
   |no z=>exact absurd (gI O) (λ⟨f,y,e⟩=>z f y e)
   |at_ j J e =>
    simp only;rw[show idx n.2.2.2.2.2.2.2.2.1 ((j:Nat):Int)=some (aa.table n)[j] from ai J,gW h.table.2 (AW J) y.2.2 (by rw[e,y.2.1])];simp only[AT];cases (aT (aa.table n) (aa.probe n).1).2.2.1==1 with
    |true =>
     simp only[cond_true];refine (congrArg (λo=>BB o _) (pe K (setP n noP) (pj (aT (aa.table n) (aa.probe n).1)) n.1 (h.setP noP) u)).trans ?_;rfl
    |false=>rfl
  |false =>
   simp only[cond_false];show (bif decide (n.2.2.2.2.2.1-(aa.probe n).2.1>=2) then _ else _)=_;cases decide (n.2.2.2.2.2.1-(aa.probe n).2.1>=2) with
   |false=>rfl
   |true =>
    simp only[cond_true];show (bif !(aa.probe n).2.2.2 then _ else _)=_;cases I:(aa.probe n).2.2.2 with
    |true=>rfl
    |false =>
     simp only[BV,cond_true];refine (congrArg (λo=>BB o _) (ww K (lm n) h.lt u)).trans ?_;simp only[AT];rw[show fg (lm n)=fg n from rfl];have H:(fg n).length<=2:=CO _ _;refine CY (qa (step:=λrec a=>Q89.s0 K (n,()) rec a) (fg n) (λ_=>true) (askW n) (λr i=>(r,fg n,(i:Int))) (λws=>some ((lm n,ws,()),())) ?_ ?_ (by omega)) (by rw[BL.2 (λ_ _=>rfl)])
     ·intro rec r i M ha;simp only[Q89.s0,zcp8];rw[bO (by omega:(i:Int)<(AU (fg n):Int)),ai M,au i (by omega),AY,ai M];simp only[cond_true,AT,Q41.f];rw[szb _ _ _ (by omega) (by simp)];simp only[cond_true,AT];rw[szw _ _ _ (by omega) (by simp;omega)];rfl
     ·intro rec r ha;simp only[Q89.s0,zcp8,bf];rfl
def gY (n:aa)(i:Int):aa:=(n.1,n.2.1,n.2.2.1,n.2.2.2.1,i,n.2.2.2.2.2)
def fq (n:aa)(f:af):aa:=bif decide (bE f (aT (aa.table n) n.1))&&decide (f.2.1<999) then sayOf (gY n (f.2.1+1)) (n.1,f.2.1+1,1,n.2.2.2.1) n.1 else n
def dQ (f:af)(b:Int)(d:ca):ca:=bif d.1==f.1&&d.2.1==f.2.1&&f.2.2.1==2 then (d.1,d.2.1,d.2.2.1,bM (λx:Int=>x) b d.2.2.2) else d
def kr (n:aa)(f:af)(b:Int):aa:=iM n (aa.table n) (aa.cast n) ((aa.doubts n).map (dQ f b))
def dV (b:Int)(n:aa)(f:af):aa:=bif f.1==n.1 then fq n f else kr (sayOf n f b) f b
def iN (n:aa)(t:List af)(b:Int):aa:=t.foldl (dV b) n
def lN (l:List Int):Prop:=Asc (λx:Int=>x) l/\∀ x∈l,InP x 0 7
theorem lN.len {l:List Int}(h:lN l):l.length<=8:=it h.1 h.2
theorem lN.put {l:List Int}{b:Int}(h:lN l)(u:InP b 0 7):lN (bM (λx:Int=>x) b l) :=
 ⟨eN h.1,λx r=>by
  rcases aW.1 r with rfl|⟨r,_⟩
  ·exact u
  ·exact h.2 x r⟩
structure d7 (n:aa):Prop where
 say:cH n
 me:InP n.1 0 7
 has:∃ g∈aa.table n,g.1=n.1
 by_:∀ d∈aa.doubts n,lN d.2.2.2
theorem cH.inc {n:aa}(h:cH n)(i:Int):cH (gY n i):=⟨h.table,h.cast,h.asc,h.inp,h.lt,h.lc,h.ld⟩
theorem lO {n:aa}{f:af}{b:Int}(H:InP b 0 7)(h:∀ d∈aa.doubts n,lN d.2.2.2):∀ d∈aa.doubts (sayOf n f b),lN d.2.2.2:=by
 obtain⟨t,c,z,e,_,_,y⟩:=jh n f b;rw[e];intro d r;have r:d∈z:=r;rcases y with rfl|rfl
 ·exact h d r
 ·rcases mz r with rfl|r
  ·exact⟨CI _ _,λx u=>by rw[BN.1 u];exact H⟩
  ·exact h d r
theorem un {n:aa}{f:af}(u:InP n.1 0 7)(r:bC f)(h:f.2.1<999):bC (n.1,f.2.1+1,1,n.2.2.2.1):=by
 obtain⟨_,⟨z,y⟩,_⟩:=r;exact⟨u,⟨show (0:Int)<=f.2.1+1 by omega,show f.2.1+1<=999 by omega⟩,show (1:Int)<=1 by omega,show (1:Int)<=4 by omega⟩
theorem d7.refute {n:aa}{f:af}(h:d7 n)(I:bC f):d7 (fq n f):=by
 unfold fq;cases y:decide (bE f (aT (aa.table n) n.1))&&decide (f.2.1<999) with
 |false=>exact h
 |true =>
  have M:f.2.1<999:=by
   rw[Bc]at y;exact of_decide_eq_true y.2
  obtain⟨z,_⟩:=jW (gY n (f.2.1+1)) (n.1,f.2.1+1,1,n.2.2.2.1) n.1;refine⟨jV (h.say.inc _) (un h.me I M),?_,?_,lO h.me h.by_⟩
  ·show InP (sayOf (gY n (f.2.1+1)) (n.1,f.2.1+1,1,n.2.2.2.1) n.1).1 0 7;rw[z];exact h.me
  ·obtain⟨g,J,e⟩:=h.has;obtain⟨u,r,H⟩:=ji (n:=gY n (f.2.1+1)) (f:=(n.1,f.2.1+1,1,n.2.2.2.1)) (b:=n.1) (g:=g) J;refine⟨u,r,?_⟩;show u.1=(sayOf (gY n (f.2.1+1)) (n.1,f.2.1+1,1,n.2.2.2.1) n.1).1;rw[z,H,e];rfl
theorem d7.confirm {n:aa}{f:af}{b:Int}(h:d7 n)(Z:bC f)(M:InP b 0 7):d7 (kr (sayOf n f b) f b):=by
 have u:=jV (b:=b) h.say Z;obtain⟨O,_⟩:=jW n f b;have z:=lO (f:=f) M h.by_;obtain⟨g,Y,e⟩:=h.has;obtain⟨R,I,X⟩:=ji (n:=n) (f:=f) (b:=b) Y;have J:∀ d,(dQ f b d).1=d.1:=λd=>by unfold dQ;cases d.1==f.1&&d.2.1==f.2.1&&f.2.2.1==2 <;> rfl
 refine⟨⟨u.table,u.cast,?_,λd H=>?_,u.lt,u.lc,?_⟩,?_,⟨R,I,?_⟩,λd H=>?_⟩
 ·show Asc (λd:ca=>d.1) ((aa.doubts (sayOf n f b)).map (dQ f b));unfold Asc;rw[BY];exact u.asc.imp λ {a c} h=>by show (dQ f b a).1<(dQ f b c).1;rw[J,J];exact h
 ·obtain⟨y,r,rfl⟩:=BQ.1 H;rw[J];exact u.inp y r
 ·show ((aa.doubts (sayOf n f b)).map (dQ f b)).length<=_;rw[BW];exact u.ld
 ·show InP (sayOf n f b).1 0 7;rw[O];exact h.me
 ·show R.1=(sayOf n f b).1;rw[O,X,e]
 ·obtain⟨y,r,rfl⟩:=BQ.1 H;unfold dQ;cases y.1==f.1&&y.2.1==f.2.1&&f.2.2.1==2 with
  |false=>exact z y r
  |true=>exact (z y r).put M
theorem d7.step {n:aa}{f:af}{b:Int}(h:d7 n)(r:bC f)(u:InP b 0 7):d7 (dV b n f):=by
 unfold dV;cases f.1==n.1 with
 |true=>exact h.refute r
 |false=>exact h.confirm r u
theorem xW {α A R:Type}(ds:List α)(g:α->α)(S:List α->Nat->A)(u:List α->Option R){step:(A->Option R)->A->Option R}
  (h:∀ (rec:A->Option R) (cur:List α) (i:Nat) (X:i<ds.length),cur.length=ds.length->cur[i]?=some ds[i]->step rec (S cur i)=rec (S (cur.set i (g ds[i])) (i+1)))
  (z:∀ (rec:A->Option R) (cur:List α),cur.length=ds.length->step rec (S cur ds.length)=u cur) {k:Nat} (M:ds.length<k):ae step k (S ds 0)=u (ds.map g):=by
 have:∀ (d i k:Nat) (cur:List α),i+d=ds.length->d<k->cur.length=ds.length->(∀ j,(r:j<ds.length)->cur[j]?=some (if j<i then g ds[j] else ds[j]))->ae step k (S cur i)=u (ds.map g):=by
  intro d;induction d with
  |zero =>
   intro i k cur X M I H;obtain⟨k,rfl⟩:∃ J,k=J+1:=⟨k-1,by omega⟩;have:i=ds.length:=by omega
   subst this;show step (ae step k) _=_;rw[z _ _ I];congr 1;refine List.ext_getElem? λj=>?_
   rw[List.getElem?_map];by_cases r:j<ds.length
   ·rw[H j r,if_pos r,BF r];rfl
   ·rw[Bs (by omega),Bs (by omega)];rfl
  |succ d Y =>
   intro i k cur X M I H;obtain⟨k,rfl⟩:∃ J,k=J+1:=⟨k-1,by omega⟩;have y:i<ds.length:=by omega
   show step (ae step k) _=_;rw[h (ae step k) cur i y I (by rw[H i y,if_neg (by omega)])];refine Y (i+1) k _ (by omega) (by omega) (by rw[Ch,I]) λj r=>?_
   rw[List.getElem?_set];by_cases e:i=j
   ·subst e;rw[if_pos rfl,if_pos (by omega),if_pos (by omega)]
   ·rw[if_neg e,H j r];by_cases O:j<i
    ·rw[if_pos O,if_pos (by omega)]
    ·rw[if_neg O,if_neg (by omega)]
 exact this ds.length 0 k ds (by omega) M rfl (λj r=>by rw[if_neg (by omega),BF r])
theorem sx {α:Type}{cur:List α}{i:Nat}{x:α}(h:cur[i]?=some x):cur.set i x=cur:=by
 obtain⟨r,e⟩:=List.getElem?_eq_some_iff.1 h;rw[<- e,List.set_getElem_self]
theorem sy {by_:List Int}{b:Int}{m:Nat}(y:m<=by_.length)(u:by_.length<=8){R:Type}(G:List Int->Option R) :
  (bif decide ((0:Int)<=0)&&decide ((0:Int)<=(m:Int))&&decide ((m:Int)<=(AU by_:Int))&&true then (bif decide ((AU ([]:List Int)+AU ((by_.take (AV (m:Int))).drop (AV 0)))*8<=ak) then (bif decide ((AU ([]++((by_.take (AV (m:Int))).drop (AV 0)))+AU ([b]))*8<=ak) then (bif decide ((0:Int)<=(m:Int))&&decide ((m:Int)<=(AU by_:Int))&&decide ((AU by_:Int)<=(AU by_:Int))&&true then (bif decide ((AU (([]++((by_.take (AV (m:Int))).drop (AV 0)))++([b]))+AU ((by_.take (AV (AU by_:Int))).drop (AV (m:Int))))*8<=ak) then G ((([]++((by_.take (AV (m:Int))).drop (AV 0)))++([b]))++((by_.take (AV (AU by_:Int))).drop (AV (m:Int)))) else none) else none) else none) else none) else none)=G (by_.take m++[b]++by_.drop m):=by
 rw[decide_eq_true (by omega:(0:Int)<=0),decide_eq_true (by omega:(0:Int)<=(m:Int)),decide_eq_true (by omega:(m:Int)<=(AU by_:Int)),decide_eq_true (by omega:(AU by_:Int)<=(AU by_:Int))];simp only[AY,B3,BR,BJ,Bj,Bz,cond_true];have z:(by_.take m).length=m:=by rw[BS];omega
 have r:(by_.drop m).length=by_.length-m:=BX;rw[szb _ _ _ (by omega) (by simp only[BI];omega),szb _ _ _ (by omega) (by simp only[AZ,BI];omega),szb _ _ _ (by omega) (by simp only[BG,AZ,BI];omega)];rfl
theorem wz (K:Nat)(n:aa)(f:af)(b:Int)(hd:∀ d∈aa.doubts n,lN d.2.2.2)(hl:(aa.doubts n).length<=1048576)(hK:1048577<K):Q49.f K (n,f,b,())=some ((kr n f b,()),()):=by
 simp only[Q49.f,Q49.pre];refine xW (step:=λrec a=>Q49.s0 K (n,f,b,()) (Q49.l1 K (n,f,b,()) rec) rec a) (aa.doubts n) (dQ f b) (λu i=>((i:Int),u)) (λu=>some ((iM n (aa.table n) (aa.cast n) u,()),())) ?_ ?_ (by omega)
 ·intro rec u i hi X I;have M:i<u.length:=by omega
  have a2:u[i]=(aa.doubts n)[i]:=by
   rw[BF M]at I;exact Option.some.inj I
  have R:=hd _ (AW hi);simp only[Q49.s0,zcp8];rw[bO (by omega:(i:Int)<(AU u:Int)),ai M,au i (by omega),AY,ai M,a2];simp only[cond_true,AT];generalize ad:(aa.doubts n)[i]=d at R I ⊢;have y:rec (((i+1:Nat):Int),u)=rec (((i+1:Nat):Int),u.set i d):=by rw[sx I]
  unfold dQ;by_cases h1:d.1=f.1
  case neg =>
   rw[show (d.1 != f.1)=true by simpa using h1,show (d.1==f.1)=false by simpa using h1];exact y
  by_cases h2:d.2.1=f.2.1
  case neg =>
   rw[show (d.1 != f.1)=false by simpa using h1,show (d.2.1 != f.2.1)=true by simpa using h2,show (d.2.1==f.2.1)=false by simpa using h2,Ck];exact y
  by_cases h3:f.2.2.1=2
  case neg =>
   rw[show (d.1 != f.1)=false by simpa using h1,show (d.2.1 != f.2.1)=false by simpa using h2,show (f.2.2.1 != 2)=true by simpa using h3,show (f.2.2.1==2)=false by simpa using h3,Ck];exact y
  rw[show (d.1 != f.1)=false by simpa using h1,show (d.2.1 != f.2.1)=false by simpa using h2,show (f.2.2.1 != 2)=false by simpa using h3,show (d.1==f.1)=true by simpa using h1,show (d.2.1==f.2.1)=true by simpa using h2,show (f.2.2.1==2)=true by simpa using h3];simp only[cond_false,Bz,cond_true];have a0:=R.len;have a1:∀ m:Nat,m<=d.2.2.2.length->(∀ j,(J:j<d.2.2.2.length)->j<m->d.2.2.2[j]<b)->(∀ j,(J:j<d.2.2.2.length)->m<=j->b<d.2.2.2[j])->d.2.2.2.take m++[b]++d.2.2.2.drop m=bM (λx:Int=>x) b d.2.2.2:=λm Z lo hi=>oD (k:=λx:Int=>x) Z lo hi
  have:=cG (step:=λr a=>Q49.s1 K (n,f,b,()) rec r a) d.2.2.2.length (λj=>((i:Int),(j:Int),u,d.1,d.2.1,d.2.2.1,d.2.2.2)) (λj=>∃ h:j<d.2.2.2.length,¬ d.2.2.2[j]<b)
   (rec (((i+1:Nat):Int),u.set i (d.1,d.2.1,d.2.2.1,d.2.2.2.take d.2.2.2.length++[b]++d.2.2.2.drop d.2.2.2.length)))
   (λj=>if h:j<d.2.2.2.length then (if d.2.2.2[j]=b then rec (((i+1:Nat):Int),u) else rec (((i+1:Nat):Int),u.set i (d.1,d.2.1,d.2.2.1,d.2.2.2.take j++[b]++d.2.2.2.drop j))) else none) ?_ ?_ d.2.2.2.length K 0 (by omega) (by omega)
  ·rcases this with ⟨a6,he⟩|⟨j,_,J,⟨Y,a9⟩,a3,he⟩
   ·refine CY he ?_;rw[a1 _ (BP _) (λj J _=>by
     by_cases O:d.2.2.2[j]<b
     ·exact O
     ·exact absurd ⟨J,O⟩ (a6 j (Bd _) J)) (λj J Z=>by omega)]
   ·refine CY he ?_;rw[dif_pos Y];have lo:∀ m,(Z:m<d.2.2.2.length)->m<j->d.2.2.2[m]<b:=λm Z a4=>by
     by_cases O:d.2.2.2[m]<b
     ·exact O
     ·exact absurd ⟨Z,O⟩ (a3 m (Bd _) a4)
    by_cases H:d.2.2.2[j]=b
    ·rw[if_pos H,<- oC (k:=λx:Int=>x) R.1 Y H];rw[show d.2.2.2.set j b=d.2.2.2 from sx (by rw[BF Y,H])];exact y
    ·rw[if_neg H,a1 j (by omega) lo (λm Z a5=>by
      rcases Bq a5 with h4|rfl
      ·have:=eA.1 R.1 j m (by omega) Z h4;omega
      ·omega)]
  ·intro r j J;simp only[Q49.s1];rw[bO (by omega:(j:Int)<(AU d.2.2.2:Int)),ai J,au j (by omega)];simp only[cond_true,AT];by_cases O:d.2.2.2[j]<b
   ·left;refine⟨λ⟨_,h⟩=>h O,?_⟩;rw[decide_eq_true O];rfl
   ·right;refine⟨⟨J,O⟩,?_⟩;rw[decide_eq_false O,show ((j:Int)==(AU d.2.2.2:Int))=false by simp;omega,dif_pos J];simp only[cond_false];by_cases H:d.2.2.2[j]=b
    ·rw[if_pos H,show (d.2.2.2[j] != b)=false by simpa using H,au i (by omega)];rfl
    ·rw[if_neg H,show (d.2.2.2[j] != b)=true by simpa using H];simp only[cond_true];refine (sy (m:=j) (b:=b) (Nat.le_of_lt J) a0 (λz=>(idx u (i:Int)).bind λ_=>(idx u (AV (i:Int):Nat)).bind λ_=>rec (wr .i64 ((i:Int)+1),u.set (AV (i:Int)) (d.1,(d.2.1,(d.2.2.1,z)))))).trans ?_;rw[AY,ai M,au i (by omega)];rfl
  ·intro r;simp only[Q49.s1];rw[bf];simp only[cond_false,beq_self_eq_true,cond_true];refine (sy (b:=b) (BP _) a0 (λz=>(idx u (i:Int)).bind λ_=>(idx u (AV (i:Int):Nat)).bind λ_=>rec (wr .i64 ((i:Int)+1),u.set (AV (i:Int)) (d.1,(d.2.1,(d.2.2.1,z)))))).trans ?_;rw[AY,ai M,au i (by omega)];rfl
 ·intro rec u X;simp only[Q49.s0,zcp8];rw[<- X,bf];rfl
theorem xX (K:Nat)(n:aa)(f:af)(h:d7 n)(O:bC f)(y:1048577<K):Q48.f K (n,f,())=some ((fq n f,()),()):=by
 simp only[Q48.f,zcp4];have r:=eH h.say.table h.has;obtain⟨o,I,J⟩:=eW K (aa.table n) n.1 h.say.lt y;rw[show Q42.f K (n.2.2.2.2.2.2.2.2.1,n.1,())=_ from J];simp only[AT];cases I with
 |no u=>exact absurd h.has (λ⟨g,M,e⟩=>u g M e)
 |at_ j z e =>
  simp only;rw[show idx n.2.2.2.2.2.2.2.2.1 ((j:Nat):Int)=some (aa.table n)[j] from ai z,gW h.say.table.2 (AW z) r.2.2 (by rw[e,r.2.1])];simp only[AT];rw[pd];obtain⟨_,⟨R,X⟩,_⟩:=O;simp only[rb,AT,fq];cases decide (bE f (aT (aa.table n) n.1)) with
  |false=>rfl
  |true =>
   simp only[BC,cond_false,Bi];by_cases H:f.2.1<999
   ·rw[decide_eq_false (by omega:¬ f.2.1>=999),decide_eq_true H,aJ (by omega) (by omega)];simp only[cond_false,cond_true];refine (congrArg (λo=>BB o _) (pe K (gY n (f.2.1+1)) (n.1,f.2.1+1,1,n.2.2.2.1) n.1 (h.say.inc _) y)).trans ?_;rfl
   ·rw[decide_eq_true (by omega:f.2.1>=999),decide_eq_false H];rfl
theorem uo (K:Nat)(n:aa)(t:List af)(b:Int)(h:d7 n)(I:∀ f∈t,bC f)(J:t.length<=1048576)(z:InP b 0 7)(y:1048577<K):Q50.f K (n,t,b,())=some ((iN n t b,()),()):=by
 refine mB (step:=λrec a=>Q50.s0 K (n,t,b,()) rec a) t (dV b) d7 (λm i=>((i:Int),m.1,m.2.1,m.2.2.1,m.2.2.2.1,m.2.2.2.2.1,m.2.2.2.2.2.1,m.2.2.2.2.2.2.1,m.2.2.2.2.2.2.2.1,m.2.2.2.2.2.2.2.2.1,m.2.2.2.2.2.2.2.2.2.1,m.2.2.2.2.2.2.2.2.2.2.1.1,m.2.2.2.2.2.2.2.2.2.2.1.2.1,m.2.2.2.2.2.2.2.2.2.2.1.2.2.1,m.2.2.2.2.2.2.2.2.2.2.1.2.2.2,m.2.2.2.2.2.2.2.2.2.2.2.1,m.2.2.2.2.2.2.2.2.2.2.2.2.1.1,m.2.2.2.2.2.2.2.2.2.2.2.2.1.2.1,m.2.2.2.2.2.2.2.2.2.2.2.2.1.2.2.1,m.2.2.2.2.2.2.2.2.2.2.2.2.1.2.2.2,m.2.2.2.2.2.2.2.2.2.2.2.2.2.1,m.2.2.2.2.2.2.2.2.2.2.2.2.2.2)) (λm=>some ((m,()),())) n h ?_ ?_ (by omega)
 ·intro rec m i H r;have u:=I _ (AW H);refine⟨?_,r.step u z⟩;simp only[Q50.s0,zc286a0,zc3ec45];rw[bO (by omega:(i:Int)<(AU t:Int)),ai H,au i (by omega)];simp only[cond_true,AT];generalize t[i]=f at u ⊢;unfold dV;cases f.1==m.1 with
  |true =>
   simp only[cond_true];refine (congrArg (λo=>BB o _) (xX K m f r u y)).trans ?_;rfl
  |false =>
   simp only[cond_false];refine (congrArg (λo=>BB o _) (pe K m f b r.say y)).trans ?_;simp only[AT];rw[wz K (sayOf m f b) f b (lO z r.by_) (jV r.say u).ld y];rfl
 ·intro rec m r;simp only[Q50.s0,zc286a0,zc3ec45];rw[bf];rfl
def eO {α:Type}(r:α->α->Bool)(x:α):List α->List α->List α
 |[],B=>x::B
 |y::A,B=>bif r x y then eO r x A (y::B) else (y::A).reverse++x::B
def di {α:Type}(r:α->α->Bool):List α->List α->List α
 |done,[]=>done
 |done,x::u=>di r (eO r x done.reverse []) u
theorem sA {α:Type}(r:α->α->Bool)(x:α):∀ (A B C:List α),eO r x A (B++C)=eO r x A B++C
 |[],B,C=>rfl
 |y::A,B,C=>by
  simp only[eO];cases r x y with
  |true=>exact sA r x A (y::B) C
  |false=>simp
theorem sC {α:Type}(r:α->α->Bool)(x:α):∀ (A B:List α),(eO r x A B).length=A.length+B.length+1
 |[],B=>by simp[eO]
 |y::A,B=>by
  simp only[eO];cases r x y with
  |true=>simp only[cond_true];rw[sC r x A (y::B)];simp;omega
  |false=>simp;omega
theorem qG {α:Type}(r:α->α->Bool)(x:α):∀ (A B:List α),(eO r x A B).Perm (x::(A.reverse++B))
 |[],B=>by simp[eO]
 |y::A,B=>by
  simp only[eO];cases r x y with
  |true=>exact (qG r x A (y::B)).trans (by simp)
  |false=>simp only[cond_false];exact Cb
theorem iu {α:Type}(r:α->α->Bool):∀ (xs done:List α),(di r done xs).Perm (done++xs)
 |[],done=>by simp[di]
 |x::xs,done=>by
  simp only[di];refine (iu r xs _).trans ?_;have:=qG r x done.reverse [];simp only[Be,BE]at this;exact (this.append_right xs).trans (by simpa using (Cb (a:=x) (l₁:=done) (l₂:=xs)).symm)
def iO {α:Type}(r:α->α->Bool)(xs:List α):Prop:=xs.Pairwise λa b=>r b a=false
theorem kL {α:Type}(r:α->α->Bool)(I:∀ a b c,r a b=false->r b c=false->r a c=false)(x:α) :
  ∀ (A B:List α),iO r A.reverse->eO r x A B=(A.reverse.filter λy=>!r x y)++x::((A.reverse.filter λy=>r x y)++B)
 |[],B,_=>rfl
 |y::A,B,h=>by
  simp only[eO];have J:iO r A.reverse:=by
   unfold iO at h ⊢;rw[Bu,Bm]at h;exact h.1
  cases z:r x y with
  |true =>
   simp only[cond_true];rw[kL r I x A (y::B) J];simp[z,Bb]
  |false =>
   have H:∀ a∈A.reverse,r x a=false:=λa u=>by
    unfold iO at h;rw[Bu,Bm]at h;exact I x y a z (h.2.2 a u y (by simp))
   simp only[cond_false];have O:(y::A).reverse.filter (λy=>!r x y)=(y::A).reverse:=BL.2 λa u=>by
    rw[Bu,Bh,BN]at u;rcases u with u|rfl
    ·rw[H a u];rfl
    ·rw[z];rfl
   have M:(y::A).reverse.filter (λy=>r x y)=[]:=BM.2 λa u=>by
    rw[Bu,Bh,BN]at u;rcases u with u|rfl
    ·rw[H a u];simp
    ·rw[z];simp
   rw[O,M];rfl
theorem u9 {α:Type}(r:α->α->Bool)(I:∀ a b c,r a b=false->r b c=false->r a c=false)(u:∀ a b,r a b=true->r b a=false)(x:α)(A:List α)(h:iO r A):iO r (eO r x A.reverse []):=by
 rw[kL r I x A.reverse [] (by rwa [Be])];unfold iO at h ⊢;simp only[Be,BE];rw[Bm];refine⟨h.filter _,?_,?_⟩
 ·rw[BK];refine⟨λa y=>?_,h.filter _⟩;exact u _ _ (by simpa using (BA.1 y).2)
 ·intro a y b z;have H:r x a=false:=by simpa using (BA.1 y).2
  rcases Bo.1 z with rfl|z
  ·exact H
  ·have J:r x b=true:=by simpa using (BA.1 z).2
   exact I b x a (u _ _ J) H
theorem mD {α:Type}(r:α->α->Bool)(y:∀ a b c,r a b=false->r b c=false->r a c=false)(u:∀ a b,r a b=true->r b a=false):∀ (xs done:List α),iO r done->iO r (di r done xs)
 |[],done,h=>h
 |x::xs,done,h=>mD r y u xs _ (u9 r y u x done h)
theorem iZ {α:Type}(J:α->α->Bool):∀ {H u:List α},H.Perm u->iO J H->u.Pairwise (λa b=>J a b=true)->H=u
 |H,[],r,_,_=>r.eq_nil
 |[],z::u,r,_,_=>absurd r.symm.eq_nil (by simp)
 |y::H,z::u,r,I,M=>by
  unfold iO at I;rw[BK]at I M;have e:y=z:=by
   rcases Bo.1 (r.mem_iff.1 (CU ..)) with h|h
   ·exact h
   ·have R:=M.1 y h;rcases Bo.1 (r.symm.mem_iff.1 (CU ..)) with O|O
    ·exact O.symm
    ·rw[I.1 z O]at R;cases R
  subst e;rw[iZ J r.cons_inv I.2 M.2]
abbrev SoR (α:Type):=Unit×(List α×Unit)
theorem va {α R:Type}(z:α->α->Bool)(i:Int)(r:List α×Int->Option R){step:(List α×Int×Int->Option R)->List α×Int×Int->Option R}
  (h:∀ (rec:List α×Int×Int->Option R) (A:List α) (y x:α) (B:List α),A.length+B.length<=1048576->step rec (A++y::x::B,i,((A.length+1:Nat):Int))=bif z x y then rec (A++x::y::B,i,(A.length:Int)) else r (A++y::x::B,wr .i64 (i+1)))
  (O:∀ (rec:List α×Int×Int->Option R) (M:List α),step rec (M,i,0)=r (M,wr .i64 (i+1))) :
  ∀ (A B:List α) (x:α) (k:Nat),A.length+B.length<=1048576->A.length<k->ae step k (A.reverse++x::B,i,(A.length:Int))=r (eO z x A B,wr .i64 (i+1)):=by
 intro A;induction A with
 |nil =>
  intro B x k J H;obtain⟨k,rfl⟩:∃ u,k=u+1:=⟨k-1,by simp at H;omega⟩;exact O (ae step k) (x::B)
 |cons y A X =>
  intro B x k J H;simp only[AZ]at H J;obtain⟨k,rfl⟩:∃ u,k=u+1:=⟨k-1,by omega⟩;have I:=h (ae step k) A.reverse y x B (by simp;omega);simp only[CP]at I;show step (ae step k) _=_;rw[Bu,Bl];simp only[AZ,List.cons_append,BJ,eO];rw[I];cases z x y with
  |true=>exact X (y::B) x k (by simp;omega) (by omega)
  |false=>simp
theorem tQ {α:Type}(r:α->α->Bool){step:(List α×Int->Option (SoR α))->List α×Int->Option (SoR α)}(n:Nat)(O:n<=1048576)
  (h:∀ (rec:List α×Int->Option (SoR α)) (done:List α) (x:α) (xs:List α),done.length+1+xs.length=n->step rec (done++x::xs,(done.length:Int))=rec (eO r x done.reverse xs,wr .i64 ((done.length:Int)+1)))
  (J:∀ (rec:List α×Int->Option (SoR α)) (I:List α) (i:Int),(n:Int)<=i->step rec (I,i)=some ((),(I,()))) :
  ∀ (xs done:List α) (k:Nat),done.length+xs.length=n->xs.length<k->ae step k (done++xs,(done.length:Int))=some ((),(di r done xs,())):=by
 intro xs;induction xs with
 |nil =>
  intro done k y H;obtain⟨k,rfl⟩:∃ u,k=u+1:=⟨k-1,by omega⟩;show step (ae step k) _=_;rw[J _ _ _ (by simp at y;omega)];simp[di]
 |cons x xs M =>
  intro done k y H;simp only[AZ]at H y;obtain⟨k,rfl⟩:∃ u,k=u+1:=⟨k-1,by omega⟩;show step (ae step k) _=_;rw[h _ _ _ _ (by omega),au _ (by omega)];have e:eO r x done.reverse xs=eO r x done.reverse []++xs:=sA r x done.reverse [] xs;have z:(eO r x done.reverse []).length=done.length+1:=by rw[sC];simp
  rw[e,<- z];exact M _ k (by rw[z];omega) (by omega)
theorem xY {α:Type}(u:α->α->Bool){step:(List α×Int->Option (SoR α))->List α×Int->Option (SoR α)}(xs:List α)(I:xs.length<=1048576)
  (h:∀ (rec:List α×Int->Option (SoR α)) (done:List α) (x:α) (r:List α),done.length+1+r.length=xs.length->step rec (done++x::r,(done.length:Int))=rec (eO u x done.reverse r,wr .i64 ((done.length:Int)+1)))
  (y:∀ (rec:List α×Int->Option (SoR α)) (H:List α) (i:Int),(xs.length:Int)<=i->step rec (H,i)=some ((),(H,()))) {k:Nat} (z:xs.length<k) :
  ae step k (xs,1)=some ((),(di u [] xs,())):=by
 cases xs with
 |nil =>
  obtain⟨k,rfl⟩:∃ J,k=J+1:=⟨k-1,by simp at z;omega⟩;exact y (ae step k) [] 1 (by simp)
 |cons x xs =>
  simp only[AZ]at z;have:=tQ u (xs.length+1) (by simpa using I) h y xs [x] k (by simp;omega) (by omega);exact this
theorem zl {α:Type}(A B:List α)(x:α):idx (A++x::B) (A.length:Int)=some x:=by
 rw[pZ];simp
theorem xZ {α:Type}(A B:List α)(y x:α):idx (A++y::x::B) ((A.length+1:Nat):Int)=some x:=by
 rw[pZ];simp[List.getElem?_append_right]
theorem zm {α:Type}(A B:List α)(x v:α):(A++x::B).set A.length v=A++v::B:=by simp
theorem x6 {α:Type}(A B:List α)(y x v:α):(A++y::x::B).set (A.length+1) v=A++y::v::B:=by
 simp[List.set_append_right]
def dL (l:List aV)(i:Int):Int:=((l[i.toNat]?).map (·.2)).getD 0
def ltL (l:List aV)(a b:Int):Bool:=decide (dL l b<dL l a)
def lt2 (l:List aV)(a b:Int):Prop:=dL l b<dL l a\/(dL l a=dL l b/\a<b)
def eZ (n:Nat):List Int:=(List.range n).map λ (i:Nat)=>(i:Int)
def bK (l:List aV):List Int:=di (ltL l) [] (eZ l.length)
theorem oG {n:Nat}{i:Int}:i∈eZ n<->0<=i/\i<n:=by
 unfold eZ;rw[BQ];constructor
 ·rintro⟨j,hj,rfl⟩;have:=Cl.1 hj;omega
 ·rintro⟨h0,h1⟩;exact⟨i.toNat,Cl.2 (by omega),by omega⟩
theorem sD (n:Nat):(eZ n).Pairwise (·<·):=by
 unfold eZ;rw[BY];exact List.pairwise_lt_range.imp λh=>by omega
theorem eJ {l:List aV}{i:Nat}(h:i<l.length):dL l (i:Int)=l[i].2:=by
 unfold dL;rw[AY,BF h];rfl
theorem sE (l:List aV):∀ (xs done:List Int),done.Pairwise (lt2 l)->(∀ a∈done,∀ b∈xs,a<b)->xs.Pairwise (·<·)->(di (ltL l) done xs).Pairwise (lt2 l)
 |[],done,h,_,_=>h
 |x::xs,done,h,H,J=>by
  have z:=BK.1 J;have R:iO (ltL l) done:=h.imp λ {a b} M=>by
   unfold ltL;rw[decide_eq_false_iff_not];rcases M with y|⟨y,_⟩ <;> omega
  have e:=kL (ltL l) (λa b c y I=>by
   unfold ltL at y I ⊢;rw[decide_eq_false_iff_not]at y I ⊢;omega) x done.reverse [] (by rw[Be];exact R)
  rw[Be,BE]at e;simp only[di];rw[e];refine sE l xs _ ?_ ?_ z.2
  ·rw[Bm,BK];refine⟨h.filter _,⟨λb u=>?_,h.filter _⟩,λa r b u=>?_⟩
   ·have y:ltL l x b=true:=by simpa using (BA.1 u).2
    exact .inl (by simpa[ltL]using y)
   ·have y:ltL l x a=false:=by simpa using (BA.1 r).2
    have Y:¬ dL l a<dL l x:=by simpa[ltL]using y
    have O:=H a (BA.1 r).1 x (by simp);rcases Bo.1 u with rfl|u
    ·by_cases I:dL l b<dL l a
     ·exact .inl I
     ·exact .inr ⟨by omega,O⟩
    ·have I:ltL l x b=true:=by simpa using (BA.1 u).2
     have X:dL l b<dL l x:=by simpa[ltL]using I
     exact .inl (by omega)
  ·intro a r b u;rcases Bh.1 r with r|r
   ·exact H a (BA.1 r).1 b (by simp[u])
   ·rcases Bo.1 r with rfl|r
    ·exact z.1 b u
    ·exact H a (BA.1 r).1 b (by simp[u])
theorem pm (l:List aV):(bK l).Pairwise (lt2 l):=sE l _ [] List.Pairwise.nil (by simp) (sD _)
theorem vd (l:List aV):(bK l).Perm (eZ l.length):=by
 unfold bK;simpa using iu (ltL l) (eZ l.length) []
theorem kt {l:List aV}{i:Int}:i∈bK l<->0<=i/\i<l.length:=by rw[(vd l).mem_iff,oG]
def c7 (T:List Int)(n:Nat):List Bool:=(eZ n).map λi=>decide (i∈T)
theorem eK (T:List Int)(n:Nat):(c7 T n).length=n:=by simp[c7,eZ]
theorem ik (T:List Int){n i:Nat}(h:i<n):(c7 T n)[i]'(by rw[eK];exact h)=decide ((i:Int)∈T):=by
 simp[c7,eZ]
theorem wA {T:List Int}{n b:Nat}(u:b<n):(c7 T n).set b true=c7 (T++[(b:Int)]) n:=by
 refine CJ (by rw[Ch,eK,eK]) λi y r=>?_
 rw[eK]at r;rw[List.getElem_set,ik _ r];by_cases h:b=i
 ·subst h;rw[if_pos rfl,ik _ r];simp
 ·rw[if_neg h,ik _ r];have:¬ (i:Int)=(b:Int):=by omega
  simp[this]
def pn (l:List aV)(T:List Int)(i:Nat)(r:Int):Prop :=
 (r=-1/\∀ j:Nat,j<i->(j:Int)∈T)\/(0<=r/\r<i/\r∉T/\∀ j:Nat,j<i->(j:Int)∉T->(j:Int)≠r->lt2 l r (j:Int))
theorem zn (K:Nat)(l:List aV)(T:List Int)(hl:l.length<=1048576):∀ (d i k:Nat) (r:Int),i+d=l.length->d<k->pn l T i r ->
  ∃ b:Int,ae (λrec a=>Q57.s0 K (l,c7 T l.length,()) rec a) k (r,(i:Int))=some ((b,()),())/\pn l T l.length b:=by
 intro d;induction d with
 |zero =>
  intro i k r hi hk Y;obtain⟨k,rfl⟩:∃ k',k=k'+1:=⟨k-1,by omega⟩;have:i=l.length:=by omega
  subst this;refine⟨r,?_,Y⟩;show Q57.s0 K (l,c7 T l.length,()) _ _=_;simp only[Q57.s0,bf];rfl
 |succ d ih =>
  intro i k r hi hk Y;obtain⟨k,rfl⟩:∃ k',k=k'+1:=⟨k-1,by omega⟩;have y:i<l.length:=by omega
  have I:∀ r,pn l T (i+1) r->∃ b:Int,ae (λrec a=>Q57.s0 K (l,c7 T l.length,()) rec a) k (r,((i+1:Nat):Int))=some ((b,()),())/\pn l T l.length b:=λr h=>ih (i+1) k r (by omega) (by omega) h
  show ∃ b:Int,Q57.s0 K (l,c7 T l.length,()) (ae (λrec a=>Q57.s0 K (l,c7 T l.length,()) rec a) k) (r,(i:Int))=_/\_;generalize ae (λrec a=>Q57.s0 K (l,c7 T l.length,()) rec a) k=REC at I ⊢;simp only[Q57.s0];rw[bO (by omega:(i:Int)<(AU l:Int)),ai (show i<(c7 T l.length).length by rw[eK];exact y),ik T y,au i (by omega)];simp only[cond_true,AT];by_cases O:(i:Int)∈T
  ·rw[decide_eq_true O];simp only[BC,cond_false];refine I r ?_;rcases Y with ⟨rfl,h⟩|⟨h0,h1,h2,X⟩
   ·refine .inl ⟨rfl,λj Z=>?_⟩;by_cases z:j=i
    ·subst z;exact O
    ·exact h j (by omega)
   ·refine .inr ⟨h0,by omega,h2,λj Z u J=>?_⟩;by_cases z:j=i
    ·subst z;exact absurd O u
    ·exact X j (by omega) u J
  ·rw[decide_eq_false O];simp only[BV,cond_true];rcases Y with ⟨rfl,h⟩|⟨h0,h1,h2,X⟩
   ·rw[show decide ((-1:Int)<0)=true from rfl];refine I (i:Int) (.inr ⟨by omega,by omega,O,λj Z u J=>?_⟩);exact absurd (h j (by omega)) u
   ·rw[decide_eq_false (by omega:¬ r<0)];obtain⟨b,rfl⟩:=AX h0;have H:b<l.length:=by omega
    simp only[cond_false];rw[ai y,ai H];simp only[AT];by_cases M:l[i].2>l[b].2
    ·rw[decide_eq_true M];refine I (i:Int) (.inr ⟨by omega,by omega,O,λj Z u J=>?_⟩);have z:j<i:=by omega
     have a1:j<l.length:=by omega
     by_cases R:(j:Int)=(b:Int)
     ·rw[R];exact .inl (by rw[eJ y,eJ H];exact M)
     ·have:=X j z u R;rcases this with h4|⟨h4,_⟩
      ·exact .inl (by rw[eJ H]at h4;rw[eJ y];omega)
      ·exact .inl (by rw[eJ H]at h4;rw[eJ y];omega)
    ·rw[decide_eq_false M];refine I (b:Int) (.inr ⟨by omega,by omega,h2,λj Z u J=>?_⟩);by_cases z:j=i
     ·subst z;by_cases a0:dL l (b:Int)=dL l (j:Int)
      ·exact .inr ⟨a0,h1⟩
      ·refine .inl ?_;rw[eJ y,eJ H]at *;omega
     ·exact X j (by omega) u J
theorem Ai (K:Nat)(l:List aV)(n:Nat)(hl:l.length<=1048576)(hK:1048577<K):Q57.f K (l,c7 ((bK l).take n) l.length,())=some ((((bK l)[n]?).getD (-1),()),()):=by
  obtain⟨b,e,Z⟩:=zn K l ((bK l).take n) hl l.length 0 K (-1) (by omega) (by omega) (.inl ⟨rfl,λj I=>by omega⟩);have:b=((bK l)[n]?).getD (-1):=by
    by_cases z:n<(bK l).length
    · rw[BF z]
      show b=(bK l)[n];have hm:(bK l)[n]∉(bK l).take n:=λh=>by
        obtain⟨j,I,e⟩:=BH h;rw[BS]at I;rw[CF]at e;have:=By.1 (pm l) j n (by omega) z (by omega);rw[e]at this;rcases this with u|⟨_,u⟩ <;> omega
      have hr:=kt.1 (AW z);obtain⟨m,r⟩:=AX hr.1;rcases Z with ⟨rfl,h⟩|⟨J,X,y,h3⟩
      · have:=h m (by omega)
        rw[<- r]at this;exact absurd this hm
      · by_cases Y:b=(bK l)[n]
        · exact Y
        · exfalso
          have H:=h3 m (by omega) (by rw[<- r];exact hm) (by rw[<- r];exact λh=>Y h.symm);rw[<- r]at H;have O:b∈bK l:=kt.2 ⟨J,X⟩;obtain⟨j,I,M⟩:=BH O;have R:n<j:=by
            rcases Nat.lt_trichotomy j n with h|h|h
            · exact absurd (CE.2 ⟨j,by omega,M⟩) y
            · subst h;exact absurd M.symm Y
            · exact h
          have u:=By.1 (pm l) n j z I R;rw[M]at u;rcases H with H|⟨H,h6⟩ <;> rcases u with u|⟨u,h7⟩ <;> omega
    · rw[Bs (by omega)]
      show b=-1;rcases Z with ⟨rfl,_⟩|⟨J,X,y,_⟩
      · rfl
      · exfalso
        rw[Bp (by omega)]at y;exact y (kt.2 ⟨J,X⟩)
  rw[<- this];exact e
def iv (l:List aV):List Int:=(bK l).take 3
def jY (l:List aV)(i:Int):aV:=(l[i.toNat]?).getD ((0,0,0,false),0)
def fQ (l:List aV)(T:List Int)(i:Int):aV:=bif decide (i∈T) then ((jY l i).1,(jY l i).2-1) else jY l i
def ft (l:List aV)(T:List Int)(n:Nat):List af:=((eZ n).filter λi=>decide (i∈T)).map λi=>(jY l i).1
def lP (l:List aV)(T:List Int)(n:Nat):List aV:=(eZ n).map (fQ l T)
def eQ (l:List aV)(T:List Int)(n:Nat):List aV:=(lP l T n).filter λx=>decide (x.2>0)
theorem dR {l:List aV}{i:Nat}(h:i<l.length):jY l (i:Int)=l[i]:=by
 unfold jY;rw[AY,BF h];rfl
theorem qH (n:Nat):eZ (n+1)=eZ n++[(n:Int)]:=by
 unfold eZ;rw[List.range_succ,CN];rfl
theorem ve (l:List aV)(T:List Int)(n:Nat):ft l T (n+1)=ft l T n++(bif decide ((n:Int)∈T) then [(jY l (n:Int)).1] else []):=by
 unfold ft;rw[qH,Bb,CN,BO];cases decide ((n:Int)∈T) <;> rfl
theorem vf (l:List aV)(T:List Int)(n:Nat):eQ l T (n+1)=eQ l T n++(bif decide ((fQ l T (n:Int)).2>0) then [fQ l T (n:Int)] else []):=by
 unfold eQ lP;rw[qH,CN,Bb,CS,BO];cases decide ((fQ l T (n:Int)).2>0) <;> rfl
theorem wB (l:List aV)(T:List Int)(n:Nat):(ft l T n).length<=n:=by
 unfold ft;rw[BW];refine BZ (B7 _ _) ?_;simp[eZ]
theorem wC (l:List aV)(T:List Int)(n:Nat):(eQ l T n).length<=n:=by
 unfold eQ;refine BZ (B7 _ _) ?_;simp[lP,eZ]
theorem zo (K:Nat)(l:List aV)(m:Int)(T:List Int)(X:l.length<=1048576)(H:cX l)(J:1048577<K) :
  Q58.l1 K (l,m,()) (c7 T l.length,[],[],0)=some ((ft l T l.length,eQ l T l.length,()),()):=by
 refine p9 (step:=λrec a=>Q58.s1 K (l,m,()) rec a) l.length (λi=>(c7 T l.length,ft l T i,eQ l T i,(i:Int))) (some ((ft l T l.length,eQ l T l.length,()),())) ?_ ?_ (by omega)
 ·intro rec i r;simp only[Q58.s1];have u:i<(c7 T l.length).length:=by rw[eK];exact r
  have M:=wB l T i;have I:=wC l T i;obtain⟨R,O⟩:=(H.1 l[i] (AW r)).2;rw[bO (by omega:(i:Int)<(AU l:Int)),ai r,ai u,au i (by omega),AY,ai u,ik T r,ve,vf,dR r];simp only[cond_true,AT];cases z:decide ((i:Int)∈T) with
  |true =>
   have y:fQ l T (i:Int)=(l[i].1,l[i].2-1):=by unfold fQ;rw[z,dR r];rfl
   rw[y];simp only[cond_true];rw[szb _ _ _ (by omega) (by simp;omega),aJ (n:=l[i].2-1) (by omega) (by omega)];simp only[cond_true];cases decide (l[i].2-1>0) with
   |true =>
    simp only[cond_true];rw[szb _ _ _ (by omega) (by simp;omega)];rfl
   |false =>
    simp only[cond_false,BE]
  |false =>
   have y:fQ l T (i:Int)=l[i]:=by unfold fQ;rw[z,dR r];rfl
   rw[y];simp only[cond_false,BE];cases decide (l[i].2>0) with
   |true =>
    simp only[cond_true];rw[szb _ _ _ (by omega) (by simp;omega)];rfl
   |false =>
    simp only[cond_false,BE]
 ·intro rec;simp only[Q58.s1,bf];rfl
theorem Aj (K:Nat)(l:List aV)(R:l.length<=1048576)(hC:cX l)(M:1048577<K):Q58.f K (l,3,())=some ((ft l (iv l) l.length,eQ l (iv l) l.length,()),()):=by
 have u:∀ T,Q58.l1 K (l,3,()) (c7 T l.length,[],[],0)=some ((ft l T l.length,eQ l T l.length,()),()):=λT=>zo K l 3 T R hC M
 have go:∀ (d n k:Nat),n+d=3->d<k->ae (λrec a=>Q58.s0 K (l,3,()) (Q58.l1 K (l,3,())) rec a) k (c7 ((bK l).take n) l.length,(n:Int))=some ((ft l (iv l) l.length,eQ l (iv l) l.length,()),()):=by
  intro d;induction d with
  |zero =>
   intro n k hn hk;obtain⟨k,rfl⟩:∃ H,k=H+1:=⟨k-1,by omega⟩;have:n=3:=by omega
   subst this;exact u _
  |succ d Z =>
   intro n k hn hk;obtain⟨k,rfl⟩:∃ H,k=H+1:=⟨k-1,by omega⟩;have y:=Z (n+1) k (by omega) (by omega);show Q58.s0 K (l,3,()) (Q58.l1 K (l,3,())) (ae (λrec a=>Q58.s0 K (l,3,()) (Q58.l1 K (l,3,())) rec a) k) (c7 ((bK l).take n) l.length,(n:Int))=_;generalize ae (λrec a=>Q58.s0 K (l,3,()) (Q58.l1 K (l,3,())) rec a) k=REC at y ⊢;simp only[Q58.s0];rw[decide_eq_true (by omega:(n:Int)<3),Ai K l n R M,au n (by omega)];simp only[cond_true,AT];by_cases r:n<(bK l).length
   ·rw[BF r];have X:=kt.1 (AW r);have I:(bK l).take (n+1)=(bK l).take n++[(bK l)[n]]:=Bn r;rw[I]at y;simp only[Cc];generalize (bK l)[n]=v at X y ⊢;obtain⟨b,rfl⟩:=AX X.1;have O:b<l.length:=by omega
    have z:b<(c7 ((bK l).take n) l.length).length:=by rw[eK];exact O
    rw[decide_eq_false (by omega:¬ (b:Int)<0),ai z,AY,ai z,wA O];exact y
   ·rw[Bs (by omega)];show Q58.l1 K (l,3,()) (c7 ((bK l).take n) l.length,[],[],0)=_;rw[u,show (bK l).take n=iv l by unfold iv;rw[Bp (by omega),Bp (by omega)]]
 simp only[Q58.f,Q58.pre];rw[decide_eq_true (by omega:(0:Int)<=(AU l:Int)),show decide ((AU l:Int)*(1:Nat)<=ak)=true from decide_eq_true (by simp only[ak];omega),AY];simp only[decide_true,Bz,cond_true];have Y:List.replicate l.length false=c7 ((bK l).take 0) l.length:=by
  refine CJ (by rw[List.length_replicate,eK]) λi h1 J=>?_
  rw[eK]at J;rw[List.getElem_replicate,ik _ J];simp
 have:=go 3 0 K (by omega) (by omega);rw[<- Y]at this;exact this
theorem lQ (l:List aV)(T:List Int)(n:Nat):(lP l T n).length=n:=by simp[lP,eZ]
theorem lR (l:List aV)(T:List Int){n i:Nat}(h:i<n):(lP l T n)[i]'(by rw[lQ];exact h)=fQ l T (i:Int):=by
 simp[lP,eZ]
theorem Ak {a b:Int}(u:0<=a)(y:a<4611686018427387904)(z:0<=b)(r:b<4611686018427387904):0<=pX .i64 a b:=by
 obtain⟨m,rfl⟩:=AX u;obtain⟨n,rfl⟩:=AX z;have h:(BitVec.ofInt 64 (m:Int) ^^^ BitVec.ofInt 64 (n:Int)).toNat=m ^^^ n:=by
  rw[BitVec.toNat_xor,BitVec.toNat_ofInt,BitVec.toNat_ofInt];congr 1
  ·omega
  ·omega
 have H:m ^^^ n<2 ^ 62:=Nat.xor_lt_two_pow (by omega) (by omega);show 0<=IntKind.i64.wrap (((BitVec.ofInt 64 (m:Int) ^^^ BitVec.ofInt 64 (n:Int)).toNat:Nat):Int);rw[h,Cd];omega
structure fu (b:List Int):Prop where
 byte:∀ y∈b,0<=y/\y<=255
 len:b.length<=2000
theorem zp (K:Nat)(b:List Int)(q:Nat)(n:Int)(h:fu b)(hq:q<=100000)(hn:1<=n):∃ v:Int,Q10.f K ((b,(q:Int)),n,())=some ((v,()),((b,((q+1:Nat):Int)),()))/\0<=v/\v<n:=by
 have w1:wr .i64 ((q:Int)+1)=((q+1:Nat):Int):=au q (by omega);have w2:wr .i64 (((q+1:Nat):Int)-1)=(q:Int):=by rw[aJ (n:=((q+1:Nat):Int)-1) (by omega) (by omega)];omega
 have hl:=h.len;have I:decide (n=0)=false:=decide_eq_false (by omega);have r:∀ x:Int,0<=x->0<=Bx x n/\Bx x n<n:=λx u=>⟨Ci _ u,CV _ (by omega)⟩
 simp only[Q10.f];rw[decide_eq_false (by omega:¬ n<1)];simp only[cond_false,w1,w2,I];by_cases M:b.length=0
 ·rw[show ((b.length:Int)==0)=true by simpa using M];exact⟨0,rfl,by omega,by omega⟩
 ·rw[show ((b.length:Int)==0)=false by simpa using M];simp only[cond_false];by_cases H:q<b.length
  ·rw[decide_eq_true (by omega:(q:Int)<(b.length:Int)),ai H];simp only[cond_true,AT];obtain⟨J,O⟩:=h.byte b[q] (AW H);rw[aJ (n:=b[q]) (by omega) (by omega)];exact⟨_,rfl,r _ J⟩
  ·rw[decide_eq_false (by omega:¬ (q:Int)<(b.length:Int)),decide_eq_false (by omega:¬ (b.length:Int)=0)];simp only[cond_false];have t1:Bx (q:Int) (b.length:Int)=((q % b.length:Nat):Int):=by rw[CD (by omega)];rfl
   have t2:wr .i64 (wr .i64 ((q:Int)*7)+3)=((q*7+3:Nat):Int):=by rw[aJ (n:=(q:Int)*7) (by omega) (by omega),aJ (n:=(q:Int)*7+3) (by omega) (by omega)];omega
   have t3:Bx (((q*7+3:Nat)):Int) (b.length:Int)=(((q*7+3) % b.length:Nat):Int):=by rw[CD (by omega)];rfl
   have Y:q % b.length<b.length:=Nat.mod_lt _ (by omega);have R:(q*7+3) % b.length<b.length:=Nat.mod_lt _ (by omega);rw[t1,t2,t3,ai Y,ai R];simp only[AT];obtain⟨J,O⟩:=h.byte b[q % b.length] (AW Y);obtain⟨z0,Z⟩:=h.byte b[(q*7+3) % b.length] (AW R);generalize b[q % b.length]=y at J O ⊢;generalize b[(q*7+3) % b.length]=z at z0 Z ⊢;have d1:0<=B4 (q:Int) (b.length:Int)/\B4 (q:Int) (b.length:Int)<=q:=⟨Cj (by omega) (by omega),Ce _ (by omega)⟩;generalize B4 (q:Int) (b.length:Int)=e at d1 ⊢;have x1:wr .i64 (wr .i64 (wr .i64 (wr .i64 (wr .i64 y*131)+wr .i64 (wr .i64 z*1117))+wr .i64 ((q:Int)*29))+wr .i64 (wr .i64 e*53))=y*131+z*1117+q*29+e*53:=by
    rw[aJ (n:=y) (by omega) (by omega),aJ (n:=z) (by omega) (by omega),aJ (n:=e) (by omega) (by omega),aJ (n:=y*131) (by omega) (by omega),aJ (n:=z*1117) (by omega) (by omega),aJ (n:=(q:Int)*29) (by omega) (by omega),aJ (n:=e*53) (by omega) (by omega),
     aJ (n:=y*131+z*1117) (by omega) (by omega),aJ (n:=y*131+z*1117+(q:Int)*29) (by omega) (by omega),aJ (n:=y*131+z*1117+(q:Int)*29+e*53) (by omega) (by omega)]
   rw[x1];have u:0<=y*131+z*1117+q*29+e*53/\y*131+z*1117+q*29+e*53<=10000000:=by omega
   generalize y*131+z*1117+(q:Int)*29+e*53=X at u ⊢;have d2:0<=B4 X 64/\B4 X 64<=X:=⟨Cj u.1 (by omega),Ce _ u.1⟩;rw[aJ (n:=B4 X 64) (by omega) (by omega)];exact⟨_,rfl,r _ (Ak u.1 (by omega) d2.1 (by omega))⟩
theorem vg (K:Nat)(t:List af)(f:af)(ht:t.length<=1048576)(R:Asc (λg:af=>g.1) t)(Y:1048577<K):Q51.f K (t,f,())=some (((bY t f).1,(bY t f).2,()),()):=by
 simp only[Q51.f,Q51.pre];obtain⟨o,H,J⟩:=eW K t f.1 ht Y;rw[J];simp only[AT];cases H with
 |at_ i r e =>
  simp only;rw[lL R r e,decide_eq_true (by omega:((i:Nat):Int)>=0),ai r];simp only[cond_true,AT,AY,ai r];rw[show Q43.f K (f,t[i],())=_ from pd K f t[i]];simp only[AT];by_cases H:bE f t[i]
  ·rw[decide_eq_true H,if_pos H];simp only[BC,cond_false];rw[szb _ _ _ (by omega) (by show (AU ([]:List af))+t.length<=_;simp;omega)];simp only[cond_true,BJ,ai r,AT,AY];rw[oC (k:=λg:af=>g.1) R r e]
  ·rw[decide_eq_false H,if_neg H];rfl
 |no h =>
  simp only;rw[iL h,decide_eq_false (by omega:¬ (-1:Int)>=0)];simp only[cond_false];have M:∀ m:Nat,m<=t.length->(bif decide ((0:Int)<=0)&&decide ((0:Int)<=(m:Int))&&decide ((m:Int)<=(AU t:Int))&&true then (bif decide ((AU ([]:List af)+AU ((t.take (AV (m:Int))).drop (AV 0)))*32<=ak) then (bif decide ((AU ([]++((t.take (AV (m:Int))).drop (AV 0)))+AU ([f]))*32<=ak) then (bif decide ((0:Int)<=(m:Int))&&decide ((m:Int)<=(AU t:Int))&&decide ((AU t:Int)<=(AU t:Int))&&true then (bif decide ((AU (([]++((t.take (AV (m:Int))).drop (AV 0)))++([f]))+AU ((t.take (AV (AU t:Int))).drop (AV (m:Int))))*32<=ak) then (some (((([]++((t.take (AV (m:Int))).drop (AV 0)))++([f]))++((t.take (AV (AU t:Int))).drop (AV (m:Int))),true,()),())) else none) else none) else none) else none) else (none:Option ((List af×Bool×Unit)×Unit)))=some ((t.take m++[f]++t.drop m,true,()),()):=by
   intro m X;rw[decide_eq_true (by omega:(0:Int)<=0),decide_eq_true (by omega:(0:Int)<=(m:Int)),decide_eq_true (by omega:(m:Int)<=(AU t:Int)),decide_eq_true (by omega:(AU t:Int)<=(AU t:Int))];simp only[AY,B3,BR,BJ,Bj,Bz,cond_true];have J:(t.take m).length=m:=by rw[BS];omega
   have z:(t.drop m).length=t.length-m:=BX;rw[szb _ _ _ (by omega) (by simp only[BI];omega),szb _ _ _ (by omega) (by simp only[AZ,BI];omega),szb _ _ _ (by omega) (by simp only[BG,AZ,BI];omega)];rfl
  have:=cG (step:=λrec a=>Q51.s0 K (t,f,()) rec a) t.length (λi=>(i:Int)) (λj=>∃ h:j<t.length,¬ t[j].1<f.1) (some ((t.take t.length++[f]++t.drop t.length,true,()),())) (λj=>some ((t.take j++[f]++t.drop j,true,()),())) ?_ ?_ t.length K 0 (by omega) (by omega)
  ·have I:∀ m,m<=t.length->(∀ i,(r:i<t.length)->i<m->t[i].1<f.1)->(∀ i,(r:i<t.length)->m<=i->f.1<t[i].1)->t.take m++[f]++t.drop m=bM (λg=>g.1) f t:=λm X lo r=>oD (k:=λg:af=>g.1) X lo r
   rcases this with ⟨J,z⟩|⟨j,_,J,⟨h3,h4⟩,Z,z⟩
   ·rw[I t.length (BP _) (λi r _=>by
     have:=J i (Bd _) r;exact Bg.1 λh=>this ⟨r,h⟩) (λi r h=>by omega)]at z
    exact z
   ·rw[I j (by omega) (λi r y=>by
     have:=Z i (Bd _) y;exact Bg.1 λh=>this ⟨r,h⟩) (λi r y=>by
     have a0:=h t[i] (AW r);rcases Bq y with O|O
     ·have:=eA.1 R j i h3 r O;omega
     ·subst O;omega)]at z
    exact z
  ·intro rec i r;simp only[Q51.s0];rw[bO (by omega:(i:Int)<(AU t:Int)),ai r,au i (by omega)];simp only[cond_true,AT];rw[show idx t ((AV (i:Int):Nat):Int)=some t[i] by rw[AY];exact ai r];simp only[AT];by_cases u:t[i].1<f.1
   ·exact .inl ⟨λ⟨_,h⟩=>h u,by rw[decide_eq_true u];rfl⟩
   ·exact .inr ⟨⟨r,u⟩,by rw[decide_eq_false u];exact M i (by omega)⟩
  ·intro rec;simp only[Q51.s0,bf,cond_false];exact M t.length (BP _)
def e8 (t:List af)(fs:List af):List af:=fs.foldl (λt f=>(bY t f).1) t
theorem qI:∀ {fs t:List af},aA t->(∀ f∈fs,bC f)->aA (e8 t fs)
 |[],_,h,_=>h
 |f::fs,t,h,r=>qI (fs:=fs) (jU h (r f (by simp))) (λg u=>r g (by simp[u]))
theorem cE {t:List af}(h:aA t):t.length<=1048576:=BZ (it h.2 (λg r=>(h.1 g r).1)) (by decide)
theorem tR {R:Type}(a fs:List af)(X:aA a)(O:∀ f∈fs,bC f)(u:List af->Option R){step:(List af×Int->Option R)->List af×Int->Option R}
  (h:∀ (rec:List af×Int->Option R) (t:List af) (i:Nat) (I:i<fs.length),aA t->step rec (t,(i:Int))=rec ((bY t fs[i]).1,((i+1:Nat):Int)))
  (y:∀ (rec:List af×Int->Option R) (t:List af),step rec (t,(fs.length:Int))=u t) {k:Nat} (H:fs.length<k):ae step k (a,0)=u (e8 a fs):=by
 have:∀ (d i k:Nat) (t:List af),i+d=fs.length->d<k->aA t->ae step k (t,(i:Int))=u (e8 t (fs.drop i)):=by
  intro d;induction d with
  |zero =>
   intro i k t I H _;obtain⟨k,rfl⟩:∃ z,k=z+1:=⟨k-1,by omega⟩;have:i=fs.length:=by omega
   subst this;show step (ae step k) _=_;rw[y,B8];rfl
  |succ d M =>
   intro i k t I H J;obtain⟨k,rfl⟩:∃ z,k=z+1:=⟨k-1,by omega⟩;have r:i<fs.length:=by omega
   show step (ae step k) _=_;rw[h _ _ _ r J,BD r];exact M (i+1) k _ (by omega) (by omega) (jU J (O _ (AW r)))
 have:=this fs.length 0 k a (by omega) H X
 rwa [BR]at this
theorem wD (f:af):¬ bE f f:=by
 unfold bE;simp
theorem sG (K:Nat)(xs:List af)(y:xs.length<=1048576)(z:1048577<K):Q177.f K (xs,xs,())=rb true:=by
 have u:Q177.l0 K (xs,xs,()) 0=rb true:=by
  refine p9 (step:=λrec a=>Q177.s0 K (xs,xs,()) rec a) xs.length (λi=>(i:Int)) (rb true) ?_ ?_ (by omega)
  ·intro rec i r;simp only[Q177.s0];rw[decide_eq_true (by omega:(i:Int)<(AU xs:Int)),ai r,au i (by omega)];simp only[cond_true,AT];rw[show Ty.eqv t2 xs[i] xs[i]=decide (xs[i]=xs[i]) from lj _ _,decide_eq_true rfl];rfl
  ·intro rec;simp only[Q177.s0,bf];rfl
 simp only[Q177.f,Q177.pre,bne_self_eq_false,cond_false];exact u
theorem sH {l:List aV}(O:cX l)(T:List Int):aA (ft l T l.length):=by
 unfold ft;constructor
 ·intro f hf;obtain⟨i,I,rfl⟩:=BQ.1 hf;obtain⟨R,h1⟩:=oG.1 (BA.1 I).1;obtain⟨b,rfl⟩:=AX R;have J:b<l.length:=by omega
  rw[dR J];exact (O.1 l[b] (AW J)).1
 ·unfold Asc;rw[BY];have hp:((eZ l.length).filter λi=>decide (i∈T)).Pairwise λ (a b:Int)=>(0<=a/\a<l.length)/\(0<=b/\b<l.length)/\a<b:=by
   refine Bw _ ?_;have:∀ u:List Int,(∀ x∈u,0<=x/\x<l.length)->u.Pairwise (·<·)->u.Pairwise λ (a b:Int)=>(0<=a/\a<l.length)/\(0<=b/\b<l.length)/\a<b:=by
    intro u z r;induction u with
    |nil=>exact List.Pairwise.nil
    |cons x u X =>
     rw[BK]at r ⊢;exact⟨λy H=>⟨z x (by simp),z y (by simp[H]),r.1 y H⟩,X (λy H=>z y (by simp[H])) r.2⟩
   exact this _ (λx z=>oG.1 z) (sD _)
  refine hp.imp λ {a b} h=>?_
  obtain⟨⟨a0,a1⟩,⟨Y,b1⟩,Z⟩:=h;obtain⟨i,rfl⟩:=AX a0;obtain⟨j,rfl⟩:=AX Y;have I:i<l.length:=by omega
  have M:j<l.length:=by omega
  rw[dR I,dR M];exact eA.1 O.2 i j I M (by omega)
theorem x7 {l:List aV}(J:cX l)(T:List Int):cX (eQ l T l.length):=by
 have r:∀ i (h:i<l.length),(fQ l T (i:Int)).1=l[i].1:=λi h=>by
  unfold fQ;rw[dR h];cases decide ((i:Int)∈T) <;> rfl
 have H:∀ i (h:i<l.length),(fQ l T (i:Int)).2<=l[i].2:=λi h=>by
  unfold fQ;rw[dR h];cases decide ((i:Int)∈T) with
  |true=>show l[i].2-1<=l[i].2;omega
  |false=>exact BT _
 unfold eQ;constructor
 ·intro x M;obtain⟨O,I⟩:=BA.1 M;have I:x.2>0:=by simpa using I
  obtain⟨i,u,rfl⟩:=BH O;rw[lQ]at u;rw[lR l T u]at I ⊢;have:=(J.1 l[i] (AW u));refine⟨by rw[r i u];exact this.1,?_,?_⟩
  ·omega
  ·have R:=H i u;have X:=this.2.2;omega
 ·unfold Asc;refine Bw _ ?_;rw[By];intro i j u y z;rw[lQ]at u y;show (lP l T l.length)[i].1.1<(lP l T l.length)[j].1.1;rw[lR l T u,lR l T y,r i u,r j y];exact eA.1 J.2 i j u y z
def jZ (n:aa)(to:Int):List af :=
 bif (aT (aa.table n) to).2.2.1==2 then (bY (ft (aa.cast n) (iv (aa.cast n)) (aa.cast n).length) (aT (aa.table n) to)).1 else ft (aa.cast n) (iv (aa.cast n)) (aa.cast n).length
def j0 (n:aa):aa:=iM n (aa.table n) (eQ (aa.cast n) (iv (aa.cast n)) (aa.cast n).length) (aa.doubts n)
theorem ny {n:aa}(h:cH n)(to:Int):aA (jZ n to):=by
 have y:=sH h.cast (iv (aa.cast n));unfold jZ;cases r:(aT (aa.table n) to).2.2.1==2 with
 |false=>exact y
 |true =>
  refine jU y (eH h.table ?_).1;by_cases u:∃ f∈aa.table n,f.1=to
  ·exact u
  ·rw[kp (λg z e=>u ⟨g,z,e⟩)]at r;simp at r
theorem clen {n:aa}(h:cH n):(aa.cast n).length<=8:=it h.cast.2 (λx r=>(h.cast.1 x r).1.1)
theorem uq (K:Nat)(n:aa)(to:Int)(h:cH n)(u:1048577<K):Q91.f K (n,to,())=some ((jZ n to,j0 n,()),()):=by
 have M:=clen h;simp only[Q91.f,zcp8];rw[show Q58.f K (n.2.2.2.2.2.2.2.2.2.1,3,())=_ from Aj K (aa.cast n) (by omega) h.cast u];simp only[AT];obtain⟨o,I,J⟩:=eW K (aa.table n) to h.lt u;rw[show Q42.f K (n.2.2.2.2.2.2.2.2.1,to,())=_ from J];simp only[AT,jZ];have z:=sH h.cast (iv (aa.cast n));cases I with
 |no y =>
  rw[kp y];rfl
 |at_ j H e =>
  have r:aT (aa.table n) to=(aa.table n)[j]:=by rw[<- e];exact ko h.table.2 (AW H)
  rw[r];simp only;rw[decide_eq_true (by omega:((j:Nat):Int)>=0),show idx n.2.2.2.2.2.2.2.2.1 ((j:Nat):Int)=some (aa.table n)[j] from ai H];simp only[cond_true,AT];cases (aa.table n)[j].2.2.1==2 with
  |false=>rfl
  |true =>
   simp only[cond_true];rw[vg K _ _ (cE z) z.2 u];rfl
def co (n:aa)(k:Nat):Int:=Bx (n.2.2.2.2.2.2.2.1+(k:Int)) 8
def gM (n:aa)(k:Nat):Prop:=co n k≠n.1/\ee (aT (aa.table n) (co n k))=true
def askN (n:aa)(to:Int):aa :=
 let m:=j0 n
 (m.1,m.2.1,m.2.2.1,m.2.2.2.1,m.2.2.2.2.1,m.2.2.2.2.2.1,m.2.2.2.2.2.2.1+1,to+1,m.2.2.2.2.2.2.2.2.1,m.2.2.2.2.2.2.2.2.2.1,(to,m.2.2.2.2.2.1,m.2.2.2.2.2.2.1+1,false),m.2.2.2.2.2.2.2.2.2.2.2)
def pingW (n:aa)(to:Int):ap:=(1,1,n.1,to,n.2.2.2.2.2.2.1+1,n.1,aa.coord n,jZ n to)
theorem zq (K:Nat)(n:aa)(h:cH n)(Z:0<=n.2.2.2.2.2.2.2.1)(O:n.2.2.2.2.2.2.2.1<=8)(R:1048577<K) :
  ∃ to:Int,Q90.f K (n,())=some ((to,()),())/\((to=-1/\∀ k,k<8->¬ gM n k)\/∃ k,k<8/\gM n k/\(∀ j,j<k->¬ gM n j)/\to=co n k):=by
 have u:∀ k:Nat,k<8->wr .i64 (n.2.2.2.2.2.2.2.1+(k:Int))=n.2.2.2.2.2.2.2.1+(k:Int):=λk M=>aJ (by omega) (by omega)
 have:=cG (step:=λrec a=>Q90.s0 K (n,()) rec a) 8 (λi=>(i:Int)) (gM n) (some ((-1,()),())) (λj=>some ((co n j,()),())) ?_ ?_ 8 K 0 (by omega) (by omega)
 ·rcases this with ⟨I,y⟩|⟨j,_,I,X,Y,y⟩
  ·exact⟨-1,y,.inl ⟨rfl,λk M=>I k (Bd _) M⟩⟩
  ·exact⟨_,y,.inr ⟨j,I,X,λm hm=>Y m (Bd _) hm,rfl⟩⟩
 ·intro rec i hi;simp only[Q90.s0];rw[decide_eq_true (by omega:(i:Int)<=7),u i hi,au i (by omega)];simp only[cond_true];show (¬ gM n i/\(bif co n i != n.1 then ((Q87.f K (aa.table n,co n i,())).bind λH=>bif H.1.1 then (some ((co n i,()),())) else (rec ((i+1:Nat):Int))) else (rec ((i+1:Nat):Int)))=rec ((i+1:Nat):Int))\/(gM n i/\(bif co n i != n.1 then ((Q87.f K (aa.table n,co n i,())).bind λH=>bif H.1.1 then (some ((co n i,()),())) else (rec ((i+1:Nat):Int))) else (rec ((i+1:Nat):Int)))=some ((co n i,()),()));rw[sw K (aa.table n) (co n i) h.table h.lt R];by_cases r:co n i=n.1
  ·exact .inl ⟨λz=>z.1 r,by rw[show (co n i != n.1)=false by simpa using r];rfl⟩
  ·rw[show (co n i != n.1)=true by simpa using r];cases J:ee (aT (aa.table n) (co n i)) with
   |true=>exact .inr ⟨⟨r,J⟩,rfl⟩
   |false=>exact .inl ⟨λz=>(by rw[z.2]at J;cases J),rfl⟩
 ·intro rec;simp only[Q90.s0];rfl
theorem wE (K:Nat)(xs:List af)(H:af×af×Unit->Option Int)(I:af->af->Bool)(hφ:∀ y z,∃ c,H (y,z,())=some c/\decide (c<0)=I y z)(R:xs.length<=1048576)(Z:1048577<K) :
  Q165.f K (xs,0,(xs.length:Int),H,())=some ((),(di I [] xs,())):=by
 refine xY (step:=λrec a=>Q165.s0 K (xs,0,(xs.length:Int),H,()) (Q165.l1 K (xs,0,(xs.length:Int),H,()) rec) rec a) I xs R ?_ ?_ (by omega)
 ·intro rec done x r hl;simp only[Q165.s0];rw[decide_eq_true (by omega:((done.length:Int))<(xs.length:Int))];simp only[cond_true];have:=va I (done.length:Int) rec (step:=λu a=>Q165.s1 K (xs,0,(xs.length:Int),H,()) rec u a) ?_ ?_ done.reverse r x K (by simp;omega) (by simp;omega)
  ·rw[Be,CP]at this;exact this
  ·intro u A y z B M;simp only[Q165.s1];have X:wr .i64 (((A.length+1:Nat):Int)-1)=(A.length:Int):=(aJ (by omega) (by omega)).trans (by omega);rw[decide_eq_true (by omega:((A.length+1:Nat):Int)>0)];obtain⟨c,J,O⟩:=hφ z y;simp only[cond_true,X,AY,xZ,zl,AT,J,O,x6,zm]
  ·intro u Y;simp only[Q165.s1];rw[decide_eq_false (by omega:¬ (0:Int)>0)];rfl
 ·intro rec Y i hi;simp only[Q165.s0];rw[decide_eq_false (by omega:¬ i<(xs.length:Int))];rfl
theorem x8 (K:Nat)(xs:List af)(r:af×af×Unit->Option Int)(u:af->af->Bool)(hφ:∀ y z,∃ c,r (y,z,())=some c/\decide (c<0)=u y z)(J:xs.length<=12)(H:1048577<K) :
  Q173.f K (xs,r,())=some ((),(di u [] xs,())):=by
 simp only[Q173.f,Q172.f];obtain⟨l,R⟩:∃ l:Int,Q171.f K (wr .u64 (xs.length:Int),())=some ((l,()),()):=by
  have e:wr .u64 (xs.length:Int)=(xs.length:Int):=by
   show IntKind.u64.wrap _=_;have M:IntKind.u64.wrap (xs.length:Int)=(xs.length:Int) % 18446744073709551616:=by simp[IntKind.wrap,IntKind.bits,IntKind.signed]
   rw[M];omega
  rw[e];generalize X:xs.length=n at J;have:n=0\/n=1\/n=2\/n=3\/n=4\/n=5\/n=6\/n=7\/n=8\/n=9\/n=10\/n=11\/n=12:=by omega
  rcases this with rfl|rfl|rfl|rfl|rfl|rfl|rfl|rfl|rfl|rfl|rfl|rfl|rfl
  ·exact⟨0,by kernel_rfl⟩
  ·exact⟨1,by kernel_rfl⟩
  ·exact⟨2,by kernel_rfl⟩
  ·exact⟨2,by kernel_rfl⟩
  ·exact⟨3,by kernel_rfl⟩
  ·exact⟨3,by kernel_rfl⟩
  ·exact⟨3,by kernel_rfl⟩
  ·exact⟨3,by kernel_rfl⟩
  ·exact⟨4,by kernel_rfl⟩
  ·exact⟨4,by kernel_rfl⟩
  ·exact⟨4,by kernel_rfl⟩
  ·exact⟨4,by kernel_rfl⟩
  ·exact⟨4,by kernel_rfl⟩
 rw[R];simp only[AT];have:Q170.f K (xs,0,(xs.length:Int),l,r,())=some ((),(di u [] xs,())):=by
  obtain⟨k,rfl⟩:∃ I,K=I+1:=⟨K-1,by omega⟩;have O:∀ (rec:Q170.A0->Option Q170.Res) (a:Q170.A0),Q170.s0 (k+1) (xs,0,(xs.length:Int),l,r,()) rec a=some ((),(di u [] xs,())):=by
   intro rec a;simp only[Q170.s0];have e:wr .i64 ((xs.length:Int)-0)=(xs.length:Int):=(aJ (by omega) (by omega)).trans (by omega);rw[e,decide_eq_true (by omega:(xs.length:Int)<=12)];simp only[cond_true];rw[wE (k+1) xs r u hφ (by omega) H];rfl
  exact O (λ_=>none) ()
 rw[this];rfl
abbrev ln:=Int×ByteArray×Bool
abbrev bN:=List aa×List ln×List Int×List af
abbrev bN.radio (w:bN):List ln:=w.2.1
abbrev bN.sides (w:bN):List Int:=w.2.2.1
abbrev bN.born (w:bN):List af:=w.2.2.2
def nz (f g:af):Prop:=if f.1≠g.1 then f.1<g.1 else bE g f
theorem wF (f g:af):¬ oy f g>=0<->nz f g:=by
 unfold oy nz;by_cases r:f.1=g.1
 ·rw[iJ ((dp f.1 g.1).2 r),if_neg (show ¬ f.1≠g.1 from λh=>h r)];unfold bE;by_cases y:f.2.1=g.2.1
  ·rw[iJ ((dp f.2.1 g.2.1).2 y),if_neg (show ¬ g.2.1≠f.2.1 from λh=>h y.symm)];by_cases u:f.2.2.1=g.2.2.1
   ·rw[iJ ((dp f.2.2.1 g.2.2.1).2 u),if_neg (show ¬ g.2.2.1≠f.2.2.1 from λh=>h u.symm)];cases f.2.2.2 <;> cases g.2.2.2 <;> simp[orI]
   ·rw[li (λh=>u ((dp f.2.2.1 g.2.2.1).1 h)),if_pos (show g.2.2.1≠f.2.2.1 from λh=>u h.symm)];have:=jT f.2.2.1 g.2.2.1;omega
  ·rw[li (λh=>y ((dp f.2.1 g.2.1).1 h)),if_pos (show g.2.1≠f.2.1 from λh=>y h.symm)];have:=jT f.2.1 g.2.1;omega
 ·rw[li (λh=>r ((dp f.1 g.1).1 h)),if_pos (show f.1≠g.1 from r)];have:=jT f.1 g.1;omega
def bI (b:Bool):Int:=if b=true then 1 else 0
theorem bI_lt (a b:Bool):bI a<bI b<->b=true/\a=false:=by cases a <;> cases b <;> simp[bI]
theorem ku (f g:af):nz f g<->f.1<g.1\/f.1=g.1/\(f.2.1<g.2.1\/f.2.1=g.2.1/\(f.2.2.1<g.2.2.1\/f.2.2.1=g.2.2.1/\bI f.2.2.2<bI g.2.2.2)):=by
 unfold nz bE;rw[bI_lt];by_cases r:f.1=g.1
 ·rw[if_neg (λh=>h r)];by_cases u:g.2.1=f.2.1
  ·rw[if_neg (λh=>h u)];by_cases y:g.2.2.1=f.2.2.1
   ·rw[if_neg (λh=>h y)];constructor
    ·intro h;exact .inr ⟨r,.inr ⟨u.symm,.inr ⟨y.symm,h⟩⟩⟩
    ·rintro (h|⟨_,h|⟨_,h|⟨_,h⟩⟩⟩)
     ·omega
     ·omega
     ·omega
     ·exact h
   ·rw[if_pos y];constructor
    ·intro h;exact .inr ⟨r,.inr ⟨u.symm,.inl h⟩⟩
    ·rintro (h|⟨_,h|⟨_,h|⟨_,h⟩⟩⟩) <;> omega
  ·rw[if_pos u];constructor
   ·intro h;exact .inr ⟨r,.inl h⟩
   ·rintro (h|⟨_,h|⟨_,h|⟨_,h⟩⟩⟩) <;> omega
 ·rw[if_pos r];constructor
  ·intro h;exact .inl h
  ·rintro (h|⟨_,h⟩)
   ·exact h
   ·omega
def ltF (f g:af):Bool:=decide (oy f g<0)
theorem nA (f g:af):ltF f g=true<->nz f g:=by
 unfold ltF;rw[decide_eq_true_iff,<- wF];omega
theorem qJ (f g:af):ltF f g=false<->¬ nz f g:=by
 rw[<- nA];cases ltF f g <;> simp
theorem wG (a b c:af)(u:ltF a b=false)(r:ltF b c=false):ltF a c=false:=by
 rw[qJ,ku]at *;generalize bI a.2.2.2=x at *;generalize bI b.2.2.2=y at *;generalize bI c.2.2.2=z at *;omega
theorem wH (a b:af)(h:ltF a b=true):ltF b a=false:=by
 rw[qJ];rw[nA]at h;rw[ku]at *;generalize bI a.2.2.2=x at *;generalize bI b.2.2.2=y at *;omega
def dj (n:aa):List af:=aa.table n++(aa.others n).flatMap (·.2)
theorem sI {α β:Type}(xs:List α)(f:α->List β)(i:Nat)(h:i<xs.length):(xs.take (i+1)).flatMap f=(xs.take i).flatMap f++f xs[i]:=by
 rw[Bn h,CQ];simp only[List.flatMap_cons,Cf,BE]
theorem sJ {α β:Type}(xs:List α)(f:α->List β)(i:Nat):((xs.take i).flatMap f).length<=(xs.flatMap f).length:=by
 have:xs.flatMap f=(xs.take i).flatMap f++(xs.drop i).flatMap f:=(congrArg (List.flatMap f) (Br i xs).symm).trans CQ;rw[this];simp
theorem vh (K:Nat)(u:1048577<K)(y z:af):∃ c,(Q150.f K (y,z,())).map (λr=>r.1.1)=some c/\decide (c<0)=ltF y z:=by
 rw[qC K y z u];exact⟨_,rfl,rfl⟩
theorem Al (K:Nat)(n:aa)(J:NB n)(O:(dj n).length<=12)(M:1048577<K):Q175.f K (n,())=some ((di ltF [] (dj n),()),()):=by
 have hl:=J.others;have Y:(aa.table n).length+((aa.others n).flatMap (·.2)).length<=12:=by rw[<- BG];exact O
 simp only[Q175.f,Q175.pre,Q1.f];rw[iK (BZ (Nat.mul_le_mul_right _ J.table) (by decide))];simp only[AT];have u:∀ (d i k:Nat),i+d=(aa.others n).length->d<k->ae (λrec a=>Q175.s0 K (n,()) rec a) k (aa.table n++((aa.others n).take i).flatMap (·.2),(i:Int))=some ((di ltF [] (dj n),()),()):=by
  intro d;induction d with
  |zero =>
   intro i k Z hk;obtain⟨k,rfl⟩:∃ H,k=H+1:=⟨k-1,by omega⟩;have:i=(aa.others n).length:=by omega
   subst this;show Q175.s0 K (n,()) _ _=_;rw[Bj];simp only[Q175.s0,bf,cond_false];have e:=x8 K (dj n) (λI=>(Q150.f K (I.1,I.2.1,())).map λy=>y.1.1) ltF (λy z=>vh K M y z) O M;unfold dj at e ⊢;rw[e];simp only[AT,Q174.f];simp
  |succ d R =>
   intro i k Z hk;obtain⟨k,rfl⟩:∃ H,k=H+1:=⟨k-1,by omega⟩;have r:i<(aa.others n).length:=by omega
   show Q175.s0 K (n,()) _ _=_;simp only[Q175.s0];rw[bO (by omega:(i:Int)<(AU (aa.others n):Int)),ai r,au i (by omega)];simp only[cond_true,AT];have X:=sJ (aa.others n) (·.2) (i+1);rw[sI _ _ _ r,BG]at X;rw[pb (by simp only[BG];omega),Bl,<- sI _ (·.2) _ r];exact R (i+1) k (by omega) (by omega)
 have:=u (aa.others n).length 0 K (by omega) (by omega);simp only[List.take_zero,Cf,BE]at this;exact this
theorem fw {n:Int}(h:InP n 0 7):ao n=n / 4:=by
 obtain⟨r,u⟩:=h;unfold ao;rw[Ba r,aJ (by omega) (by omega)]
theorem zr {α:Type}{k:α->Int}{xs:List α}(h:Asc k xs):∀ i (r:i<xs.length),k (xs[0]'(by omega))+i<=k xs[i]:=by
 rw[gx]at h;intro i;induction i with
 |zero=>intro r;simp
 |succ i u =>
  intro r;have z:=u (by omega);have y:=h (i+1) r (by omega);simp only[Nat.add_sub_cancel]at y;omega
theorem kM {t:List af}{s:Int}(u:aA t)(z:bS t s):t.length<=4:=by
 cases h:t.length with
 |zero=>omega
 |succ m =>
  have r:m<t.length:=by omega
  have y:0<t.length:=by omega
  have O:=zr u.2 m r;have M:=z _ (AW r);have H:=z _ (AW y);have I:=(u.1 _ (AW r)).1;have J:=(u.1 _ (AW y)).1;rw[fw I]at M;rw[fw J]at H;omega
theorem j8 {u:Int}{l:List cj}(z:InP u 0 7)(h:cN u l):l=[]\/∃ x,l=[x]:=by
 match l,h with
 |[],_=>exact .inl rfl
 |[x],_=>exact .inr ⟨x,rfl⟩
 |x::y::r,h =>
  exfalso;have M:=h.1 x (by simp);have H:=h.1 y (by simp);have Y:x.1<y.1:=by
   have:=h.2;unfold Asc at this;rw[BK]at this;exact this.1 y (by simp)
  have e:=fw z;obtain⟨⟨X,a2⟩,J,_⟩:=M;obtain⟨⟨Z,R⟩,I,_⟩:=H;obtain⟨m1,O⟩:=z;rw[e]at J I;omega
theorem wI {n:aa}(r:NB n)(h:nq n):aa.table n=[]/\aa.cast n=[]/\aa.doubts n=[]/\aa.places n=[]/\aa.others n=[]:=by
 obtain⟨_,_,_,_,_,h,_⟩:=h;have H:=r.table;have y:=r.cast;have u:=r.doubts;have z:=r.places;have I:=r.others;rw[aJ (n:=(AU (aa.table n):Int)+(AU (aa.cast n):Int)) (by omega) (by omega)]at h;rw[aJ (n:=(AU (aa.table n):Int)+(AU (aa.cast n):Int)+(AU (aa.doubts n):Int)) (by omega) (by omega)]at h;rw[aJ (n:=(AU (aa.table n):Int)+(AU (aa.cast n):Int)+(AU (aa.doubts n):Int)+(AU (aa.places n):Int)) (by omega) (by omega)]at h;rw[aJ (by omega) (by omega)]at h;refine⟨BU ?_,BU ?_,BU ?_,BU ?_,BU ?_⟩ <;> omega
theorem mE {n:aa}(M:NB n)(r:dB n):(dj n).length<=8/\(aa.others n).length<=1:=by
 have O:=r.1;cases z:n.2.1 with
 |false =>
  have J:nq n:=by have:=r.2.2.2.2.2;rwa [if_neg (by rw[z];simp)]at this
  obtain⟨X,_,_,_,Y⟩:=wI M J;unfold dj;rw[X,Y];simp
 |true =>
  have R:UpP n:=by have:=r.2.2.2.2.2;rwa [if_pos z]at this
  obtain⟨I,H,_,_,_,_,_,_,y⟩:=R;have Z:=kM I H;unfold dj;rcases j8 O y with h|⟨x,h⟩
  ·rw[h];simp;omega
  ·have u:=y.1 x (by rw[h];simp);have:=kM u.2.2.2.1 u.2.2.2.2;rw[h];simp;omega
theorem lp {a:Int}{m:Nat}(u:m<4611686018427387904):0<=bt .i64 a (m:Int)/\bt .i64 a (m:Int)<=m:=by
 have h:(BitVec.ofInt 64 a &&& BitVec.ofInt 64 (m:Int)).toNat<=m:=by
  rw[BitVec.toNat_and];refine BZ Nat.and_le_right ?_;rw[BitVec.toNat_ofInt];omega
 show 0<=IntKind.i64.wrap (((BitVec.ofInt 64 a &&& BitVec.ofInt 64 (m:Int)).toNat:Nat):Int)/\IntKind.i64.wrap (((BitVec.ofInt 64 a &&& BitVec.ofInt 64 (m:Int)).toNat:Nat):Int)<=m;generalize (BitVec.ofInt 64 a &&& BitVec.ofInt 64 (m:Int)).toNat=r at h ⊢;rw[Cd];omega
def gy (g:List Int)(d:Int):Int:=g.getD (AV (Bx (bt .i64 d 255) (g.length:Int))) 0
theorem gZ {g:List Int}{d:Int}(h:g≠[]):idx g (Bx (bt .i64 d 255) (g.length:Int))=some (gy g d)/\idx g ((AV (Bx (bt .i64 d 255) (g.length:Int)):Nat):Int)=some (gy g d)/\gy g d∈g:=by
 have I:0<g.length:=CA.2 h;have u:=(lp (a:=d) (m:=255) (by omega)).1;have z:0<=Bx (bt .i64 d 255) (g.length:Int):=Ci _ u;have y:Bx (bt .i64 d 255) (g.length:Int)<g.length:=CV _ (by omega);unfold gy;obtain⟨v,H⟩:=AX z;rw[H]at y ⊢;have r:v<g.length:=by omega
 rw[AY,ai r,List.getD_eq_getElem?_getD,BF r];exact⟨rfl,rfl,AW r⟩
def lS (n:aa)(r d:Int):Int :=
 bif decide (fp (eP (aa.others n) r)≠[])&&bt .i64 d 4==0 then gy (fp (eP (aa.others n) r)) (Bf d (2 ^ 3)) else r*4+bt .i64 (Bf d (2 ^ 3)) 3
structure rP (n:aa):Prop where
 short:(aa.others n).length<=1
 table:∀ x∈aa.others n,aA x.2/\x.2.length<=1048576
theorem Am {r d:Int}(z:0<=r)(H:r<=1):wr .i64 (wr .i64 (r*4)+bt .i64 (Bf d (2 ^ 3)) 3)=r*4+bt .i64 (Bf d (2 ^ 3)) 3:=by
 obtain⟨u,y⟩:=lp (a:=Bf d (2 ^ 3)) (m:=3) (by omega);have u:0<=bt .i64 (Bf d (2 ^ 3)) 3:=u;have y:bt .i64 (Bf d (2 ^ 3)) 3<=3:=y;rw[aJ (n:=r*4) (by omega) (by omega),aJ (by omega) (by omega)]
theorem far_s (K:Nat)(n:aa)(r d:Int)(h:rP n)(J:0<=r)(O:r<=1)(M:1048577<K):Q96.f K (n,r,d,())=some ((lS n r d,()),()):=by
 obtain⟨k,rfl⟩:∃ k,K=k+2:=⟨K-2,by omega⟩;show Q96.s0 (k+2) (n,r,d,()) (ae (λrec a=>Q96.s0 (k+2) (n,r,d,()) rec a) (k+1)) 0=_;have y:∀ (rec:Int->Option ((Int×Unit)×Unit)) (a:Int),¬ a<(aa.others n).length->Q96.s0 (k+2) (n,r,d,()) rec a=some ((r*4+bt .i64 (Bf d (2 ^ 3)) 3,()),()):=by
  intro rec a X;simp only[Q96.s0];rw[show decide (a<(AU n.2.2.2.2.2.2.2.2.2.2.2.2.2.2:Int))=false from decide_eq_false X,Am J O];rfl
 match z:aa.others n with
 |[] =>
  rw[y _ _ (by rw[z];simp),lS,z];rfl
 |[x] =>
  have R:=h.table x (by rw[z];simp);have u:ae (λrec a=>Q96.s0 (k+2) (n,r,d,()) rec a) (k+1) 1=some ((r*4+bt .i64 (Bf d (2 ^ 3)) 3,()),()):=y _ _ (by rw[z];simp);generalize ae (λrec a=>Q96.s0 (k+2) (n,r,d,()) rec a) (k+1)=rec at u ⊢;simp only[Q96.s0];rw[show decide ((0:Int)<(AU n.2.2.2.2.2.2.2.2.2.2.2.2.2.2:Int))=true from decide_eq_true (by show (0:Int)<((aa.others n).length:Int);rw[z];simp),show idx n.2.2.2.2.2.2.2.2.2.2.2.2.2.2 (0:Int)=some x by show idx (aa.others n) (0:Int)=some x;rw[z];rfl,show wr .i64 ((0:Int)+1)=1 from rfl];simp only[cond_true,AT,u];rw[lS,z];cases I:x.1==r with
  |false =>
   simp only[cond_false,eP,CL,I,List.find?_nil];rfl
  |true =>
   simp only[cond_true,eP,CL,I,Option.map_some,Cc];rw[uk (k+2) x.2 R.2 M];simp only[AT];by_cases H:fp x.2=[]
   ·rw[H];rfl
   ·have Y:0<(fp x.2).length:=CA.2 H;rw[decide_eq_true H,decide_eq_true (by omega:((fp x.2).length:Int)>0)];simp only[cond_true,Bi];cases bt .i64 d 4==0 with
    |false=>rfl
    |true =>
     simp only[cond_true];rw[decide_eq_false (by omega:¬ ((fp x.2).length:Int)=0),(gZ H).1,(gZ H).2.1];rfl
 |_::_::_=>exact absurd h.short (by rw[z];simp)
def lq (n:aa):Bool:=decide (n.1∈fp (aa.table n))
theorem x9 (K:Nat)(n:aa)(R:(aa.table n).length<=1048576)(z:1048577<K):Q95.f K (n,())=rb (lq n):=by
 simp only[Q95.f,Q95.pre];rw[show Q94.f K (n.2.2.2.2.2.2.2.2.1,2,())=_ from uk K (aa.table n) R z];simp only[AT];have M:=wu (aa.table n);unfold lq;generalize fp (aa.table n)=g at M ⊢;have:=cG (step:=λrec a=>Q95.s0 K (n,()) rec a) g.length (λi=>(g,(i:Int))) (λj=>∃ h:j<g.length,g[j]=n.1) (rb false) (λ_=>rb true) ?_ ?_ g.length K 0 (by omega) (by omega)
 ·rcases this with ⟨y,u⟩|⟨j,_,y,⟨H,I⟩,_,u⟩
  ·rw[decide_eq_false (λO=>by
    obtain⟨i,r,e⟩:=BH O;exact y i (Bd _) r ⟨r,e⟩)]
   exact u
  ·rw[decide_eq_true (I ▸ AW H:n.1∈g)];exact u
 ·intro rec i r;simp only[Q95.s0];rw[bO (by omega:(i:Int)<(AU g:Int)),ai r,au i (by omega),AY,ai r];simp only[cond_true,AT];by_cases h:g[i]=n.1
  ·exact .inr ⟨⟨r,h⟩,by rw[show (g[i]==n.1)=true by simpa using h];rfl⟩
  ·exact .inl ⟨λ⟨_,J⟩=>h J,by rw[show (g[i]==n.1)=false by simpa using h];rfl⟩
 ·intro rec;simp only[Q95.s0,bf];rfl
def wanW (n:aa)(d r:Int):ap:=(2,(ph 6 n (lS n r d)).2)
def lT (n:aa)(d:Int):List ap:=bif lq n then (([0,1]:List Int).filter (λs=>s != ao n.1)).map (wanW n d) else []
theorem wan_s (K:Nat)(n:aa)(d:Int)(h:rP n)(y:(aa.table n).length<=1048576)(u:1048577<K):Q97.f K (n,d,())=some ((lT n d,()),()):=by
 simp only[Q97.f,Q97.pre];rw[x9 K n y u];simp only[AT,lT];cases lq n with
 |false=>rfl
 |true =>
  simp only[BC,cond_false,cond_true];refine qa (step:=λrec a=>Q97.s0 K (n,d,()) rec a) ([0,1]:List Int) (λs=>s != ao n.1) (wanW n d) (λr i=>(r,(i:Int))) (λI=>some ((I,()),())) ?_ ?_ (by simp;omega)
  ·intro rec r i M J;have z:i<2:=M;have H:([0,1]:List Int)[i]=(i:Int):=by
    have:i=0\/i=1:=by omega
    rcases this with rfl|rfl <;> rfl
   simp only[Q97.s0,H];rw[decide_eq_true (by omega:(i:Int)<=1),au i (by omega),cL K n.1];simp only[cond_true,AT];cases (i:Int) != ao n.1 with
   |false=>rfl
   |true =>
    simp only[cond_true];rw[far_s K n (i:Int) d h (by omega) (by omega) u];simp only[AT];refine (congrArg (λo=>BB o _) (nv K n 6 (lS n (i:Int) d) y)).trans ?_;simp only[AT];rw[szw _ _ _ (by omega) (by simp;omega)];rfl
  ·intro rec r J;simp only[Q97.s0];rfl
def sK (n:aa)(f:af):Bool:=f.2.2.1 != 4&&f.1 != n.1
def e9 (n:aa):List Int:=((aa.table n).filter (sK n)).map (·.1)
def sL (n:aa)(to:Int):List ap:=match aa.others n with
 |[]=>[]
 |x::_=>[(1,6,n.1,to,0,n.1,aa.coord n,x.2)]
def jL (n:aa)(r:Int):List ap :=
 bif bt .i64 r 3==1 then lT n (Bf r (2 ^ 2)) else
 bif bt .i64 r 3==3||decide (e9 n=[]) then [] else
 bif bt .i64 r 3==0 then [ph 4 n (gy (e9 n) (Bf r (2 ^ 2)))] else sL n (gy (e9 n) (Bf r (2 ^ 2)))
theorem and3 (a:Int):bt .i64 a 3=0\/bt .i64 a 3=1\/bt .i64 a 3=2\/bt .i64 a 3=3:=by
 obtain⟨u,r⟩:=lp (a:=a) (m:=3) (by omega);have u:0<=bt .i64 a 3:=u;have r:bt .i64 a 3<=3:=r;omega
theorem wJ {n:aa}(u:aA (aa.table n)){v:Int}(y:v∈e9 n):0<=v:=by
 obtain⟨f,r,rfl⟩:=BQ.1 y;exact (u.1 f (BA.1 r).1).1.1
theorem An (K:Nat)(n:aa)(d:Int)(M:(aa.table n).length<=1048576)(I:1048577<K):Q93.f K (n,d,())=some ((bif decide (e9 n=[]) then -1 else gy (e9 n) d,()),()):=by
 refine (u3 (step:=λrec a=>Q93.s0 K (n,d,()) rec a) (aa.table n) (sK n) (λf=>f.1) (λy=>some ((bif decide (y=[]) then -1 else gy y d,()),())) ?_ ?_ (by omega)).trans rfl
 ·intro rec r i z H;simp only[Q93.s0];rw[show decide ((i:Int)<(AU n.2.2.2.2.2.2.2.2.1:Int))=true from bO (by omega:(i:Int)<(AU (aa.table n):Int)),show idx n.2.2.2.2.2.2.2.2.1 (i:Int)=some (aa.table n)[i] from ai z,au i (by omega)];simp only[cond_true,AT,sK];rw[szb _ _ _ (by omega) (by simp;omega)];cases (aa.table n)[i].1 != n.1 <;> cases (aa.table n)[i].2.2.1 != 4 <;> rfl
 ·intro rec r _;simp only[Q93.s0];rw[show decide ((AU (aa.table n):Int)<(AU n.2.2.2.2.2.2.2.2.1:Int))=false from bf _];simp only[cond_false];by_cases u:r=[]
  ·subst u;rfl
  ·have J:0<r.length:=CA.2 u;rw[show ((r.length:Int)==0)=false by simp;exact u,decide_eq_false (by omega:¬ (r.length:Int)=0),decide_eq_false u,(gZ u).1,(gZ u).2.1];rfl
theorem Ao (K:Nat)(n:aa)(r:Int)(h:rP n)(M:aA (aa.table n))(H:(aa.table n).length<=1048576)(I:1048577<K):Q98.f K (n,r,())=some ((jL n r,()),()):=by
 simp only[Q98.f];rw[An K n _ H I];simp only[AT];rw[wan_s K n _ h H I];simp only[AT,jL];by_cases u:e9 n=[]
 ·rw[decide_eq_true u];simp only[cond_true,Cm,show decide ((-1:Int)>=0)=false from rfl,cond_false];rcases and3 r with e|e|e|e <;> rw[e] <;> rfl
 ·have O:=wJ M (gZ (d:=Bf r (2 ^ 2)) u).2.2;rw[decide_eq_false u];simp only[cond_false,Bool.or_false];rw[decide_eq_true (by omega:gy (e9 n) (Bf r (2 ^ 2))>=0)];simp only[cond_true];rw[show Q41.f K (n,4,gy (e9 n) (Bf r (2 ^ 2)),0,n.1,n.2.2.2.2.2.2.2.2.1,())=_ from nv K n 4 _ H];simp only[AT];rcases and3 r with e|e|e|e
  ·rw[e];rfl
  ·rw[e];rfl
  ·rw[e];simp only[show ((2:Int)==0)=false from rfl,show ((2:Int)==1)=false from rfl,show ((2:Int)==2)=true from rfl,show ((2:Int)==3)=false from rfl,cond_false,cond_true];unfold sL
   match y:aa.others n with
   |[] =>
    rw[show decide ((AU n.2.2.2.2.2.2.2.2.2.2.2.2.2.2:Int)>0)=false by show decide (((aa.others n).length:Int)>0)=false;rw[y];rfl];rfl
   |[x] =>
    have J:=h.table x (by rw[y];simp);have z:(aa.others n).length=1:=by rw[y];rfl
    rw[show decide ((AU n.2.2.2.2.2.2.2.2.2.2.2.2.2.2:Int)>0)=true by show decide (((aa.others n).length:Int)>0)=true;rw[z];rfl,show decide ((AU n.2.2.2.2.2.2.2.2.2.2.2.2.2.2:Int)=0)=false by show decide (((aa.others n).length:Int)=0)=false;rw[z];rfl];simp only[cond_true,cond_false];rw[show idx n.2.2.2.2.2.2.2.2.2.2.2.2.2.2 (Bx (bt .i64 (Bf r (2 ^ 10)) 255) (AU n.2.2.2.2.2.2.2.2.2.2.2.2.2.2:Int))=some x by
     show idx (aa.others n) (Bx (bt .i64 (Bf r (2 ^ 10)) 255) ((aa.others n).length:Int))=some x;rw[z,y,show ((1:Nat):Int)=1 from rfl,Int.tmod_one];rfl]
    simp only[AT,Q41.f];rw[szb _ _ _ (by omega) (by have:=J.2;simp;omega)];rfl
   |_::_::_=>exact absurd h.short (by rw[y];simp)
  ·rw[e];rfl
def rk (f:af):Int:=f.2.1*16+f.2.2.1*2+(if f.2.2.2=true then 1 else 0)
theorem qc {f g:af}(r:bC f)(u:bC g):bE f g<->rk g<rk f:=by
 obtain⟨_,_,I,z⟩:=r;obtain⟨_,_,y,H⟩:=u;unfold bE rk;by_cases a:f.2.1=g.2.1
 ·rw[if_neg (by simpa using a)];by_cases c:f.2.2.1=g.2.2.1
  ·rw[if_neg (by simpa using c),a,c];cases f.2.2.2 <;> cases g.2.2.2 <;> simp <;> omega
  ·rw[if_pos c];cases f.2.2.2 <;> cases g.2.2.2 <;> simp <;> omega
 ·rw[if_pos a];cases f.2.2.2 <;> cases g.2.2.2 <;> simp <;> omega
theorem nN {t:List af}(H:Asc (λg:af=>g.1) t)(f:af):bY t f=(t,false)\/(bY t f=(bM (λg=>g.1) f t,true)/\∀ g∈t,g.1=f.1->bE f g):=by
 by_cases h:∃ g∈t,g.1=f.1
 ·obtain⟨g,r,e⟩:=h;obtain⟨i,J,rfl⟩:=BH r;rw[lL H J e];by_cases u:bE f t[i]
  ·rw[if_pos u];refine .inr ⟨rfl,λM y I=>?_⟩;rw[gW H y r (by rw[e,I])];exact u
  ·rw[if_neg u];exact .inl rfl
 ·have z:∀ g∈t,g.1≠f.1:=λg r e=>h ⟨g,r,e⟩
  exact .inr ⟨iL z,λg r e=>absurd e (z g r)⟩
theorem nO {n:aa}(X:aA (aa.table n)):ii n<->(∀ d∈aa.doubts n,lk n d)/\Asc (λd:ca=>d.1) (aa.doubts n)/\∀ f∈aa.table n,f.2.2.1=2->∃ d∈aa.doubts n,d.1=f.1:=by
 have H:((aQ (aa.table n)).map (λf:af=>f.1)).Pairwise (·<·):=by
  rw[BY];exact Bw _ X.2
 constructor
 ·rintro⟨h1,h2,h3⟩;refine⟨h1,h2,λf J u=>?_⟩;have r:((aa.doubts n).map (λd:ca=>d.1)).Pairwise (·<·):=by rw[BY];exact h2
  have:=(iH _ _ r H (λx y=>by
   obtain⟨d,r,rfl⟩:=BQ.1 y;obtain⟨⟨g,I,e,M,_⟩,_⟩:=h1 d r;exact BQ.2 ⟨g,BA.2 ⟨I,by simpa using M⟩,e⟩)).2 (by rw[BW,BW,h3])
  have O:f.1∈(aQ (aa.table n)).map (λf:af=>f.1):=BQ.2 ⟨f,BA.2 ⟨J,by simpa using u⟩,rfl⟩;rw[<- this]at O;obtain⟨d,r,e⟩:=BQ.1 O;exact⟨d,r,e⟩
 ·rintro⟨h1,h2,h3⟩;refine⟨h1,h2,?_⟩;have r:((aa.doubts n).map (λd:ca=>d.1)).Pairwise (·<·):=by rw[BY];exact h2
  have Y:=(iH _ _ r H (λx y=>by
   obtain⟨d,r,rfl⟩:=BQ.1 y;obtain⟨⟨g,I,e,M,_⟩,_⟩:=h1 d r;exact BQ.2 ⟨g,BA.2 ⟨I,by simpa using M⟩,e⟩)).1
  have R:=(iH _ _ H r (λx y=>by
   obtain⟨f,J,rfl⟩:=BQ.1 y;obtain⟨z,u⟩:=BA.1 J;obtain⟨d,r,e⟩:=h3 f z (by simpa using u);exact BQ.2 ⟨d,r,e⟩)).1
  rw[BW,BW]at Y R;omega
def b6 (n:aa):Int:=n.2.2.2.2.2.1
def fa (n:aa)(b:Int):Prop:=InP b 0 7/\ao b=ao n.1
theorem nP {n:aa}(u:Asc (λg:af=>g.1) (aa.table n))(f:af)(b:Int):sayOf n f b=n \/
  (sayOf n f b=iM n (bM (λg=>g.1) f (aa.table n)) (eY (aa.cast n) f) (bif km n f then aa.doubts n else cY (b6 n) (aa.doubts n) f b)/\∀ g∈aa.table n,g.1=f.1->bE f g):=by
 rcases nN u f with h|⟨h,r⟩
 ·left;unfold sayOf;rw[h];rfl
 ·right;refine⟨?_,r⟩;unfold sayOf;rw[h];rfl
theorem vi {n:aa}{f:af}{b:Int}(O:aA (aa.table n))(hD:ii n)(hf:bC f)(hb:fa n b)(hn:0<=b6 n)(c:List aV) :
  ii (iM n (bM (λg=>g.1) f (aa.table n)) c (bif km n f then aa.doubts n else cY (b6 n) (aa.doubts n) f b)):=by
 obtain⟨h1,Z,h3⟩:=(nO O).1 hD;have a1:aA (bM (λg:af=>g.1) f (aa.table n)):=⟨λg y=>by
  rcases aW.1 y with rfl|⟨y,_⟩
  ·exact hf
  ·exact O.1 g y,eN O.2⟩
 refine (nO (n:=iM n _ c _) a1).2 ?_;have J:∀ d∈aa.doubts n,d.1≠f.1->∀ ds,lk (iM n (bM (λg:af=>g.1) f (aa.table n)) c ds) d:=λd z u ds=>by
  obtain⟨⟨g,y,Y,R,X⟩,r⟩:=h1 d z;exact⟨⟨g,aW.2 (.inr ⟨y,by rw[Y];exact u⟩),Y,R,X⟩,r⟩
 have I:∀ g∈bM (λg:af=>g.1) f (aa.table n),g.1≠f.1->g.2.2.1=2->∃ d∈aa.doubts n,d.1=g.1:=λg y u h=>by
  rcases aW.1 y with rfl|⟨y,_⟩
  ·exact absurd rfl u
  ·exact h3 g y h
 cases hs:km n f with
 |true =>
  obtain⟨g0,M,s1,s2,s3⟩:=of_decide_eq_true hs;refine⟨λd z=>?_,Z,λg y h=>?_⟩
  ·by_cases u:d.1=f.1
   ·obtain⟨⟨g,y,Y,R,X⟩,r⟩:=h1 d z;rw[gW O.2 y M (by rw[Y,s1,u])]at R X;exact⟨⟨f,aW.2 (.inl rfl),u.symm,by rw[<- s3];exact R,by rw[<- s2];exact X⟩,r⟩
   ·exact J d z u _
  ·by_cases u:g.1=f.1
   ·have a0:g=f:=by
     rcases aW.1 y with h|⟨_,h⟩
     ·exact h
     ·exact absurd u h
    rw[a0]at h ⊢;obtain⟨d,z,e⟩:=h3 g0 M (by rw[s3];exact h);exact⟨d,z,by rw[e,s1]⟩
   ·exact I g y u h
 |false =>
  by_cases H:f.2.2.1=2
  ·have e:cY (b6 n) (aa.doubts n) f b=bM (λd=>d.1) (mkD (b6 n) f b) (aa.doubts n):=by unfold cY;rw[if_pos H]
   simp only[cond_false];rw[e];refine⟨λd z=>?_,eN Z,λg y h=>?_⟩
   ·rcases aW.1 z with rfl|⟨z,u⟩
    ·exact⟨⟨f,aW.2 (.inl rfl),rfl,H,rfl⟩,⟨hn,BT _⟩,List.cons_ne_nil _ _,λx hx=>by rw[BN.1 hx];exact hb,CI _ _⟩
    ·exact J d z u _
   ·by_cases u:g.1=f.1
    ·exact⟨mkD (b6 n) f b,aW.2 (.inl rfl),u.symm⟩
    ·obtain⟨d,z,e⟩:=I g y u h;exact⟨d,aW.2 (.inr ⟨z,λe'=>u (e.symm.trans e')⟩),e⟩
  ·have e:cY (b6 n) (aa.doubts n) f b=(aa.doubts n).filter (λd=>!(d.1==f.1)):=by unfold cY;rw[if_neg H]
   simp only[cond_false];rw[e];refine⟨λd z=>?_,pf Z _,λg y h=>?_⟩
   ·obtain⟨z,u⟩:=BA.1 z;exact J d z (by simpa using u) _
   ·have u:g.1≠f.1:=λu=>by
     rcases aW.1 y with h'|⟨_,h'⟩
     ·rw[h']at h;exact H h
     ·exact h' u
    obtain⟨d,z,e⟩:=I g y u h;exact⟨d,BA.2 ⟨z,by rw[e];simpa using u⟩,e⟩
theorem vj {n:aa}{f:af}(R:aA (aa.table n))(X:cX (aa.cast n))(Y:gG (aa.table n) (aa.cast n))(M:bC f)(O:∀ g∈aa.table n,g.1=f.1->bE f g) :
  gG (bM (λg=>g.1) f (aa.table n)) (eY (aa.cast n) f):=by
 have z:∀ x∈aa.cast n,∃ g∈bM (λg:af=>g.1) f (aa.table n),g.1=x.1.1/\¬ bE x.1 g:=λx r=>by
  obtain⟨g,J,e,I⟩:=Y x r;by_cases u:g.1=f.1
  ·refine⟨f,aW.2 (.inl rfl),by rw[<- e,u],λh=>I ?_⟩;have H:=(X.1 x r).1;have y:=R.1 g J;have:=O g J u;rw[qc M y]at this;rw[qc H M]at h;rw[qc H y];omega
  ·exact⟨g,aW.2 (.inr ⟨J,u⟩),e,I⟩
 intro x r;unfold eY at r;split at r
 ·exact z x r
 ·rcases aW.1 r with rfl|⟨r,_⟩
  ·exact⟨f,aW.2 (.inl rfl),rfl,wD f⟩
  ·exact z x r
structure UpX (n:aa):Prop where
 me:InP n.1 0 7
 now0:0<=b6 n
 table:aA (aa.table n)
 site:bS (aa.table n) (ao n.1)
 cast:cX (aa.cast n)
 vs:gG (aa.table n) (aa.cast n)
 probe:cM n
 doubts:ii n
 coord:cn (aa.coord n)
 places:dZ n.1 (aa.places n)
 others:cN n.1 (aa.others n)
theorem UpX.of {n:aa}(h:UpP n)(O:InP n.1 0 7)(z:0<=b6 n):UpX n:=by
 obtain⟨R,H,_,⟨I,X⟩,M,J,u,y,r⟩:=h;exact⟨O,z,R,H,I,X,M,J,u,y,r⟩
theorem UpX.up {n:aa}(h:UpX n)(r:cR n):UpP n:=⟨h.table,h.site,r,⟨h.cast,h.vs⟩,h.probe,h.doubts,h.coord,h.places,h.others⟩
theorem UpX.say {n:aa}(h:UpX n):cH n:=by
 refine cH.mk' h.table h.cast h.doubts.2.1 λd u=>?_
 obtain⟨f,r,e,_⟩:=(h.doubts.1 d u).1;rw[<- e];exact (h.table.1 f r).1
theorem fa.me {n:aa}(h:InP n.1 0 7):fa n n.1:=⟨h,rfl⟩
theorem qK {n m:aa}(h:cM n)(hm:m.1=n.1)(Y:aa.probe m=aa.probe n)(ht:∀ g∈aa.table n,∃ y∈aa.table m,y.1=g.1)(z:b6 n<=b6 m)(R:n.2.2.2.2.2.2.1<=m.2.2.2.2.2.2.1):cM m:=by
 unfold cM at h ⊢;rw[Y,hm];split at h
 ·rename_i u;rw[if_pos u];exact h
 ·rename_i u;rw[if_neg u];obtain⟨M,⟨g,X,H⟩,⟨p2,I⟩,⟨O,Z⟩⟩:=h;obtain⟨y,r,J⟩:=ht g X;exact⟨M,⟨y,r,J.trans H⟩,⟨p2,B5 I z⟩,⟨O,B5 Z R⟩⟩
theorem UpX.said {n:aa}{f:af}{b:Int}(h:UpX n)(u:bC f)(z:ao f.1=ao n.1)(H:fa n b):UpX (sayOf n f b):=by
 rcases nP h.table.2 f b with e|⟨e,I⟩
 ·rw[e];exact h
 ·have y:=λg r=>ji (n:=n) (f:=f) (b:=b) (g:=g) r
  rw[e]at y ⊢;refine⟨h.me,h.now0,⟨λg r=>?_,eN h.table.2⟩,λg r=>?_,pg h.cast u,vj h.table h.cast h.vs u I,qK h.probe rfl rfl y (BT _) (BT _),vi h.table h.doubts u H h.now0 _,h.coord,h.places,h.others⟩
  ·rcases aW.1 r with rfl|⟨r,_⟩
   ·exact u
   ·exact h.table.1 g r
  ·rcases aW.1 r with rfl|⟨r,_⟩
   ·exact z
   ·exact h.site g r
theorem wK {n:aa}(u:Asc (λg:af=>g.1) (aa.table n)){f g:af}{b:Int}(r:g.1≠f.1):g∈aa.table (sayOf n f b)<->g∈aa.table n:=by
 rcases nP u f b with e|⟨e,_⟩
 ·rw[e]
 ·rw[e];exact aW.trans ⟨λh=>h.elim (λh=>absurd (by rw[h]) r) (·.1),λh=>.inr ⟨h,r⟩⟩
theorem qL {n:aa}(z:Asc (λg:af=>g.1) (aa.table n)){f:af}{b:Int}(h:∀ g∈aa.table n,g.1=f.1->bE f g):f∈aa.table (sayOf n f b):=by
 have I:bY (aa.table n) f=(bM (λg=>g.1) f (aa.table n),true):=by
  rcases nN z f with e|⟨e,_⟩
  ·by_cases u:∃ g∈aa.table n,g.1=f.1
   ·obtain⟨g,r,y⟩:=u;obtain⟨i,H,rfl⟩:=BH r;rw[lL z H y,if_pos (h _ r y)]
   ·exact iL λg r e=>u ⟨g,r,e⟩
  ·exact e
 unfold Go.Proofs.YtaegajachoklkaaGreatEv.sayOf;rw[I];exact aW.2 (.inl rfl)
def OnN (n m:aa):Prop:=∃ t c r,m=iM n t c r
theorem OnN.refl (n:aa):OnN n n:=⟨_,_,_,rfl⟩
theorem OnN.say {n m:aa}(h:OnN n m)(f:af)(b:Int):OnN n (Go.Proofs.YtaegajachoklkaaGreatEv.sayOf m f b):=by
 obtain⟨t,c,y,rfl⟩:=h;obtain⟨u,z,r,e,_⟩:=jh (iM n t c y) f b;exact⟨u,z,r,e⟩
def lU (n:aa):af:=(n.1,n.2.2.2.2.1,(if n.2.2.1=true then 4 else 1),n.2.2.2.1)
theorem oH {n m:aa}(J:Asc (λg:af=>g.1) (aa.table m))(y:OnN n m){f:af}{b:Int}(r:f.1≠n.1)(h:cR m):cR (sayOf m f b):=by
 obtain⟨t,c,O,e⟩:=y.say f b;obtain⟨M,R,H,z⟩:=y;have I:lU n∈aa.table m:=by rw[z]at h ⊢;exact h
 have u:=(wK J (f:=f) (b:=b) (g:=lU n) (λh=>r h.symm)).2 I;rw[e]at u ⊢;exact u
theorem ya {n:aa}(h:UpX n)(z:cR n){d:ca}(H:d∈aa.doubts n):d.1≠n.1:=by
 obtain⟨⟨g,I,e,r,_⟩,_⟩:=h.doubts.1 d H;intro y;have u:lU n∈aa.table n:=z;have:=gW h.table.2 I u (by rw[e,y];rfl);rw[this]at r;revert r;show (if n.2.2.1=true then (4:Int) else 1)=2->False;split <;> omega
theorem mF {n:aa}(h:UpX n)(hs:cR n):UpX (jX n)/\cR (jX n)/\OnN n (jX n):=by
 have:=lM (st:=gX) (Inv:=λm=>(UpX m/\cR m/\OnN n m)/\∀ g∈aa.table n,∃ O∈aa.table m,O.1=g.1) (ds:=aa.doubts n) (n:=n) ⟨⟨h,hs,OnN.refl n⟩,λg y=>⟨g,y,rfl⟩⟩ ?_
 ·exact this.1
 ·rintro m d Z ⟨⟨r,u,H⟩,Y⟩;have M:=ya h hs Z;unfold gX;cases qb m.2.2.2.2.2.1 d.2.2.1 d.2.2.2.length with
  |false=>exact⟨⟨r,u,H⟩,Y⟩
  |true =>
   obtain⟨⟨g,y,e,_⟩,_⟩:=h.doubts.1 d Z;obtain⟨O,I,e'⟩:=Y g y;obtain⟨h1,h2,h3⟩:=eH r.table ⟨O,I,e'.trans e⟩;have z:ao (kq (aT (aa.table m) d.1)).1=ao m.1:=by
    show ao (aT (aa.table m) d.1).1=ao m.1;exact r.site _ h3
   have R:(kq (aT (aa.table m) d.1)).1≠n.1:=by rw[show (kq (aT (aa.table m) d.1)).1=_ from h2];exact M
   refine⟨⟨r.said (um h1) z (fa.me r.me),oH r.table.2 H R u,H.say _ _⟩,λg y=>?_⟩;obtain⟨g1,X,e1⟩:=Y g y;obtain⟨g2,J,e2⟩:=ji (f:=kq (aT (aa.table m) d.1)) (b:=m.1) X;exact⟨g2,J,e2.trans e1⟩
theorem UpX.setProbe {n:aa}(h:UpX n){p:af}(r:cM (setP n p)):UpX (setP n p):=⟨h.me,h.now0,h.table,h.site,h.cast,h.vs,r,h.doubts,h.coord,h.places,h.others⟩
theorem wL (n:aa):cM (setP n noP):=by
 unfold cM;exact (if_pos rfl).mpr rfl
theorem wM {n:aa}(h:UpX n)(z:cR n):UpX (cZ n).1/\cR (cZ n).1/\∃ p,OnN (setP n p) (cZ n).1:=by
 have r:UpX n/\cR n/\∃ p,OnN (setP n p) n:=⟨h,z,aa.probe n,OnN.refl n⟩;have y:UpX (setP n noP):=h.setProbe (wL n);unfold cZ;cases R:(aa.probe n).1==-1 with
 |true=>exact r
 |false =>
  have H:(aa.probe n).1≠-1:=by simpa using R
  have u:=h.probe;unfold cM at u;rw[if_neg H]at u;simp only[cond_false];cases O:ee (aT (aa.table n) (aa.probe n).1) with
  |false=>exact⟨y,z,_,OnN.refl _⟩
  |true =>
   obtain⟨X,M,J⟩:=eH h.table (gI O);simp only[BC,cond_false];cases decide (n.2.2.2.2.2.1-(aa.probe n).2.1>=4) with
   |true =>
    simp only[cond_true];cases (aT (aa.table n) (aa.probe n).1).2.2.1==1 with
    |true =>
     have I:ao (pj (aT (aa.table n) (aa.probe n).1)).1=ao (setP n noP).1:=by
      show ao (aT (aa.table n) (aa.probe n).1).1=ao n.1;exact h.site _ J
     refine⟨y.said (zk X) I (fa.me (n:=setP n noP) h.me),oH (n:=setP n noP) (m:=setP n noP) h.table.2 (OnN.refl (setP n noP)) ?_ z,noP,(OnN.refl (setP n noP)).say _ _⟩;rw[show (pj (aT (aa.table n) (aa.probe n).1)).1=_ from M];exact u.1
    |false=>exact⟨y,z,_,OnN.refl _⟩
   |false =>
    simp only[cond_false];cases decide (n.2.2.2.2.2.1-(aa.probe n).2.1>=2) with
    |false=>exact r
    |true =>
     simp only[cond_true];cases (aa.probe n).2.2.2 with
     |true=>exact r
     |false =>
      refine⟨h.setProbe ?_,z,_,OnN.refl _⟩;show cM (lm n);unfold cM;rw[if_neg (show ¬ (aa.probe (lm n)).1=-1 from H)];exact u
def iw (n:aa):Option Int:=((List.range 8).map (co n)).find? λx=>x != n.1&&ee (aT (aa.table n) x)
def jp (n:aa):Int:=n.2.2.2.2.2.2.1
def dC (n:aa):aa×List ap:=bif decide (jp n>=999999) then (n,[]) else match iw n with
 |some to=>(askN n to,[pingW n to])
 |none=>(n,[])
theorem qM {n:aa}{to:Int}(h:iw n=some to):to≠n.1/\ee (aT (aa.table n) to)=true:=by
 have:=CM h;simpa using this
theorem wN {l:List aV}{T:List Int}{x:aV}(h:x∈eQ l T l.length):∃ y∈l,x.1=y.1:=by
 unfold eQ at h;obtain⟨u,_⟩:=BA.1 h;obtain⟨i,r,rfl⟩:=BH u;rw[lQ]at r;rw[lR l T r];refine⟨l[i],AW r,?_⟩;unfold fQ;rw[dR r];cases decide ((i:Int)∈T) <;> rfl
theorem UpX.way {n:aa}(h:UpX n):UpX (j0 n):=⟨h.me,h.now0,h.table,h.site,x7 h.cast _,λx r=>by
 obtain⟨y,I,e⟩:=wN r;obtain⟨g,z,H,u⟩:=h.vs y I;exact⟨g,z,by rw[e,H],by rw[e];exact u⟩,h.probe,h.doubts,h.coord,h.places,h.others⟩
structure sM (n:aa):Prop where
 seq:InP (jp n) 0 999999
 turn:InP n.2.2.2.2.2.2.2.1 0 8
theorem Ap {n:aa}(h:UpX n)(u:cR n)(y:sM n):UpX (dC n).1/\cR (dC n).1/\sM (dC n).1/\(dC n).1.1=n.1/\b6 (dC n).1=b6 n/\(dC n).1.2.2.2.2.1=n.2.2.2.2.1:=by
 unfold dC;by_cases J:jp n>=999999
 ·rw[decide_eq_true J];exact⟨h,u,y,rfl,rfl,rfl⟩
 ·rw[decide_eq_false J];simp only[cond_false];cases M:iw n with
  |none=>exact⟨h,u,y,rfl,rfl,rfl⟩
  |some to =>
   obtain⟨z,R⟩:=qM M;obtain⟨X,I,O⟩:=eH h.table (gI R);obtain⟨⟨Y,Z⟩,_⟩:=y;have r:InP to 0 7:=I ▸ X.1;have H:=h.way;refine⟨⟨h.me,h.now0,h.table,h.site,H.cast,H.vs,?_,h.doubts,h.coord,h.places,h.others⟩,u,⟨⟨show 0<=jp n+1 by omega,show jp n+1<=999999 by omega⟩,show 0<=to+1 by have:=r.1;omega,show to+1<=8 by have:=r.2;omega⟩,rfl,rfl,rfl⟩;show cM (askN n to);unfold cM;rw[if_neg (show ¬ (aa.probe (askN n to)).1=-1 by have:=r.1;show ¬ to=-1;omega)];exact⟨z,⟨_,O,I⟩,⟨h.now0,BT _⟩,show 1<=jp n+1 by omega,BT _⟩
def dM (n:aa):aa:=(n.1,n.2.1,n.2.2.1,n.2.2.2.1,n.2.2.2.2.1,n.2.2.2.2.2.1+1,n.2.2.2.2.2.2)
def fb (m:aa):aa×List ap:=bif (aa.probe m).1==-1 then dC m else (m,[])
def fe (n:aa):aa×List ap:=cZ (jX (dM n))
def kv (n:aa):aa:=(fb (fe n).1).1
def po (n:aa)(r:Int):List ap:=(fe n).2++(fb (fe n).1).2++jL (kv n) r
theorem UpX.later {n:aa}(h:UpX n):UpX (dM n):=by
 have J:b6 (dM n)=b6 n+1:=rfl;have M:=h.now0;refine⟨h.me,by omega,h.table,h.site,h.cast,h.vs,qK h.probe rfl rfl (λg H=>⟨g,H,rfl⟩) (by omega) (BT _),⟨λd z=>?_,h.doubts.2⟩,h.coord,h.places,h.others⟩;obtain⟨r,⟨y,u⟩,I⟩:=h.doubts.1 d z;exact⟨r,⟨y,B5 u (show b6 n<=b6 (dM n) by omega)⟩,I⟩
structure UpN (n:aa):Prop where
 x:UpX n
 self:cR n
 now1:b6 n<=999999
 seq:sM n
 inc:InP n.2.2.2.2.1 0 999
 up:n.2.1=true
theorem UpN.of {n:aa}(h:dB n)(y:n.2.1=true):UpN n:=by
 obtain⟨I,u,z,H,J,r⟩:=h;rw[if_pos y]at r;exact⟨UpX.of r I u.1,r.2.2.1,u.2,⟨z,H⟩,J,y⟩
theorem UpN.ok {n:aa}(h:UpN n):dB n:=⟨h.x.me,⟨h.x.now0,h.now1⟩,h.seq.seq,h.seq.turn,h.inc,by rw[if_pos h.up];exact h.x.up h.self⟩
theorem pq {n:aa}(h:UpN n)(hm:b6 n<999999):UpN (fe n).1/\(fe n).1.1=n.1/\(fe n).1.2.2.1=n.2.2.1:=by
 have R:cR (dM n):=h.self;obtain⟨I,u,H⟩:=mF h.x.later R;obtain⟨O,r,p,J⟩:=wM I u;obtain⟨t,c,Y,M⟩:=H;obtain⟨X,Z,y,z⟩:=J;have e:(fe n).1=_:=z;rw[M]at e;refine⟨⟨O,r,?_,⟨?_,?_⟩,?_,?_⟩,?_,?_⟩
 ·show b6 (fe n).1<=999999;rw[e];show b6 n+1<=999999;omega
 ·show InP (jp (fe n).1) 0 999999;rw[e];exact h.seq.seq
 ·show InP (fe n).1.2.2.2.2.2.2.2.1 0 8;rw[e];exact h.seq.turn
 ·show InP (fe n).1.2.2.2.2.1 0 999;rw[e];exact h.inc
 ·show (fe n).1.2.1=true;rw[e];exact h.up
 ·rw[e];rfl
 ·rw[e];rfl
theorem sN {m:aa}:(dC m).1.2.1=m.2.1/\(dC m).1.2.2.1=m.2.2.1:=by
 unfold dC;cases decide (jp m>=999999) with
 |true=>exact⟨rfl,rfl⟩
 |false =>
  cases iw m with
  |none=>exact⟨rfl,rfl⟩
  |some to=>exact⟨rfl,rfl⟩
theorem vk {m:aa}(h:UpN m):UpN (fb m).1/\(fb m).1.1=m.1/\(fb m).1.2.2.1=m.2.2.1:=by
 unfold fb;cases (aa.probe m).1==-1 with
 |false=>exact⟨h,rfl,rfl⟩
 |true =>
  obtain⟨z,r,y,H,u,I⟩:=Ap h.x h.self h.seq;refine⟨⟨z,r,?_,y,?_,?_⟩,H,sN.2⟩
  ·show b6 (dC m).1<=999999;rw[u];exact h.now1
  ·show InP (dC m).1.2.2.2.2.1 0 999;rw[I];exact h.inc
  ·show (dC m).1.2.1=true;rw[sN.1];exact h.up
theorem qd {n:aa}(h:UpN n)(H:b6 n<999999):UpN (kv n)/\(kv n).1=n.1/\(kv n).2.2.1=n.2.2.1:=by
 obtain⟨I,u,r⟩:=pq h H;obtain⟨y,J,z⟩:=vk I;exact⟨y,J.trans u,z.trans r⟩
theorem yb {f g:af}(h:g.2.1<f.2.1):bE f g:=by
 unfold bE;rw[if_pos (by omega)];exact h
theorem zt {f g:af}(h:bE f g):g.2.1<=f.2.1:=by
 unfold bE at h;split at h <;> omega
theorem UpX.inc {n:aa}(h:UpX n)(i:Int):UpX (gY n i):=⟨h.me,h.now0,h.table,h.site,h.cast,h.vs,h.probe,h.doubts,h.coord,h.places,h.others⟩
theorem qN {n:aa}(h:UpX n)(r:cR n){g:af}(u:g∈aa.table n)(e:g.1=n.1):g=lU n:=gW h.table.2 u r (by rw[e];rfl)
theorem wO {n:aa}(h:UpX n)(r:cR n):aT (aa.table n) n.1=lU n:=ko h.table.2 (f:=lU n) r
theorem yc {n:aa}(h:UpN n)(H:n.2.2.1=false):UpN (mA n)/\(mA n).1=n.1:=by
 have z:bC (n.1,n.2.2.2.2.1,4,n.2.2.2.1):=⟨h.x.me,h.inc,show (1:Int)<=4 by omega,show (4:Int)<=4 by omega⟩;have r:=h.x.said z rfl (fa.me h.x.me);have y:(n.1,n.2.2.2.2.1,(4:Int),n.2.2.2.1)∈aa.table (sayOf n (n.1,n.2.2.2.2.1,4,n.2.2.2.1) n.1):=qL h.x.table.2 λg u e=>by
  rw[qN h.x h.self u e];unfold bE lU;rw[H];simp
 obtain⟨t,c,I,e⟩:=(OnN.refl n).say (n.1,n.2.2.2.2.1,4,n.2.2.2.1) n.1;unfold mA;rw[e]at r y ⊢;exact⟨⟨⟨r.me,r.now0,r.table,r.site,r.cast,r.vs,r.probe,r.doubts,r.coord,r.places,r.others⟩,y,h.now1,⟨h.seq.seq,h.seq.turn⟩,h.inc,h.up⟩,rfl⟩
theorem wP {n:aa}{f:af}(h:UpN n)(u:n.2.2.1=false)(J:bC f):UpN (fq n f)/\(fq n f).1=n.1/\(fq n f).2.2.1=false:=by
 unfold fq;cases I:decide (bE f (aT (aa.table n) n.1))&&decide (f.2.1<999) with
 |false=>exact⟨h,rfl,u⟩
 |true =>
  rw[Bc,decide_eq_true_eq,decide_eq_true_eq,wO h.x h.self]at I;obtain⟨X,R⟩:=I;have M:n.2.2.2.2.1<=f.2.1:=zt X;have r:=un (n:=n) h.x.me J R;have z:UpX (sayOf (gY n (f.2.1+1)) (n.1,f.2.1+1,1,n.2.2.2.1) n.1):=(h.x.inc (f.2.1+1)).said r rfl (fa.me (n:=gY n (f.2.1+1)) h.x.me);have H:(n.1,f.2.1+1,(1:Int),n.2.2.2.1)∈aa.table (sayOf (gY n (f.2.1+1)) (n.1,f.2.1+1,1,n.2.2.2.1) n.1):=qL (n:=gY n (f.2.1+1)) h.x.table.2 λg y e=>by
   rw[qN h.x h.self y e];exact yb (show n.2.2.2.2.1<f.2.1+1 by omega)
  obtain⟨t,c,O,e⟩:=(OnN.refl (gY n (f.2.1+1))).say (n.1,f.2.1+1,1,n.2.2.2.1) n.1;simp only[cond_true];rw[show sayOf (gY n (f.2.1+1)) (n.1,f.2.1+1,1,n.2.2.2.1) n.1=iM (gY n (f.2.1+1)) t c O from e]at z H ⊢;refine⟨⟨z,?_,h.now1,⟨h.seq.seq,h.seq.turn⟩,r.2.1,h.up⟩,rfl,u⟩;show (n.1,f.2.1+1,(if n.2.2.1=true then (4:Int) else 1),n.2.2.2.1)∈_;rw[u];exact H
theorem mG (f:af)(b:Int)(d:ca):(dQ f b d).1=d.1/\(dQ f b d).2.1=d.2.1/\(dQ f b d).2.2.1=d.2.2.1:=by
 unfold dQ;cases d.1==f.1&&d.2.1==f.2.1&&f.2.2.1==2 <;> exact⟨rfl,rfl,rfl⟩
theorem UpX.conf {n:aa}(h:UpX n)(f:af){b:Int}(R:fa n b):UpX (kr n f b):=by
 refine⟨h.me,h.now0,h.table,h.site,h.cast,h.vs,h.probe,⟨λd M=>?_,?_,?_⟩,h.coord,h.places,h.others⟩
 ·obtain⟨r,y,rfl⟩:=BQ.1 M;obtain⟨X,H,k3⟩:=mG f b r;obtain⟨⟨g,O,e1,Y,Z⟩,I,J,z⟩:=h.doubts.1 r y;refine⟨⟨g,O,by rw[X];exact e1,Y,by rw[H];exact Z⟩,by rw[k3];exact I,?_⟩;unfold dQ;cases r.1==f.1&&r.2.1==f.2.1&&f.2.2.1==2 with
  |false=>exact⟨J,z⟩
  |true =>
   refine⟨CW (aW.2 (.inl rfl)),λx u=>?_,eN z.2⟩;rcases aW.1 u with rfl|⟨u,_⟩
   ·exact R
   ·exact z.1 x u
 ·show Asc _ ((aa.doubts n).map (dQ f b));unfold Asc;rw[BY];exact h.doubts.2.1.imp λ {a c} h=>by show (dQ f b a).1<(dQ f b c).1;rw[(mG f b a).1,(mG f b c).1];exact h
 ·show _=((aa.doubts n).map (dQ f b)).length;rw[BW];exact h.doubts.2.2
theorem sO {n:aa}{f:af}{b:Int}(h:UpN n)(H:n.2.2.1=false)(z:bC f)(J:ao f.1=ao n.1)(I:fa n b):UpN (dV b n f)/\(dV b n f).1=n.1/\(dV b n f).2.2.1=false:=by
 unfold dV;by_cases r:f.1=n.1
 ·rw[show (f.1==n.1)=true by simpa using r];exact wP h H z
 ·rw[show (f.1==n.1)=false by simpa using r];have y:=h.x.said z J I;have u:=oH h.x.table.2 (OnN.refl n) (b:=b) r h.self;obtain⟨t,c,M,e⟩:=(OnN.refl n).say f b;simp only[cond_false];rw[show sayOf n f b=iM n t c M from e]at y u ⊢;exact⟨⟨y.conf f I,u,h.now1,⟨h.seq.seq,h.seq.turn⟩,h.inc,h.up⟩,rfl,H⟩
theorem lV {n:aa}{t:List af}{b:Int}(h:UpN n)(I:n.2.2.1=false)(M:aA t)(H:bS t (ao n.1))(y:fa n b):UpN (iN n t b)/\(iN n t b).1=n.1/\(iN n t b).2.2.1=false:=by
 refine lM (st:=dV b) (Inv:=λm=>UpN m/\m.1=n.1/\m.2.2.1=false) (ds:=t) (n:=n) ⟨h,rfl,I⟩ λm f u ⟨J,r,z⟩=>?_
 have:=sO (b:=b) J z (M.1 f u) (by rw[r];exact H f u) ⟨y.1,by rw[r];exact y.2⟩;exact⟨this.1,this.2.1.trans r,this.2.2⟩
theorem UpN.learns {n:aa}(h:UpN n):d7 n:=⟨h.x.say,h.x.me,⟨_,h.self,rfl⟩,λd y=>by
 obtain⟨_,_,_,r⟩:=h.x.doubts.1 d y;exact⟨r.2,λx u=>(r.1 x u).1⟩⟩
def setO (n:aa)(o:List cj):aa:=(n.1,n.2.1,n.2.2.1,n.2.2.2.1,n.2.2.2.2.1,n.2.2.2.2.2.1,n.2.2.2.2.2.2.1,n.2.2.2.2.2.2.2.1,n.2.2.2.2.2.2.2.2.1,n.2.2.2.2.2.2.2.2.2.1,n.2.2.2.2.2.2.2.2.2.2.1,n.2.2.2.2.2.2.2.2.2.2.2.1,n.2.2.2.2.2.2.2.2.2.2.2.2.1,n.2.2.2.2.2.2.2.2.2.2.2.2.2.1,o)
theorem UpN.setOthers {n:aa}(h:UpN n){o:List cj}(r:cN n.1 o):UpN (setO n o):=⟨⟨h.x.me,h.x.now0,h.x.table,h.x.site,h.x.cast,h.x.vs,h.x.probe,h.x.doubts,h.x.coord,h.x.places,r⟩,h.self,h.now1,⟨h.seq.seq,h.seq.turn⟩,h.inc,h.up⟩
theorem vm {y s:Int}{r:List af}{o:List cj}(I:cN y o)(M:InP s 0 1)(H:s≠ao y)(J:r≠[])(O:aA r)(z:bS r s):cN y (bM (λx:cj=>x.1) (s,r) o) :=
 ⟨λx u=>by
  rcases aW.1 u with rfl|⟨u,_⟩
  ·exact⟨M,H,J,O,z⟩
  ·exact I.1 x u,eN I.2⟩
def gJ (l:List Int)(t:Int):List Int:=(l++[t]).drop ((l++[t]).length-3)
def dq (l:List dv)(r:Int):List Int:=((l.find? λp=>p.1==r).map (·.2.2)).getD []
def oI (l:List dv)(r:Int)(c:dh)(t:Int):List dv:=bM (λp=>p.1) (r,c,gJ (dq l r) t) l
def pt (n:aa)(c:dh)(p:List dv):aa:=(n.1,n.2.1,n.2.2.1,n.2.2.2.1,n.2.2.2.2.1,n.2.2.2.2.2.1,n.2.2.2.2.2.2.1,n.2.2.2.2.2.2.2.1,n.2.2.2.2.2.2.2.2.1,n.2.2.2.2.2.2.2.2.2.1,noP,n.2.2.2.2.2.2.2.2.2.2.2.1,c,p,n.2.2.2.2.2.2.2.2.2.2.2.2.2.2)
theorem tS {l:List dv}{r:Int}{t:Int}(h:t∈dq l r):∃ p∈l,t∈p.2.2:=by
 unfold dq at h;cases u:l.find? λp=>p.1==r with
 |none=>rw[u]at h;simp at h
 |some p =>
  rw[u]at h;exact⟨p,Bk u,h⟩
theorem wQ {l:List Int}{t:Int}(u:∀ x∈l,InP x 1 60000)(y:InP t 1 60000):InP ((gJ l t).length:Int) 1 3/\∀ x∈gJ l t,InP x 1 60000:=by
 unfold gJ;constructor
 ·simp only[BX,BG,AZ,BI];constructor <;> omega
 ·intro x r;have:=List.mem_of_mem_drop r;rcases Bh.1 this with h|h
  ·exact u x h
  ·rw[BN.1 h];exact y
theorem vn {y r:Int}{l:List dv}{c:dh}{t:Int}(h:dZ y l)(I:InP r 0 7)(O:ao r=ao y)(J:r≠y)(R:cn c)(M:InP t 1 60000):dZ y (oI l r c t):=by
 have H:=wQ (l:=dq l r) (t:=t) (λx z=>by
  obtain⟨p,u,z⟩:=tS z;exact (h.1 p u).2.2.2.2.2 x z) M
 exact⟨λp u=>by
  rcases aW.1 u with rfl|⟨u,_⟩
  ·exact⟨I,O,J,R,H.1,H.2⟩
  ·exact h.1 p u,eN h.2⟩
theorem UpN.heard {n:aa}(h:UpN n){c:dh}{p:List dv}(u:cn c)(r:dZ n.1 p):UpN (pt n c p):=⟨⟨h.x.me,h.x.now0,h.x.table,h.x.site,h.x.cast,h.x.vs,wL n,h.x.doubts,u,r,h.x.others⟩,h.self,h.now1,⟨h.seq.seq,h.seq.turn⟩,h.inc,h.up⟩
theorem UpN.way {n:aa}(h:UpN n):UpN (j0 n):=⟨h.x.way,h.self,h.now1,⟨h.seq.seq,h.seq.turn⟩,h.inc,h.up⟩
def Tot {α:Type}(o:Option α)(P:α->Prop):Prop:=∃ v,o=some v/\P v
section
variable {α β:Type} {P:α->Prop} {Q:β->Prop}
theorem Tot.ret {v:α}(h:P v):Tot (some v) P:=⟨v,rfl,h⟩
theorem Tot.mono {o:Option α}{r:α->Prop}(h:Tot o P)(k:∀ v,P v->r v):Tot o r:=by obtain⟨v,e,u⟩:=h;exact⟨v,e,k v u⟩
theorem Tot.bind {o:Option α}{g:α->Option β}(h:Tot o P)(k:∀ v,P v->Tot (g v) Q):Tot (o.bind g) Q:=by obtain⟨v,e,r⟩:=h;rw[e];exact k v r
theorem Tot.vl {o:Option α}{v:α}{g:α->Option β}(e:o=some v)(k:Tot (g v) Q):Tot (o.bind g) Q:=by rw[e];exact k
theorem Tot.cnd {b:Bool}{x y:Option α}(u:b=true->Tot x P)(r:b=false->Tot y P):Tot (bif b then x else y) P:=by
 cases b
 ·exact r rfl
 ·exact u rfl
theorem Tot.must {b:Bool}{x y:Option α}(r:b=true)(h:Tot x P):Tot (bif b then x else y) P:=by rw[r];exact h
theorem Tot.not {b:Bool}{x y:Option α}(r:b=false)(h:Tot x P):Tot (bif b then y else x) P:=by rw[r];exact h
theorem Tot.ix {xs:List α}{i:Int}{g:α->Option β}(u:0<=i)(z:i<xs.length)(k:∀ y∈xs,idx xs i=some y->Tot (g y) Q):Tot ((idx xs i).bind g) Q:=by
 obtain⟨n,rfl⟩:=AX u;have r:n<xs.length:=by omega
 have:=ai r;rw[this];exact k _ (AW r) this
theorem Tot.iter {A:Type}{step:(A->Option β)->A->Option β}(Inv:A->Prop)(m:A->Nat)(h:∀ (rec:A->Option β) (a:A),Inv a->(∀ r,Inv r->m r<m a->Tot (rec r) Q)->Tot (step rec a) Q):∀ (k:Nat) (a:A),m a<k->Inv a->Tot (ae step k a) Q:=by
 intro k;induction k with
 |zero=>intro a I;omega
 |succ k z =>
  intro a I H;exact h (ae step k) a H λr u y=>z r (by omega) u
end
theorem Ret.tot {o:Option RB}{P:Prop}(h:Ret o P):Tot o λv=>(v.1.1=true<->P):=by
 obtain⟨b,e,r⟩:=h;exact⟨_,e,r⟩
section
variable {α β:Type} {Q:β->Prop}
theorem Tot.cat {x y:ByteArray}{k:ByteArray->Option β}{a b:Nat}(r:x.size<=a)(H:y.size<=b)(h:∀ z:ByteArray,z.size<=a+b->Tot (k z) Q)(u:a+b<=4611686018427387904:=by omega):Tot (aR x y k) Q:=by
 unfold aR;rw[decide_eq_true (by omega)];exact h _ (by rw[ByteArray.size_append];omega)
theorem Tot.fit {a b c:Nat}{x y:Option β}(h:Tot x Q)(u:c<=1000:=by omega)(r:a+b<=2097152:=by omega):Tot (bif decide ((a+b)*c<=ak) then x else y) Q:=by
 have:=CC r u;rw[decide_eq_true (by unfold ak;omega)];exact h
theorem Tot.ix2 {xs:List α}{i:Int}{g:α->Option β}(r:0<=i)(z:i<xs.length)(k:∀ y∈xs,idx xs i=some y->Tot (g y) Q):Tot ((idx xs i).bind λ_=>(idx xs ((AV i:Nat):Int)).bind g) Q :=
 Tot.ix r z λy u e=>by rw[Int.toNat_of_nonneg r,e];exact k y u e
end
theorem fy (s:ByteArray):s.data.toList.length=s.size:=Array.length_toList
theorem iy (xs:List Int):(gr xs).size=xs.length:=by
 unfold gr;show (List.toArray _).size=_;rw[List.size_toArray,BW]
theorem qO (s:ByteArray):(dY s).length=s.size:=by
 unfold dY;rw[BW];exact fy s
theorem dec_t:∀ (d k:Nat) (n:Int),0<=n->n<10 ^ (d+1)->n<=1000000000->d<=100->d<k->Tot (Q0.f k (n,())) λr=>r.1.1.size<=d+1:=by
 intro d;induction d with
 |zero =>
  intro k n H y J O Y;obtain⟨k,rfl⟩:∃ m,k=m+1:=⟨k-1,by omega⟩;show Tot (Q0.step (Q0.f k) (n,())) _;simp only[Q0.step];refine Tot.not (decide_eq_false (show ¬ n< -9223372036854775807 by omega)) (Tot.not (decide_eq_false (show ¬ n<0 by omega)) (Tot.must (decide_eq_true (show n<10 by exact y)) (Tot.ret ?_)));show (gr _).size<=1;rw[iy];exact BP _
 |succ d I =>
  intro k n H y J O Y;obtain⟨k,rfl⟩:∃ m,k=m+1:=⟨k-1,by omega⟩;show Tot (Q0.step (Q0.f k) (n,())) _;simp only[Q0.step];refine Tot.not (decide_eq_false (show ¬ n< -9223372036854775807 by omega)) (Tot.not (decide_eq_false (show ¬ n<0 by omega)) (Tot.cnd (λ_=>Tot.ret ?_) λh=>?_))
  ·show (gr _).size<=_;rw[iy];exact Nat.succ_le_succ (Bd _)
  ·have h:¬ n<10:=of_decide_eq_false h;have e:B4 n 10=n / 10:=by rw[Ba H]
   have u:(10:Int) ^ (d+1+1)=10 ^ (d+1)*10:=Int.pow_succ ..;have R:n / 10<10 ^ (d+1):=Int.ediv_lt_of_lt_mul (by omega) (by rw[<- u];exact y);rw[e,aJ (by omega) (by omega)];refine Tot.bind (I k (n / 10) (by omega) R (by omega) (by omega) (by omega)) λv X=>Tot.cat X (b:=1) (by rw[iy];exact BP _) (λz M=>Tot.ret M) (by omega)
theorem kN (K:Nat)(n:Int)(u:0<=n)(z:n<=999999)(y:1048577<K):Tot (Q0.f K (n,())) λr=>r.1.1.size<=6 :=
 dec_t 5 K n u (by show n<1000000;omega) (by omega) (by omega) (by omega)
theorem sP (K:Nat)(i:Int)(u:0<=i)(y:i<=4):Tot (Q21.f K (i,())) λr=>r.1.1.size<=7:=by
 have:i=0\/i=1\/i=2\/i=3\/i=4:=by omega
 rcases this with rfl|rfl|rfl|rfl|rfl <;> exact⟨_,rfl,by decide⟩
theorem sQ (K:Nat)(i:Int)(u:0<=i)(y:i<=6):Tot (Q17.f K (i,())) λr=>r.1.1.size<=4:=by
 have:i=0\/i=1\/i=2\/i=3\/i=4\/i=5\/i=6:=by omega
 rcases this with rfl|rfl|rfl|rfl|rfl|rfl|rfl <;> exact⟨_,rfl,by decide⟩
theorem yd (K:Nat)(t:List af)(R:aA t)(hK:1048577<K):Tot (Q25.f K (t,())) λr=>r.1.1.size<=240:=by
 have hl:=it R.2 (λg hg=>(R.1 g hg).1);refine Tot.iter (step:=λrec a=>Q25.s0 K (t,()) rec a) (λa=>0<=a.2/\a.2<=t.length/\(a.1.size:Int)<=30*a.2) (λa=>t.length-a.2.toNat) ?_ K _ (by show t.length-AV 0<K;omega) ⟨by show (0:Int)<=0;omega,by show (0:Int)<=_;omega,by show (0:Int)<=30*0;omega⟩;rintro rec ⟨s,i⟩ ⟨h0,h1,h2⟩ ih;simp only at h0 h1 h2 ih ⊢;simp only[Q25.s0];refine Tot.cnd (λh=>?_) λh=>?_
 ·have h:=of_decide_eq_true h;obtain⟨n,rfl⟩:=AX h0;have hn:n<t.length:=by omega
  obtain⟨⟨f1,f2⟩,⟨f3,f4⟩,f5,f6⟩:=R.1 t[n] (AW hn);rw[ai hn,au n (by omega)];simp only[AT];have go:∀ z:ByteArray,z.size<=s.size+29->Tot (rec (z,((n+1:Nat):Int))) λr=>r.1.1.size<=240:=λz hz=>ih _ ⟨by show (0:Int)<=((n+1:Nat):Int);omega,by show ((n+1:Nat):Int)<=_;omega,by show (z.size:Int)<=30*((n+1:Nat):Int);omega⟩ (by show t.length-AV ((n+1:Nat):Int)<t.length-AV (n:Int);omega)
  have body:∀ Z:ByteArray,Z.size<=s.size+1->Tot ((Q0.f K (t[n].1,())).bind λy3=>aR Z y3.1.1 λy4=>aR y4 (ByteArray.mk #[58]) λy5=>(Q0.f K (t[n].2.1,())).bind λy7=>aR y5 y7.1.1 λy8=>aR y8 (ByteArray.mk #[58]) λy9=>(Q21.f K (t[n].2.2.1,())).bind λy=>aR y9 y.1.1 λu=>bif t[n].2.2.2 then (aR u (ByteArray.mk #[42]) λY=>rec (Y,((n+1:Nat):Int))) else (rec (u,((n+1:Nat):Int)))) λr=>r.1.1.size<=240:=λZ O =>
   Tot.bind (kN K _ f1 (by omega) hK) λv1 s1=>Tot.cat O s1 λz1 H=>Tot.cat H (b:=1) (by decide) λz2 J =>
   Tot.bind (kN K _ f3 (by omega) hK) λv2 s2=>Tot.cat J s2 λz3 X=>Tot.cat X (b:=1) (by decide) λz4 I =>
   Tot.bind (sP K _ (by omega) f6) λv3 s3=>Tot.cat I s3 λz5 M =>
   Tot.cnd (λ_=>Tot.cat M (b:=1) (by decide) λz6 a0=>go z6 (by omega)) λ_=>go z5 (by omega)
  exact Tot.cnd (λ_=>Tot.cat (BP _) (b:=1) (by decide) λz hz=>body z hz) λ_=>body s (by omega)
 ·have h:=of_decide_eq_false h;exact Tot.ret (by show s.size<=240;omega)
theorem nQ (K:Nat)(t:List af)(H:t.length<=1048576)(u:1048577<K):Tot (Q26.f K (t,())) λr=>r.1.1.size<=240:=by
 simp only[Q26.f];refine Tot.bind (fZ K t H u).tot λv y=>Tot.cnd (λ_=>Tot.ret (by show (0:Nat)<=240;omega)) λh=>?_
 have z:=y.1 (by simpa using h);exact Tot.cnd (λ_=>Tot.ret (by show (1:Nat)<=240;omega)) λ_=>Tot.bind (yd K t z u) λv h=>Tot.ret h
theorem pu (K:Nat)(n:Int)(H:-999999<=n)(I:n<=999999)(y:1048577<K):Tot (Q31.f K (n,())) λr=>r.1.1.size<=7:=by
 simp only[Q31.f];refine Tot.cnd (λh=>?_) λh=>?_
 ·have h:n<0:=of_decide_eq_true h;rw[aJ (by omega) (by omega)];exact Tot.bind (kN K _ (by omega) (by omega) y) λv s=>Tot.cat (a:=1) (by decide) s λz u=>Tot.ret u
 ·have h:¬ n<0:=of_decide_eq_false h;exact Tot.bind (kN K _ (by omega) (by omega) y) λv s=>Tot.cat (a:=1) (by decide) s λz u=>Tot.ret u
theorem ye (K:Nat)(w:ap)(J:fP w)(y:1048577<K):Tot (Q32.f K (w,())) λr=>r.1.1.size<=400:=by
 obtain⟨_,⟨a1,M⟩,⟨H,b2⟩,⟨O,c2⟩,⟨R,Z⟩,⟨X,e2⟩,⟨⟨x1,x2⟩,⟨y1,y2⟩,⟨z,z2⟩,⟨u1,u2⟩⟩,I,_⟩:=J;have Y:=cE I;simp only[Q32.f];have u:(ByteArray.mk #[32]).size<=1:=by decide
 refine Tot.cnd (λ_=>?_) λ_=>?_ <;>
 exact Tot.cat (a:=3) (by decide) u λ_ h=>Tot.bind (sQ K _ (by omega) M) λ_ s=>Tot.cat h s λ_ h=>Tot.cat h u λ_ h =>
  Tot.bind (kN K _ H (by omega) y) λ_ s=>Tot.cat h s λ_ h=>Tot.cat h u λ_ h =>
  Tot.bind (kN K _ O (by omega) y) λ_ s=>Tot.cat h s λ_ h=>Tot.cat h u λ_ h =>
  Tot.bind (kN K _ R (by omega) y) λ_ s=>Tot.cat h s λ_ h=>Tot.cat h u λ_ h =>
  Tot.bind (kN K _ X (by omega) y) λ_ s=>Tot.cat h s λ_ h=>Tot.cat h u λ_ h =>
  Tot.bind (pu K _ (by show -999999<=(ap.coord w).1;omega) (by show (ap.coord w).1<=999999;omega) y) λ_ s=>Tot.cat h s λ_ h=>Tot.cat h u λ_ h =>
  Tot.bind (pu K _ (by show -999999<=(ap.coord w).2.1;omega) (by show (ap.coord w).2.1<=999999;omega) y) λ_ s=>Tot.cat h s λ_ h=>Tot.cat h u λ_ h =>
  Tot.bind (kN K _ z (by show (ap.coord w).2.2.1<=999999;omega) y) λ_ s=>Tot.cat h s λ_ h=>Tot.cat h u λ_ h =>
  Tot.bind (kN K _ (by show 0<=(ap.coord w).2.2.2;omega) (by show (ap.coord w).2.2.2<=999999;omega) y) λ_ s=>Tot.cat h s λ_ h=>Tot.cat h u λ_ h =>
  Tot.bind (nQ K _ Y y) λ_ s=>Tot.cat h s λ_ h=>Tot.ret (BZ h (by decide))
theorem yf (K:Nat)(n:Int)(I:1048577<K):Tot (Q34.f K (n,())) λ_=>True:=by
 refine Tot.iter (step:=λrec a=>Q34.s0 K (n,()) rec a) (λa=>0<=a.2/\a.2<=8) (λa=>8-a.2.toNat) ?_ K _ (by show 8-AV 0<K;omega) ⟨by show (0:Int)<=0;omega,by show (0:Int)<=8;omega⟩;rintro rec ⟨s,i⟩ ⟨r,H⟩ u;simp only at r H u ⊢;simp only[Q34.s0];obtain⟨i,rfl⟩:=AX r;refine Tot.cnd (λh=>?_) λ_=>Tot.ret trivial
 have h:=of_decide_eq_true h;rw[au i (by omega)];have y:∀ z:Int,Tot (rec (z,((i+1:Nat):Int))) λ_=>True:=λz=>u _ ⟨by show (0:Int)<=((i+1:Nat):Int);omega,by show ((i+1:Nat):Int)<=8;omega⟩ (by show 8-AV ((i+1:Nat):Int)<8-AV (i:Int);omega)
 exact Tot.cnd (λ_=>y _) λ_=>y _
theorem zu (K:Nat)(s:ByteArray)(J:s.size<=1000000)(H:1048577<K):Tot (Q35.f K (s,())) λ_=>True:=by
 refine Tot.iter (step:=λrec a=>Q35.s0 K (s,()) rec a) (λa=>0<=a.2/\a.2<=s.size) (λa=>s.size-a.2.toNat) ?_ K _ (by show s.size-AV 0<K;omega) ⟨by show (0:Int)<=0;omega,by show (0:Int)<=_;omega⟩;rintro rec ⟨z,i⟩ ⟨r,I⟩ u;simp only at r I u ⊢;simp only[Q35.s0];obtain⟨i,rfl⟩:=AX r;refine Tot.cnd (λh=>?_) λ_=>Tot.ret trivial
 have h:=of_decide_eq_true h;rw[au i (by omega)];exact Tot.ix r (by rw[fy];exact h) λy _ _=>Tot.bind (yf K _ H) λv _=>u _ ⟨by show (0:Int)<=((i+1:Nat):Int);omega,by show ((i+1:Nat):Int)<=_;omega⟩ (by show s.size-AV ((i+1:Nat):Int)<s.size-AV (i:Int);omega)
theorem hex_t (K:Nat)(n:Int)(R:1048577<K):Tot (Q33.f K (n,())) λr=>r.1.1.size<=8:=by
 refine Tot.iter (step:=λrec a=>Q33.s0 K (n,()) rec a) (λa=>-1<=a.2/\a.2<=7/\a.1.length=7-a.2) (λa=>(a.2+1).toNat) ?_ K _ (by show AV 8<K;omega) ⟨by show (-1:Int)<=7;omega,by show (7:Int)<=7;omega,by show (0:Int)=7-7;omega⟩;rintro rec ⟨z,i⟩ ⟨H,I,O⟩ u;simp only at H I O u ⊢;simp only[Q33.s0];refine Tot.cnd (λh=>?_) λh=>?_
 ·have h:=of_decide_eq_true h;rw[aJ (n:=4*i) (by omega) (by omega),aJ (n:=i-1) (by omega) (by omega)];obtain⟨J,M⟩:=lp (a:=Bf n (2 ^ min (AV (4*i)) 64)) (m:=15) (by omega);refine Tot.not (decide_eq_false (by omega)) (Tot.ix J (Int.lt_of_le_of_lt M (by decide)) λy _ _=>Tot.fit ?_ (by omega) (by simp only[AZ,BI];omega));exact u _ ⟨by show -1<=i-1;omega,by show i-1<=7;omega,by show ((z++[_]).length:Int)=7-(i-1);rw[BG,Bt];omega⟩ (by show AV (i-1+1)<AV (i+1);omega)
 ·have h:=of_decide_eq_false h;refine Tot.ret ?_;show (gr z).size<=8;rw[iy];omega
theorem nR (K:Nat)(w:ap)(J:(ap.table w).length<=1048576)(u:1048577<K):Tot (Q36.f K (w,())) λr=>r.1.1.size<=409/\(¬ fP w->r.1.1=ByteArray.mk #[]):=by
 simp only[Q36.f];refine Tot.bind (oF K w J u).tot λv O=>Tot.cnd (λ_=>Tot.ret ⟨by show (0:Nat)<=409;omega,λ_=>rfl⟩) λh=>?_
 have H:=O.1 (by simpa using h);exact Tot.bind (ye K w H u) λb M=>Tot.cat M (b:=1) (by decide) λz y=>Tot.bind (zu K _ (by omega) u) λs _=>Tot.bind (hex_t K _ u) λx I=>Tot.cat y I λz y=>Tot.ret ⟨y,λh=>absurd H h⟩
theorem vo (K:Nat)(s:ByteArray)(c:Int)(hs:s.size<=100000)(hK:1048577<K):Tot (Q16.f K (s,c,())) λr=>r.1.1.length<=s.size+1/\∀ p∈r.1.1,p.size<=s.size:=by
 have I:∀ i j:Nat,(s.extract i j).size<=s.size:=λi j=>by rw[B6];omega
 refine Tot.iter (step:=λrec a=>Q16.s0 K (s,c,()) rec a) (λa=>0<=a.2.1/\a.2.1<=a.2.2/\a.2.2<=s.size/\a.1.length<=a.2.2/\∀ p∈a.1,p.size<=s.size) (λa=>s.size-a.2.2.toNat) ?_ K _ (by show s.size-AV 0<K;omega) ⟨by show (0:Int)<=0;omega,by show (0:Int)<=0;omega,by show (0:Int)<=_;omega,by show (0:Int)<=0;omega,λp R=>by cases R⟩;rintro rec ⟨u,from_,i⟩ ⟨z,J,X,Y,O⟩ M;simp only at z J X Y O M ⊢;simp only[Q16.s0];obtain⟨i,rfl⟩:=AX (B5 z J);have H:∀ x:ByteArray,x.size<=s.size->∀ p∈u++[x],p.size<=s.size:=λx Z p R=>by
  rcases Bh.1 R with h|h
  ·exact O p h
  ·rw[BN.1 h];exact Z
 refine Tot.cnd (λh=>?_) λh=>?_
 ·have h:=of_decide_eq_true h;rw[au i (by omega)];refine Tot.ix (B5 z J) (by rw[fy];exact h) λy _ _=>Tot.cnd (λ_=>Tot.must (by rw[decide_eq_true z,decide_eq_true J,decide_eq_true X];rfl) (Tot.fit (M _ ⟨?_,?_,?_,?_,H _ (I _ _)⟩ ?_) (by omega) (by simp only[AZ,BI];omega))) λ_=>M _ ⟨z,?_,?_,?_,O⟩ ?_
  ·show (0:Int)<=((i+1:Nat):Int);omega
  ·show ((i+1:Nat):Int)<=((i+1:Nat):Int);omega
  ·show ((i+1:Nat):Int)<=s.size;omega
  ·show ((u++[_]).length:Int)<=((i+1:Nat):Int);rw[BG,Bt];omega
  ·show s.size-AV ((i+1:Nat):Int)<s.size-AV (i:Int);omega
  ·show from_<=((i+1:Nat):Int);omega
  ·show ((i+1:Nat):Int)<=s.size;omega
  ·show (u.length:Int)<=((i+1:Nat):Int);omega
  ·show s.size-AV ((i+1:Nat):Int)<s.size-AV (i:Int);omega
 ·refine Tot.must (by rw[decide_eq_true z,decide_eq_true (by omega),decide_eq_true (BT _)];rfl) (Tot.fit (Tot.ret ⟨?_,H _ (I _ _)⟩) (by omega) (by simp only[AZ,BI];omega));show (u++[_]).length<=_;rw[BG,Bt];omega
theorem jD (K:Nat)(s:ByteArray)(Y:s.size<=100000)(R:1048577<K):Tot (Q18.f K (s,())) λ_=>True:=by
 simp only[Q18.f,Q18.pre];have r:((s.size:Int)<=6)->Tot (Q18.l0 K (s,()) (0,0)) λ_=>True:=λX=>by
  refine Tot.iter (step:=λrec a=>Q18.s0 K (s,()) rec a) (λa=>0<=a.2/\a.2<=s.size) (λa=>s.size-a.2.toNat) ?_ K _ (by show s.size-AV 0<K;omega) ⟨by show (0:Int)<=0;omega,by show (0:Int)<=_;omega⟩;rintro rec ⟨z,i⟩ ⟨u,M⟩ J;simp only at u M J ⊢;simp only[Q18.s0];obtain⟨i,rfl⟩:=AX u;refine Tot.cnd (λh=>?_) λ_=>Tot.ret trivial
  have h:=of_decide_eq_true h;have I:((i:Nat):Int)<s.data.toList.length:=by rw[fy];exact h
  rw[au i (by omega)];exact Tot.ix u I λy _ _=>Tot.cnd (λ_=>Tot.ret trivial) λ_=>Tot.ix u I λy _ _=>Tot.cnd (λ_=>Tot.ret trivial) λ_=>Tot.ix u I λy _ _=>J _ ⟨by show (0:Int)<=((i+1:Nat):Int);omega,by show ((i+1:Nat):Int)<=_;omega⟩ (by show s.size-AV ((i+1:Nat):Int)<s.size-AV (i:Int);omega)
 refine Tot.bind (cm K _ _ _).tot λv O=>Tot.cnd (λ_=>Tot.ret trivial) λh=>?_
 have H:=O.1 (by simpa using h);exact Tot.cnd (λh=>Tot.ix (by omega) (by rw[fy];have:=of_decide_eq_true h;omega) λy _ _=>Tot.cnd (λ_=>Tot.ret trivial) λ_=>r H.2) λ_=>r H.2
theorem ur (K:Nat)(s:ByteArray)(J:s.size<=100000)(I:1048577<K):Tot (Q19.f K (s,())) λ_=>True:=by
 simp only[Q19.f];refine Tot.cnd (λ_=>Tot.ret trivial) λh=>?_
 have h:=of_decide_eq_false h;have z:(0:Int)<s.data.toList.length:=by rw[fy];omega
 have r:Tot (bif decide ((0:Int)<=1)&&decide ((1:Int)<=(s.size:Int))&&decide ((s.size:Int)<=(s.size:Int)) then ((Q18.f K (s.extract (AV 1) (AV (s.size:Int)),())).bind λu=>bif decide (u.1.1<0) then (some (((-1),false,()),())) else (bif s.toList==(ByteArray.mk #[45,48]).toList then (some (((-1),false,()),())) else ((idx s.data.toList 0).bind λH=>bif (H.toNat:Int)==45 then (some ((wr .i64 (0-u.1.1),true,()),())) else (some ((u.1.1,true,()),()))))) else none) λ (_:(Int×Bool×Unit)×Unit)=>True :=
  Tot.must (by rw[decide_eq_true (by omega:(0:Int)<=1),decide_eq_true (by omega:(1:Int)<=s.size),decide_eq_true (BT _)];rfl) (Tot.bind (jD K _ (by rw[B6];omega) I) λv _=>Tot.cnd (λ_=>Tot.ret trivial) λ_=>Tot.cnd (λ_=>Tot.ret trivial) λ_=>Tot.ix (by omega) z λy _ _=>Tot.cnd (λ_=>Tot.ret trivial) λ_=>Tot.ret trivial)
 exact Tot.ix (by omega) z λy _ _=>Tot.cnd (λ_=>Tot.ix (by omega) z λy _ _=>Tot.cnd (λ_=>Tot.ret trivial) λ_=>r) λ_=>r
theorem zv (K:Nat)(s:ByteArray)(hs:s.size<=100000)(I:1048577<K):Tot (Q22.f K (s,())) λ_=>True:=by
 simp only[Q22.f,Q22.pre];have H:∀ (Y:List ByteArray) (n1 n2:Int) (b:Bool),Y.length=3->Tot (Q22.l0 K (s,()) (Y,1,n1,n2,0,b)) λ_=>True:=λY n1 n2 b hx=>by
  refine Tot.iter (step:=λrec a=>Q22.s0 K (s,()) rec a) (λa=>a.1.length=3/\1<=a.2.1/\a.2.1<=5) (λa=>5-a.2.1.toNat) ?_ K _ (by show 5-AV 1<K;omega) ⟨hx,by show (1:Int)<=1;omega,by show (1:Int)<=5;omega⟩;rintro rec ⟨ys,i,m1,m2,m3,m4⟩ ⟨Z,h1,h2⟩ ih;simp only at Z h1 h2 ih ⊢;simp only[Q22.s0];refine Tot.cnd (λh=>?_) λ_=>Tot.bind (ox K _).tot λ_ _=>Tot.ret trivial
  have h:=of_decide_eq_true h;rw[aJ (n:=i+1) (by omega) (by omega)];have go:∀ m:Int,Tot (rec (ys,i+1,m1,m2,m,m4)) λ_=>True:=λm=>ih _ ⟨Z,by show 1<=i+1;omega,by show i+1<=5;omega⟩ (by show 5-AV (i+1)<5-AV i;omega)
  exact Tot.bind (sP K i (by omega) h) λv _=>Tot.ix2 (by omega) (by omega) λy _ _=>Tot.cnd (λ_=>go _) λ_=>go _
 have u:∀ (z:ByteArray) (b:Bool),z.size<=s.size->Tot ((Q16.f K (z,58,())).bind λr=>bif (AU r.1.1:Int) != 3 then (some (((0,(0,(0,b))),false,()),())) else ((idx r.1.1 0).bind λ_=>(idx r.1.1 (AV 0:Nat)).bind λJ=>(Q18.f K (J,())).bind λO=>(idx r.1.1 1).bind λ_=>(idx r.1.1 (AV 1:Nat)).bind λR=>(Q18.f K (R,())).bind λM=>Q22.l0 K (s,()) (r.1.1,1,O.1.1,M.1.1,0,b))) λ_=>True:=λz b hz =>
  Tot.bind (vo K z 58 (by omega) I) λv ⟨_,hp⟩=>Tot.cnd (λ_=>Tot.ret trivial) λh=>by
   have h3:(v.1.1.length:Int)=3:=by simpa using h
   exact Tot.ix2 (by omega) (by omega) λy X _=>Tot.bind (jD K y (by have:=hp y X;omega) I) λ_ _=>Tot.ix2 (by omega) (by omega) λy X _=>Tot.bind (jD K y (by have:=hp y X;omega) I) λ_ _=>H _ _ _ _ (by omega)
 refine Tot.cnd (λh=>?_) λ_=>u s false (BP _)
 have h:=of_decide_eq_true h;rw[aJ (n:=(s.size:Int)-1) (by omega) (by omega)];exact Tot.ix (by omega) (by rw[fy];omega) λy _ _=>Tot.cnd (λ_=>Tot.must (by simp only[Bc,decide_eq_true_eq];omega) (u _ true (by rw[B6];omega))) λ_=>u s false (BP _)
theorem zw (K:Nat)(s:ByteArray)(R:s.size<=100000)(I:1048577<K):Tot (Q23.f K (s,())) λr=>r.1.1.length<=100001:=by
 simp only[Q23.f,Q23.pre];refine Tot.cnd (λ_=>Tot.ret (by show (0:Nat)<=_;omega)) λ_=>Tot.bind (vo K s 44 R I) ?_
 rintro⟨⟨xs,⟨⟩⟩,⟨⟩⟩ ⟨hl,hp⟩;dsimp only at hl hp ⊢;refine Tot.iter (step:=λrec a=>Q23.s0 K (s,()) rec a) (λa=>a.2.1=xs/\0<=a.2.2/\a.2.2<=xs.length/\(a.1.length:Int)<=a.2.2) (λa=>xs.length-a.2.2.toNat) ?_ K _ (by show xs.length-AV 0<K;omega) ⟨rfl,by show (0:Int)<=0;omega,by show (0:Int)<=_;omega,by show (0:Int)<=0;omega⟩;rintro rec ⟨u,J,i⟩ ⟨rfl,z,O,M⟩ H;simp only at z O M hl hp H ⊢;simp only[Q23.s0];obtain⟨i,rfl⟩:=AX z;refine Tot.cnd (λh=>?_) λ_=>Tot.ret (by show u.length<=_;omega)
 have h:=of_decide_eq_true h;rw[au i (by omega)];exact Tot.ix2 z h λy X _=>Tot.bind (zv K y (by have:=hp y X;omega) I) λv _=>Tot.cnd (λ_=>Tot.ret (by show (0:Nat)<=_;omega)) λ_=>Tot.fit (H _ ⟨rfl,by show (0:Int)<=((i+1:Nat):Int);omega,by show ((i+1:Nat):Int)<=_;omega,by show ((u++[_]).length:Int)<=((i+1:Nat):Int);rw[BG,Bt];omega⟩ (by show J.length-AV ((i+1:Nat):Int)<J.length-AV (i:Int);omega)) (by omega) (by simp only[AZ,BI];omega)
theorem zx (K:Nat)(s:ByteArray)(y:s.size<=100000)(u:1048577<K):Tot (Q27.f K (s,())) λr=>r.1.1.length<=100001:=by
 simp only[Q27.f];exact Tot.bind (zw K s y u) λv z=>Tot.cnd (λ_=>Tot.ret (by show (0:Nat)<=_;omega)) λ_=>Tot.bind (nQ K _ (by omega) u) λx _=>Tot.cnd (λ_=>Tot.ret (by show (0:Nat)<=_;omega)) λ_=>Tot.ret z
theorem lW (K:Nat)(s:ByteArray)(Z:s.size<=100000)(H:1048577<K):Tot (Q37.f K (s,())) λr=>r.1.2.1=true->fP r.1.1:=by
 simp only[Q37.f,Q37.pre];refine Tot.bind (vo K s 32 Z H) ?_;rintro⟨⟨xs,⟨⟩⟩,⟨⟩⟩ ⟨hl,hp⟩;dsimp only at hl hp ⊢;refine Tot.cnd (λ_=>Tot.ret λh=>by cases h) λ_=>Tot.cnd (λ_=>Tot.ret λh=>by cases h) λh=>?_
 have M:(xs.length:Int)=12:=by simpa using h
 have u:∀ y∈xs,y.size<=100000:=λy z=>BZ (hp y z) Z
 have I:∀ p:Int,Tot (Q37.l0 K (s,()) (xs,1,p,0)) λr=>r.1.2.1=true->fP r.1.1:=λp=>by
  refine Tot.iter (step:=λrec a=>Q37.s0 K (s,()) rec a) (λa=>a.1=xs/\1<=a.2.1/\a.2.1<=7) (λa=>7-a.2.1.toNat) ?_ K _ (by show 7-AV 1<K;omega) ⟨rfl,by show (1:Int)<=1;omega,by show (1:Int)<=7;omega⟩;rintro rec ⟨ys,i,p,k⟩ ⟨rfl,X,h2⟩ O;simp only at X h2 hl M u O ⊢;simp only[Q37.s0];refine Tot.cnd (λh=>?_) λ_=>?_
  ·have h:=of_decide_eq_true h;rw[aJ (n:=i+1) (by omega) (by omega)];have R:∀ m:Int,Tot (rec (ys,i+1,p,m)) λr=>r.1.2.1=true->fP r.1.1:=λm=>O _ ⟨rfl,by show 1<=i+1;omega,by show i+1<=7;omega⟩ (by show 7-AV (i+1)<7-AV i;omega)
   exact Tot.bind (sQ K i (by omega) h) λv _=>Tot.ix2 (by omega) (by omega) λy _ _=>Tot.cnd (λ_=>R _) λ_=>R _
  ·refine Tot.ix2 (by omega) (by omega) λy z _=>Tot.bind (jD K y (u y z) H) λ_ _=>Tot.ix2 (by omega) (by omega) λy z _=>Tot.bind (jD K y (u y z) H) λ_ _=>Tot.ix2 (by omega) (by omega) λy z _=>Tot.bind (jD K y (u y z) H) λ_ _=>Tot.ix2 (by omega) (by omega) λy z _=>Tot.bind (jD K y (u y z) H) λ_ _ =>
    Tot.ix2 (by omega) (by omega) λy z _=>Tot.bind (ur K y (u y z) H) λ_ _=>Tot.ix2 (by omega) (by omega) λy z _=>Tot.bind (ur K y (u y z) H) λ_ _=>Tot.ix2 (by omega) (by omega) λy z _=>Tot.bind (zx K y (u y z) H) λt ht=>Tot.ix2 (by omega) (by omega) λy z _=>Tot.bind (jD K y (u y z) H) λ_ _=>Tot.ix2 (by omega) (by omega) λy z _=>Tot.bind (jD K y (u y z) H) λ_ _ =>
    Tot.cnd (λ_=>Tot.ret λh=>by cases h) λ_=>Tot.cnd (λ_=>Tot.ret λh=>by cases h) λ_=>Tot.cnd (λ_=>Tot.ret λh=>by cases h) λ_=>Tot.bind (nR K _ (by show t.1.1.length<=1048576;omega) H) λx ⟨_,hx⟩=>Tot.cnd (λ_=>Tot.ret λh=>by cases h) λJ=>Tot.ret λ_=>?_
   refine Classical.byContradiction λhn=>?_
   rw[hx hn]at J;have Y:(ByteArray.mk #[]).toList=s.toList:=by
    have:((ByteArray.mk #[]).toList != s.toList)=false:=J;simpa using this
   rw[CR,CR]at Y;have h0:=congrArg AU Y;rw[fy,fy]at h0;have X:(ByteArray.mk #[]).size=0:=rfl;omega
 exact Tot.ix2 (by omega) (by omega) λy _ _=>Tot.cnd (λ_=>I 2) λ_=>I 1
def Rt (v r:Nat):Prop:=r*r<=v/\v<(r+1)*(r+1)
theorem Aq (K:Nat)(v:Nat)(hv:v<1500000001*1500000001)(hK:1048577<K):∃ r,Rt v r/\Q64.f K ((v:Int),())=some (((r:Int),()),()):=by
 have z:∀ (e k l h:Nat),h-l<2 ^ e->e<k->l<=h->h<=1500000000->l*l<=v->v<(h+1)*(h+1)->∃ r,Rt v r/\ae (λrec a=>Q64.s0 K ((v:Int),()) rec a) k ((l:Int),(h:Int))=some (((r:Int),()),()):=by
  intro e;induction e with
  |zero =>
   intro k l h R hk I M u y;obtain⟨k,rfl⟩:∃ H,k=H+1:=⟨k-1,by omega⟩;have:l=h:=by omega
   subst this;refine⟨l,⟨u,y⟩,?_⟩;show Q64.s0 K _ _ _=_;simp only[Q64.s0];rw[decide_eq_false (by omega)];rfl
  |succ e J =>
   intro k l h R hk I M u y;obtain⟨k,rfl⟩:∃ H,k=H+1:=⟨k-1,by omega⟩;show ∃ r,Rt v r/\Q64.s0 K _ _ _=_;simp only[Q64.s0];by_cases hl:l<h
   ·rw[decide_eq_true (show (l:Int)<(h:Int) by omega)];have e1:wr .i64 ((l:Int)+(h:Int))=(l:Int)+h:=aJ (by omega) (by omega);have e2:wr .i64 ((l:Int)+(h:Int)+1)=((l+h+1:Nat):Int):=(aJ (by omega) (by omega)).trans (by omega);have e3:B4 ((l+h+1:Nat):Int) 2=(((l+h+1) / 2:Nat):Int):=by
     rw[Ba (by omega)];omega
    rw[e1,e2,e3];have hm:l<(l+h+1) / 2/\(l+h+1) / 2<=h:=by omega
    have X:h-(l+h+1) / 2<2 ^ e/\(l+h+1) / 2-1-l<2 ^ e:=by
     rw[Nat.pow_succ]at R;omega
    generalize (l+h+1) / 2=m at *;have e4:wr .i64 (m:Int)=m:=aJ (by omega) (by omega);have e5:B4 (v:Int) (m:Int)=((v / m:Nat):Int):=by
     rw[Ba (by omega)];rfl
    have Z:v / m<=v:=Nat.div_le_self _ _;have Y:m<=v / m<->m*m<=v:=Nat.le_div_iff_mul_le (by omega);generalize v / m=q at *;have e6:wr .i64 (q:Int)=(q:Int):=aJ (by omega) (by omega);rw[e4,e5,e6,decide_eq_false (show ¬ (m:Int)=0 by omega)];simp only[cond_true,cond_false];by_cases O:m<=q
    ·rw[decide_eq_true (by omega)];exact J k m h X.1 (by omega) (by omega) M (Y.1 O) y
    ·rw[decide_eq_false (by omega)];have a0:¬ m*m<=v:=λh4=>O (Y.2 h4)
     have e7:wr .i64 ((m:Int)-1)=((m-1:Nat):Int):=ez m (by omega) (by omega);rw[e7];exact J k l (m-1) X.2 (by omega) (by omega) (by omega) u (by rw[show m-1+1=m by omega];omega)
   ·have:l=h:=by omega
    subst this;refine⟨l,⟨u,y⟩,?_⟩;rw[decide_eq_false (by omega)];rfl
 exact z 31 K 0 1500000000 (by decide) (by omega) (by omega) (by omega) (by omega) hv
def iz (x:Int):Int:=if x< -1000000000 then -1000000000 else if x>1000000000 then 1000000000 else x
theorem qe (K:Nat)(x:Int):Q63.f K (x,())=some ((iz x,()),()):=by
 simp only[Q63.f,Q60.f,iz];by_cases h:x< -1000000000
 ·rw[decide_eq_true h,if_pos h];rfl
 ·rw[decide_eq_false h,if_neg h];by_cases r:x>1000000000
  ·rw[decide_eq_true r,if_pos r];rfl
  ·rw[decide_eq_false r,if_neg r];rfl
theorem sR (x:Int):-1000000000<=iz x/\iz x<=1000000000:=by
 unfold iz;split
 ·omega
 ·split <;> omega
theorem yO {a:Int}(h:-1000000000<=a/\a<=1000000000):0<=a*a/\a*a<=1000000000000000000:=by
 have e:∃ b:Nat,b<=1000000000/\a*a=((b*b:Nat):Int):=by
  refine⟨a.natAbs,by omega,?_⟩;exact (Int.natAbs_mul_self).symm
 obtain⟨b,r,u⟩:=e;have:=CC r r;omega
theorem wR (K:Nat)(x y:Int)(I:1048577<K):Tot (Q65.f K (x,y,())) λ_=>True:=by
 simp only[Q65.f];rw[qe K x,qe K y];simp only[AT];have O:=yO (sR x);have M:=yO (sR y);generalize iz x*iz x=a at *;generalize iz y*iz y=b at *;have J:wr .i64 a=a:=aJ (by omega) (by omega);have u:wr .i64 b=b:=aJ (by omega) (by omega);have H:wr .i64 (a+b)=(((a+b).toNat:Nat):Int):=(aJ (by omega) (by omega)).trans (by omega);rw[J,u,H];obtain⟨r,_,z⟩:=Aq K (a+b).toNat (by omega) I;rw[z];simp only[AT];rw[qe K r];exact⟨_,rfl,trivial⟩
theorem Ar (K:Nat)(c d:dh)(r:1048577<K):Tot (Q66.f K (c,d,())) λ_=>True:=by
 simp only[Q66.f];exact Tot.bind (ig K c).tot λ_ _=>Tot.cnd (λ_=>Tot.ret trivial) λ_=>Tot.bind (ig K d).tot λ_ _=>Tot.cnd (λ_=>Tot.ret trivial) λ_=>Tot.bind (wR K _ _ r) λ_ _=>Tot.ret trivial
theorem kw (K:Nat)(n y u:Int)(h:y<=u):Tot (Q60.f K (n,y,u,())) λr=>InP r.1.1 y u:=by
 simp only[Q60.f];exact Tot.cnd (λ_=>Tot.ret ⟨BT _,h⟩) λH=>Tot.cnd (λ_=>Tot.ret ⟨h,BT _⟩) λz=>Tot.ret ⟨Int.not_lt.1 (of_decide_eq_false H),Int.not_lt.1 (of_decide_eq_false z)⟩
theorem At (K:Nat)(c b:dh)(t s:Int)(H:cn c)(X:1048577<K):Tot (Q71.f K (c,b,t,s,())) λr=>cn r.1.1:=by
 simp only[Q71.f];refine Tot.bind (ig K c).tot λv O=>Tot.cnd (λh=>?_) λ_=>Tot.bind (ig K b).tot λv O=>Tot.cnd (λ_=>Tot.ret H) λu=>Tot.bind (cm K _ _ _).tot λv' I=>Tot.cnd (λ_=>Tot.ret H) λy=>?_
 ·rw[O.2 H]at h;cases h
 have Z:=O.1 (by simpa using u);have ht:=I.1 (by simpa using y);obtain⟨_,_,_,⟨c1,c2⟩⟩:=H;obtain⟨_,_,_,⟨b1,b2⟩⟩:=Z;obtain⟨t1,t2⟩:=ht;have Y:¬ wr .i64 (c.2.2.2+b.2.2.2)=0:=by rw[aJ (by omega) (by omega)];omega
 have z:∀ w:Int,Tot (Q70.f K (c,b,w,t,())) λr=>InP r.1.1 1 1500:=λw=>by
  simp only[Q70.f,Q69.f];refine Tot.bind (P:=λ_=>True) (Tot.cnd (λ_=>Tot.ret trivial) λ_=>Tot.ret trivial) λ_ _=>Tot.not (decide_eq_false (show ¬ t=0 by omega)) (Tot.bind (kw K _ _ _ (by omega)) λ_ _=>Tot.not (decide_eq_false Y) (Tot.bind (kw K _ _ _ (by omega)) λ_ h=>Tot.ret h))
 refine Tot.bind (Ar K c b X) λ_ _=>?_
 simp only[Q67.f];refine Tot.bind (P:=λ_=>True) (Tot.not (decide_eq_false Y) (Tot.ret trivial)) λ_ _=>Tot.bind (wR K _ _ X) λn _=>Tot.cnd (λ_=>?_) λh=>?_
 ·simp only[Q68.f];refine Tot.bind (P:=λ_=>True) (Tot.cnd (λ_=>Tot.ret trivial) λ_=>Tot.cnd (λ_=>Tot.ret trivial) λ_=>Tot.cnd (λ_=>Tot.ret trivial) λ_=>Tot.ret trivial) λ_ _=>Tot.cnd (λ_=>?_) λ_=>?_ <;>
  exact Tot.bind (kw K _ _ _ (by omega)) λ_ J=>Tot.bind (kw K _ _ _ (by omega)) λ_ u=>Tot.bind (kw K _ _ _ (by omega)) λ_ y=>Tot.bind (z _) λ_ M=>Tot.ret ⟨J,u,y,M⟩
 ·have R:¬ n.1.1=0:=by simpa using h
  refine Tot.cnd (λ_=>?_) λ_=>?_ <;>
  exact Tot.not (decide_eq_false R) (Tot.bind (kw K _ _ _ (by omega)) λ_ J=>Tot.not (decide_eq_false R) (Tot.bind (kw K _ _ _ (by omega)) λ_ u=>Tot.bind (kw K _ _ _ (by omega)) λ_ y=>Tot.bind (z _) λ_ M=>Tot.ret ⟨J,u,y,M⟩))
noncomputable def pv (K:Nat)(c b:dh)(t s:Int):dh:=((Q71.f K (c,b,t,s,())).getD (((0,0,0,0),()),())).1.1
noncomputable def rQ (K:Nat)(l:List Int):Int:=((Q72.f K (l,())).getD ((0,()),())).1.1
theorem wS (K:Nat)(c b:dh)(t s:Int)(u:cn c)(r:1048577<K):Q71.f K (c,b,t,s,())=some ((pv K c b t s,()),())/\cn (pv K c b t s):=by
 obtain⟨⟨⟨v,⟨⟩⟩,⟨⟩⟩,e,h⟩:=At K c b t s u r;unfold pv;rw[e];exact⟨rfl,h⟩
theorem med_t (K:Nat)(l:List Int)(hl:l.length<=100)(hK:1048577<K):Tot (Q72.f K (l,())) λ_=>True:=by
 simp only[Q72.f,Q72.pre];have u:∀ J:List Int,J.length<=100->Tot (Q72.l0 K (l,()) (J,[],0)) λ_=>True:=λJ hx=>by
  refine Tot.iter (step:=λrec a=>Q72.s0 K (l,()) (Q72.l1 K (l,()) rec) rec a) (λa=>a.1=J/\0<=a.2.2/\a.2.2<=J.length/\(a.2.1.length:Int)=a.2.2) (λa=>J.length-a.2.2.toNat) ?_ K _ (by show J.length-AV 0<K;omega) ⟨rfl,by show (0:Int)<=0;omega,by show (0:Int)<=_;omega,rfl⟩;rintro rec ⟨ys,H,i⟩ ⟨rfl,X,h1,h2⟩ Y;simp only at X h1 h2 hx Y ⊢;simp only[Q72.s0];obtain⟨i,rfl⟩:=AX X;refine Tot.cnd (λh=>?_) λ_=>Tot.cnd (λ_=>Tot.ret trivial) λh=>?_
  ·have I:=of_decide_eq_true h;clear h;refine Tot.iter (step:=λz a=>Q72.s1 K (l,()) rec z a) (λa=>a.1=ys/\a.2.1=H/\a.2.2.1=i/\0<=a.2.2.2/\a.2.2.2<=H.length) (λa=>H.length-a.2.2.2.toNat) ?_ K _ (by show H.length-AV 0<K;omega) ⟨rfl,rfl,rfl,by show (0:Int)<=0;omega,by show (0:Int)<=_;omega⟩;rintro z ⟨M,r,j,k⟩ ⟨rfl,rfl,e,k0,k1⟩ R;simp only at e k0 k1 I h1 h2 hx R Y ⊢;subst e;simp only[Q72.s1];obtain⟨k,rfl⟩:=AX k0;have a0:∀ y:Int,Tot (rec (M,(([]++((r.take (AV (k:Int))).drop (AV 0)))++([y]))++((r.take (AV (AU r:Int))).drop (AV (k:Int))),wr .i64 ((i:Int)+1))) λ_=>True:=λy=>by
    rw[au i (by omega)];refine Y _ ⟨rfl,by show (0:Int)<=((i+1:Nat):Int);omega,by show ((i+1:Nat):Int)<=_;omega,?_⟩ (by show M.length-AV ((i+1:Nat):Int)<M.length-AV (i:Int);omega);simp only[AY,B3,BR,BJ,BG,BS,BX,AZ,BI];omega
   have O:Tot (bif decide (0<=0)&&decide ((0:Int)<=(k:Int))&&decide ((k:Int)<=(AU r:Int))&&true then (bif decide ((AU ([]:List (Ty.den (.int .i64)))+AU ((r.take (AV (k:Int))).drop (AV 0)))*8<=ak) then ((idx M (i:Int)).bind λZ=>bif decide ((AU ([]++((r.take (AV (k:Int))).drop (AV 0)))+AU ([Z]))*8<=ak) then (bif decide ((0:Int)<=(k:Int))&&decide ((k:Int)<=(AU r:Int))&&decide ((AU r:Int)<=(AU r:Int))&&true then (bif decide ((AU (([]++((r.take (AV (k:Int))).drop (AV 0)))++([Z]))+AU ((r.take (AV (AU r:Int))).drop (AV (k:Int))))*8<=ak) then (rec (M,(([]++((r.take (AV (k:Int))).drop (AV 0)))++([Z]))++((r.take (AV (AU r:Int))).drop (AV (k:Int))),wr .i64 ((i:Int)+1))) else none) else none) else none) else none) else none) λ_=>True:=by
    refine Tot.must (by simp only[Bc,decide_eq_true_eq,CH];omega) (Tot.fit (Tot.ix X I λy _ _=>Tot.fit (Tot.must (by simp only[Bc,decide_eq_true_eq,CH];omega) (Tot.fit (a0 y) (by omega) ?_)) (by omega) ?_) (by omega) ?_) <;>
    simp only[AY,B3,BR,BJ,BG,BS,BX,AZ,BI] <;> omega
   refine Tot.cnd (λh4=>?_) λ_=>O
   have h4:=of_decide_eq_true h4;refine Tot.ix k0 h4 λy1 _ _=>Tot.ix X I λy2 _ _=>Tot.cnd (λ_=>?_) λ_=>O
   rw[au k (by omega)];exact R _ ⟨rfl,rfl,rfl,by show (0:Int)<=((k+1:Nat):Int);omega,by show ((k+1:Nat):Int)<=_;omega⟩ (by show r.length-AV ((k+1:Nat):Int)<r.length-AV (k:Int);omega)
  ·have h:¬ (H.length:Int)=0:=by simpa using h
   rw[aJ (n:=(H.length:Int)-1) (by omega) (by omega)];have e:B4 ((H.length:Int)-1) 2=((H.length:Int)-1) / 2:=by rw[Ba (by omega)]
   rw[e,aJ (by omega) (by omega)];exact Tot.ix (by omega) (by omega) λy _ _=>Tot.ret trivial
 refine Tot.cnd (λh=>?_) λ_=>u l hl
 have h:=of_decide_eq_true h;rw[aJ (n:=(l.length:Int)-3) (by omega) (by omega)];exact Tot.must (by simp only[Bc,decide_eq_true_eq,CH];omega) (u _ (by simp only[BX,BS];omega))
theorem med_s (K:Nat)(l:List Int)(r:l.length<=100)(u:1048577<K):Q72.f K (l,())=some ((rQ K l,()),()):=by
 obtain⟨⟨⟨v,⟨⟩⟩,⟨⟩⟩,e,_⟩:=med_t K l r u;unfold rQ;rw[e];rfl
theorem qP {α A R:Type}(k:α->Int)(x:α)(t:List α)(hA:Asc k t)(S0 S1:List α->Nat->A)(I:List α->Option R){step:(A->Option R)->A->Option R}
  (h0:∀ (rec:A->Option R) (r:List α) (i:Nat) (O:i<t.length),r.length=i->(∀ y∈t.take i,k y<k x)->step rec (S0 r i)=if k t[i]<k x then rec (S0 (r++[t[i]]) (i+1)) else if k t[i]=k x then rec (S1 (r++[x]) (i+1)) else rec (S1 (r++[x]++[t[i]]) (i+1)))
  (h1:∀ (rec:A->Option R) (r:List α) (i:Nat) (O:i<t.length),r.length<=i+1->k x<k t[i]->step rec (S1 r i)=rec (S1 (r++[t[i]]) (i+1)))
  (e0:∀ (rec:A->Option R) (r:List α),r.length=t.length->(∀ y∈t,k y<k x)->step rec (S0 r t.length)=I (r++[x]))
  (e1:∀ (rec:A->Option R) (r:List α),r.length<=t.length+1->step rec (S1 r t.length)=I r) {K:Nat} (Y:t.length<K):ae step K (S0 [] 0)=I (bM k x t):=by
 have r1:∀ (n i K:Nat) (r:List α),i+n=t.length->n<K->r.length<=i+1->(∀ y∈t.drop i,k x<k y)->ae step K (S1 r i)=I (r++t.drop i):=by
  intro n;induction n with
  |zero =>
   intro i K r O Y M _;obtain⟨K,rfl⟩:∃ X,K=X+1:=⟨K-1,by omega⟩;have:i=t.length:=by omega
   subst this;show step (ae step K) _=_;rw[e1 _ _ M,B8,BE]
  |succ n ih =>
   intro i K r O Y M hg;obtain⟨K,rfl⟩:∃ X,K=X+1:=⟨K-1,by omega⟩;have u:i<t.length:=by omega
   rw[BD u]at hg;show step (ae step K) _=_;rw[h1 _ _ _ u M (hg _ (.head _)),ih (i+1) K _ (by omega) (by omega) (by simp;omega) (λy z=>hg y (.tail _ z)),BD u];simp
 have H:∀ i (O:i<t.length),∀ y∈t.drop (i+1),k t[i]<k y:=λi O y z=>by
  have:=List.Pairwise.drop (i:=i) hA;rw[BD O]at this;exact (BK.1 this).1 y z
 have r0:∀ (n i K:Nat) (r:List α),i+n=t.length->n<K->r=t.take i->(∀ y∈t.take i,k y<k x)->ae step K (S0 r i)=I (bM k x t):=by
  intro n;induction n with
  |zero =>
   intro i K r O Y M J;obtain⟨K,rfl⟩:∃ X,K=X+1:=⟨K-1,by omega⟩;have:i=t.length:=by omega
   subst this;rw[Bj]at M J;subst M;show step (ae step K) _=_;rw[e0 _ _ rfl J];unfold bM;rw[BL.2 (by simpa using J),BM.2 (λy z=>by have:=J y z;simp;omega)]
  |succ n ih =>
   intro i K r O Y M J;obtain⟨K,rfl⟩:∃ X,K=X+1:=⟨K-1,by omega⟩;have u:i<t.length:=by omega
   subst M;have a0:(t.take i).length=i:=by rw[BS];omega
   show step (ae step K) _=_;rw[h0 _ _ _ u a0 J];have Z:k x<=k t[i]->bM k x t=t.take i++x::(t.drop i).filter (λy=>decide (k x<k y)):=λhc=>by
    unfold bM;conv=>lhs;rw[<- Br i t]
    rw[Bb,Bb,BL.2 (by simpa using J),(BM (l:=t.take i)).2 (λy z=>by have:=J y z;simp;omega),BJ];rw[BD u,BO,if_neg (by simp;omega),BM.2 (λy z=>by have:=H i u y z;simp;omega),BE]
   by_cases hc:k t[i]<k x
   ·rw[if_pos hc];refine ih (i+1) K _ (by omega) (by omega) (by rw[CZ,BF u];rfl) λy z=>?_
    rw[CZ,BF u]at z;rcases Bh.1 z with z|z
    ·exact J y z
    ·simp at z;rw[z];exact hc
   ·rw[if_neg hc,Z (by omega),BD u];by_cases he:k t[i]=k x
    ·rw[if_pos he,r1 n (i+1) K _ (by omega) (by omega) (by simp;omega) (λy z=>by have:=H i u y z;omega),BO,if_neg (by simp;omega),BL.2 (λy z=>by have:=H i u y z;simp;omega)];simp
    ·rw[if_neg he,r1 n (i+1) K _ (by omega) (by omega) (by simp;omega) (λy z=>by have:=H i u y z;omega),BO,if_pos (by simp;omega),BL.2 (λy z=>by have:=H i u y z;simp;omega)];simp
 exact r0 t.length 0 K [] (by omega) Y rfl (by simp)
theorem wT {t:List af}{f:af}(h:∀ g∈t,g.1<f.1):(bY t f).1=t++[f]:=by
 rw[iL (λg r e=>by have:=h g r;omega)];unfold bM;rw[BL.2 (by simpa using h),BM.2 (λy u=>by have:=h y u;simp;omega)]
theorem pw:∀ {fs t:List af},Asc (λf:af=>f.1) fs->(∀ g∈t,∀ f∈fs,g.1<f.1)->e8 t fs=t++fs
 |[],t,_,_=>by simp[e8]
 |f::fs,t,y,h=>by
  show e8 (bY t f).1 fs=_;rw[wT (λg r=>h g r f (by simp)),pw (BK.1 y).2 ?_]
  ·simp
  ·intro g r e u;rcases Bh.1 r with r|r
   ·exact h g r e (by simp[u])
   ·rw[BN.1 r];exact (BK.1 y).1 e u
theorem vp {fs:List af}(h:aA fs):e8 [] fs=fs:=by
 rw[pw h.2 (by simp)];rfl
theorem zy (K:Nat)(a b:List af)(u:aA a)(r:aA b)(y:1048577<K):Q52.f K (a,b,())=some ((e8 a b,()),()):=by
 simp only[Q52.f,Q52.pre];obtain⟨X,I,H⟩:=fZ K a (cE u) y;obtain⟨R,M,J⟩:=fZ K b (cE r) y;have:=cE u;have:=cE r;rw[I,M,H.2 u,J.2 r];simp only[AT,BC,cond_false];rw[szb _ _ _ (by omega) (by show (AU ([]:List af))+a.length<=_;simp;omega)];simp only[cond_true,BJ];refine tR a b u r.1 (step:=λrec x=>Q52.s0 K (a,b,()) rec x) (λt=>some ((t,()),())) ?_ ?_ (by omega)
 ·intro rec t i O z;simp only[Q52.s0];rw[bO (by omega:(i:Int)<(AU b:Int)),ai O,au i (by omega)];simp only[cond_true,AT];rw[vg K t _ (cE z) z.2 y];rfl
 ·intro rec t;simp only[Q52.s0,bf];rfl
theorem sS {u:Int}{l:List cj}(h:cN u l)(s:Int):aA (eP l s):=by
 rcases qD (l:=l) (s:=s) with e|⟨x,r,_,e⟩ <;> rw[e]
 ·exact⟨by simp,List.Pairwise.nil⟩
 ·exact (h.1 x r).2.2.2.1
theorem olen {u:Int}{l:List cj}(h:cN u l):l.length<=1048576:=BZ (it h.2 λx r=>⟨(h.1 x r).1.1,B5 (h.1 x r).1.2 (by decide)⟩) (by decide)
theorem wU (K:Nat)(n:aa)(s:Int)(t:List af)(h:cN n.1 (aa.others n))(r:aA t)(y:1048577<K):Q53.f K (n,s,t,())=some ((e8 (eP (aa.others n) s) t,()),()):=by
 have z:=olen h;refine u5 (step:=λrec a=>Q53.s0 K (n,s,t,()) rec a) (aa.others n) s (λl=>some ((e8 l t,()),())) ?_ ?_ (aa.others n).length 0 K (by omega) (by omega)
 ·intro rec i u;simp only[Q53.s0];rw[bO (by omega:(i:Int)<(AU (aa.others n):Int)),ai u,au i (by omega)];simp only[cond_true,AT];cases (aa.others n)[i].1==s with
  |false=>rfl
  |true=>exact (congrArg (λo=>BB o _) (zy K _ t (h.1 _ (AW u)).2.2.2.1 r y)).trans rfl
 ·intro rec;simp only[Q53.s0,bf,cond_false];rw[vp r];refine (congrArg (λb=>bif b then _ else _) (szb (AU ([]:List af)) t.length 32 (by omega) ?_)).trans rfl;have:=cE r;simp;omega
theorem sum_s (K:Nat)(n:aa)(s:Int)(t:List af)(h:cN n.1 (aa.others n))(R:1048577<K):Q54.f K (n,s,t,())=some ((setO n (bM (λx:cj=>x.1) (s,t) (aa.others n)),()),()):=by
 have X:=olen h;refine qP (step:=λrec a=>Q54.s0 K (n,s,t,()) rec a) (λx:cj=>x.1) (s,t) (aa.others n) h.2 (λr i=>(r,false,(i:Int))) (λr i=>(r,true,(i:Int))) (λo=>some ((setO n o,()),())) ?_ ?_ ?_ ?_ (by omega)
 ·intro rec r i I H _;simp only[Q54.s0,zcp4,zcp8];rw[bO (by omega:(i:Int)<(AU (aa.others n):Int)),ai I,au i (by omega)];simp only[cond_true,AT,BV];have u:=szb r.length 1 32 (by omega) (by omega);have O:=szb (r++[(s,t)]).length 1 32 (by omega) (by simp;omega);generalize (aa.others n)[i]=y at *;by_cases J:y.1<s
  ·rw[if_pos J,show decide (y.1>=s)=false from decide_eq_false (by omega),show (y.1 != s)=true by simp;omega];exact (congrArg (λb=>bif b then _ else _) u).trans rfl
  ·rw[if_neg J,show decide (y.1>=s)=true from decide_eq_true (by omega)];refine (congrArg (λb=>bif b then _ else _) u).trans ?_;by_cases z:y.1=s
   ·rw[if_pos z,show (y.1 != s)=false by simpa using z];rfl
   ·rw[if_neg z,show (y.1 != s)=true by simpa using z];exact (congrArg (λb=>bif b then _ else _) O).trans rfl
 ·intro rec r i I H M;simp only[Q54.s0,zcp4,zcp8];rw[bO (by omega:(i:Int)<(AU (aa.others n):Int)),ai I,au i (by omega)];simp only[cond_true,AT,BC,cond_false];have u:=szb r.length 1 32 (by omega) (by omega);rw[show ((aa.others n)[i].1 != s)=true by simp;have:s<_:=M;omega];exact (congrArg (λb=>bif b then _ else _) u).trans rfl
 ·intro rec r H _;simp only[Q54.s0,zcp4,zcp8,bf,cond_false,BV,cond_true];exact (congrArg (λb=>bif b then _ else _) (szb r.length 1 32 (by omega) (by omega))).trans rfl
 ·intro rec r H;simp only[Q54.s0,zcp4,zcp8,bf,cond_false,BC];rfl
theorem yg (K:Nat)(a b:List af)(Y:a.length<=1048576)(X:1048577<K):Q55.f K (a,b,())=rb (decide (a≠b)):=by
 simp only[Q55.f,Q55.pre];by_cases M:a.length=b.length
 ·rw[show ((AU a:Int) != (AU b:Int))=false by simp;omega];have:=cG (step:=λrec x=>Q55.s0 K (a,b,()) rec x) a.length (λi=>(i:Int)) (λj=>∃ (h:j<a.length) (Z:j<b.length),a[j]≠b[j]) (rb false) (λ_=>rb true) ?_ ?_ a.length K 0 (by omega) (by omega)
  ·rcases this with ⟨H,u⟩|⟨j,_,H,⟨y,I,O⟩,_,u⟩
   ·refine (u:Q55.l0 K (a,b,()) 0=_).trans ?_;rw[decide_eq_false];rintro z;exact z (CJ M λi y I=>Bg.1 λR=>H i (Bd _) y ⟨y,I,R⟩)
   ·refine (u:Q55.l0 K (a,b,()) 0=_).trans ?_;rw[decide_eq_true];rintro rfl;exact O rfl
  ·intro rec i J;simp only[Q55.s0];rw[bO (by omega:(i:Int)<(AU a:Int)),ai J,au i (by omega),ai (show i<b.length by omega)];simp only[cond_true,AT];rw[show Ty.eqv t2 a[i] (b[i]'(by omega))=decide (a[i]=b[i]'(by omega)) from lj _ _];by_cases r:a[i]=b[i]'(by omega)
   ·exact .inl ⟨λ⟨_,_,h⟩=>h r,by rw[decide_eq_true r];rfl⟩
   ·exact .inr ⟨⟨J,by omega,r⟩,by rw[decide_eq_false r];rfl⟩
  ·intro rec;simp only[Q55.s0,bf];rfl
 ·rw[show ((AU a:Int) != (AU b:Int))=true by simp;omega,decide_eq_true (show a≠b from λe=>M (by rw[e]))];rfl
theorem qf (K:Nat)(l:List Int)(t:Int)(u:l.length<=1048576):Q61.f K (l,t,())=some ((gJ l t,()),()):=by
 simp only[Q61.f];rw[szb _ _ _ (by omega) (by show (AU ([]:List Int))+l.length<=_;simp;omega)];simp only[cond_true,BJ];rw[szb _ _ _ (by omega) (by show l.length+[t].length<=_;simp;omega)];simp only[cond_true];have r:(l++[t]).length=l.length+1:=by simp
 show (bif decide (((l++[t]).length:Int)>3) then (bif decide (0<=wr .i64 (((l++[t]).length:Int)-3))&&decide (wr .i64 (((l++[t]).length:Int)-3)<=((l++[t]).length:Int))&&decide (((l++[t]).length:Int)<=((l++[t]).length:Int))&&true then some ((((l++[t]).take (AV ((l++[t]).length:Int))).drop (AV (wr .i64 (((l++[t]).length:Int)-3))),()),()) else none) else some ((l++[t],()),()))=_;by_cases h:l.length+1>3
 ·rw[aJ (by omega) (by omega),decide_eq_true (by omega:((l++[t]).length:Int)>3),decide_eq_true (by omega:(0:Int)<=((l++[t]).length:Int)-3),decide_eq_true (by omega:((l++[t]).length:Int)-3<=((l++[t]).length:Int)),decide_eq_true (BT _)];simp only[Bz,cond_true,gJ];rw[show AV (((l++[t]).length:Int)-3)=(l++[t]).length-3 by omega,AY,Bj]
 ·rw[decide_eq_false (by omega:¬ ((l++[t]).length:Int)>3)];simp only[cond_false,gJ];rw[show (l++[t]).length-3=0 by omega,BR]
theorem plen {u:Int}{l:List dv}(h:dZ u l):l.length<=1048576:=BZ (it h.2 λx r=>(h.1 x r).1) (by decide)
theorem tT {y:Int}{l:List dv}(h:dZ y l)(r:Int):(dq l r).length<=3:=by
 unfold dq;cases u:l.find? λp=>p.1==r with
 |none=>simp
 |some p =>
  have:=(h.1 p (Bk u)).2.2.2.2.1.2;show p.2.2.length<=3;omega
theorem zz (K:Nat)(l:List dv)(r:Int)(c:dh)(t:Int)(me:Int)(h:dZ me l)(hK:1048577<K):Q62.f K (l,r,c,t,())=some ((oI l r c t,()),()):=by
 have hl:=plen h;have h3:=tT h r;refine qP (step:=λrec a=>Q62.s0 K (l,r,c,t,()) rec a) (λx:dv=>x.1) (r,c,gJ (dq l r) t) l h.2 (λu i=>(u,false,(i:Int),[])) (λu i=>(u,true,(i:Int),gJ (dq l r) t)) (λo=>some ((o,()),())) ?_ ?_ ?_ ?_ (by omega)
 ·intro rec u i I R z;simp only[Q62.s0];rw[bO (by omega:(i:Int)<(AU l:Int)),ai I,au i (by omega)];simp only[cond_true,AT,BV];have J:=szb u.length 1 64 (by omega) (by omega);have Z:=szb (u++[(r,c,gJ (dq l r) t)]).length 1 64 (by omega) (by simp;omega);have M:l[i].1=r->dq l r=l[i].2.2:=λe=>by unfold dq;rw[oE h.2 I e];rfl
  have X:r<l[i].1->dq l r=[]:=λe=>by
   unfold dq;rw[nr (k:=λp:dv=>p.1)]
   ·rfl
   intro y O;obtain⟨j,hj,rfl⟩:=BH O;by_cases a1:j<i
   ·have:=z l[j] (by rw[CE];exact⟨j,by omega,rfl⟩);show l[j].1≠r;have:l[j].1<r:=this;omega
   ·have:l[i].1<=l[j].1:=by
     by_cases e:i=j
     ·subst e;exact BT _
     ·exact CB (eA.1 h.2 i j I hj (by omega))
    show l[j].1≠r;omega
  have a0:=(h.1 _ (AW I)).2.2.2.2.1.2;generalize l[i]=y at *;by_cases c1:y.1<r
  ·rw[if_pos c1,show decide (y.1>=r)=false from decide_eq_false (by omega),show (y.1 != r)=true by simp;omega,show (y.1==r)=false by simp;omega];exact (congrArg (λb=>bif b then _ else _) J).trans rfl
  ·rw[if_neg c1,show decide (y.1>=r)=true from decide_eq_true (by omega)];by_cases H:y.1=r
   ·rw[if_pos H,show (y.1 != r)=false by simpa using H,show (y.1==r)=true by simpa using H];simp only[cond_true,cond_false];rw[<- M H];refine (congrArg (λo=>BB o _) (qf K _ t (by omega))).trans ?_;exact (congrArg (λb=>bif b then _ else _) J).trans rfl
   ·rw[if_neg H,show (y.1 != r)=true by simpa using H,show (y.1==r)=false by simpa using H];simp only[cond_true,cond_false];have e:=X (by omega);rw[e]at Z ⊢;refine (congrArg (λo=>BB o _) (qf K [] t (by simp))).trans ?_;refine (congrArg (λb=>bif b then _ else _) J).trans ?_;exact (congrArg (λb=>bif b then _ else _) Z).trans rfl
 ·intro rec u i I R Y;simp only[Q62.s0];rw[bO (by omega:(i:Int)<(AU l:Int)),ai I,au i (by omega)];have Y:r<l[i].1:=Y;simp only[cond_true,AT,BC,cond_false];rw[show (l[i].1 != r)=true by simp;omega,show (l[i].1==r)=false by simp;omega];exact (congrArg (λb=>bif b then _ else _) (szb u.length 1 64 (by omega) (by omega))).trans rfl
 ·intro rec u R z;simp only[Q62.s0,bf,cond_false,BV,cond_true];have e:dq l r=[]:=by
   unfold dq;rw[nr (k:=λp:dv=>p.1) (λy O=>by have:y.1<r:=z y O;show y.1≠r;omega)];rfl
  rw[e];refine (congrArg (λo=>BB o _) (qf K [] t (by simp))).trans ?_;exact (congrArg (λb=>bif b then _ else _) (szb u.length 1 64 (by omega) (by omega))).trans rfl
 ·intro rec u R;simp only[Q62.s0,bf,cond_false,BC]
def sU (n u r:Int):Int:=if n<u then u else if n>r then r else n
theorem yP (K:Nat)(n z y:Int):Q60.f K (n,z,y,())=some ((sU n z y,()),()):=by
 simp only[Q60.f,sU];by_cases u:n<z
 ·rw[decide_eq_true u,if_pos u];rfl
 ·rw[decide_eq_false u,if_neg u];by_cases r:n>y
  ·rw[decide_eq_true r,if_pos r];rfl
  ·rw[decide_eq_false r,if_neg r];rfl
theorem zA {n u r:Int}(h:u<=r):InP (sU n u r) u r:=by
 unfold sU;split
 ·exact⟨BT _,h⟩
 ·split
  ·exact⟨h,BT _⟩
  ·exact⟨by omega,by omega⟩
def wV (n:aa):Int:=sU ((b6 n-(aa.probe n).2.1)*1000+500) 1 60000
noncomputable def qg (K:Nat)(w:ap)(c:dh)(p:dv):dh:=bif p.1==w.2.2.1 then pv K c (ap.coord w) (rQ K p.2.2) w.2.2.2.2.1 else c
def j9 (n:aa)(w:ap):List dv:=oI (aa.places n) w.2.2.1 (ap.coord w) (wV n)
def qh (n:aa)(w:ap):Bool:=!decide ((aa.probe n).1<0)&&(aa.probe n).1==w.2.2.1&&(aa.probe n).2.2.1==w.2.2.2.2.1&&w.2.2.2.2.2.1==w.2.2.1
noncomputable def eR (K:Nat)(n:aa)(w:ap):aa:=bif qh n w then pt n ((j9 n w).foldl (qg K w) (aa.coord n)) (j9 n w) else n
theorem ut {K:Nat}{w:ap}{c:dh}{p:dv}(r:cn c)(u:1048577<K):cn (qg K w c p):=by
 unfold qg;cases p.1==w.2.2.1 with
 |false=>exact r
 |true=>exact (wS K c _ _ _ r u).2
theorem sW {n:aa}(h:UpX n)(H:¬ (aa.probe n).1<0):(aa.probe n).1≠n.1/\InP (aa.probe n).1 0 7/\ao (aa.probe n).1=ao n.1/\InP (aa.probe n).2.1 0 (b6 n):=by
 have r:=h.probe;unfold cM at r;rw[if_neg (by omega)]at r;obtain⟨z,⟨f,u,e⟩,y,_⟩:=r;exact⟨z,e ▸ (h.table.1 f u).1,e ▸ h.site f u,y⟩
theorem uu {n:aa}{w:ap}(h:UpX n)(H:cn (ap.coord w))(y:qh n w=true):dZ n.1 (j9 n w):=by
 simp only[qh,Bc,Ca,decide_eq_false_iff_not,beq_iff_eq]at y;obtain⟨⟨⟨J,I⟩,M⟩,O⟩:=y;obtain⟨u,r,z,_⟩:=sW h J;rw[I]at u r z;exact vn h.places r z u H (zA (by decide))
theorem ack_s (K:Nat)(n:aa)(w:ap)(h:UpN n)(Z:cn (ap.coord w))(I:1048577<K):Q73.f K (n,w,())=some ((eR K n w,()),()):=by
 simp only[Q73.f,Q73.pre,zc00556];have H:qh n w=(!decide ((aa.probe n).1<0)&&(aa.probe n).1==w.2.2.1&&(aa.probe n).2.2.1==w.2.2.2.2.1&&w.2.2.2.2.2.1==w.2.2.1):=rfl;by_cases r:(aa.probe n).1<0
 ·rw[show decide (n.2.2.2.2.2.2.2.2.2.2.1.1<0)=true from decide_eq_true r];rw[show eR K n w=n by unfold eR;rw[H,decide_eq_true r];rfl];rfl
 ·rw[show decide (n.2.2.2.2.2.2.2.2.2.2.1.1<0)=false from decide_eq_false r];cases u:(aa.probe n).1==w.2.2.1 with
  |false =>
   rw[show eR K n w=n by unfold eR;rw[H,decide_eq_false r,u];rfl];rw[show (n.2.2.2.2.2.2.2.2.2.2.1.1 != w.2.2.1)=true by unfold bne;rw[show (n.2.2.2.2.2.2.2.2.2.2.1.1==w.2.2.1)=false from u];rfl];rfl
  |true =>
   rw[show (n.2.2.2.2.2.2.2.2.2.2.1.1 != w.2.2.1)=false by unfold bne;rw[show (n.2.2.2.2.2.2.2.2.2.2.1.1==w.2.2.1)=true from u];rfl];cases z:(aa.probe n).2.2.1==w.2.2.2.2.1 with
   |false =>
    rw[show eR K n w=n by unfold eR;rw[H,decide_eq_false r,u,z];rfl];rw[show (n.2.2.2.2.2.2.2.2.2.2.1.2.2.1 != w.2.2.2.2.1)=true by unfold bne;rw[show (n.2.2.2.2.2.2.2.2.2.2.1.2.2.1==w.2.2.2.2.1)=false from z];rfl];rfl
   |true =>
    rw[show (n.2.2.2.2.2.2.2.2.2.2.1.2.2.1 != w.2.2.2.2.1)=false by unfold bne;rw[show (n.2.2.2.2.2.2.2.2.2.2.1.2.2.1==w.2.2.2.2.1)=true from z];rfl];cases J:w.2.2.2.2.2.1==w.2.2.1 with
    |false =>
     rw[show eR K n w=n by unfold eR;rw[H,decide_eq_false r,u,z,J];rfl];rw[show (w.2.2.2.2.2.1 != w.2.2.1)=true by unfold bne;rw[J];rfl];rfl
    |true =>
     have O:qh n w=true:=by rw[H,decide_eq_false r,u,z,J];rfl
     rw[show (w.2.2.2.2.2.1 != w.2.2.1)=false by unfold bne;rw[J];rfl];have hp:=(sW h.x r).2.2.2;have hn:=h.now1;have R:=uu h.x Z O;simp only[cond_false];rw[show wr .i64 (wr .i64 (wr .i64 (n.2.2.2.2.2.1-n.2.2.2.2.2.2.2.2.2.2.1.2.1)*1000)+500)=(b6 n-(aa.probe n).2.1)*1000+500 by
      obtain⟨p1,p2⟩:=hp;show wr .i64 (wr .i64 (wr .i64 (b6 n-(aa.probe n).2.1)*1000)+500)=_;rw[aJ (n:=b6 n-_) (by omega) (by omega),aJ (n:=_*1000) (by omega) (by omega),aJ (by omega) (by omega)]]
     rw[yP];simp only[AT];refine (congrArg (λo=>BB o _) (zz K (aa.places n) w.2.2.1 (ap.coord w) (wV n) n.1 h.x.places I)).trans ?_;simp only[AT];rw[show eR K n w=pt n ((j9 n w).foldl (qg K w) (aa.coord n)) (j9 n w) by unfold eR;rw[O];rfl];show Q73.l0 K (n,w,()) (0,(aa.coord n).1,(aa.coord n).2.1,(aa.coord n).2.2.1,(aa.coord n).2.2.2,j9 n w)=_;have hl:=plen R;refine mB (step:=λrec a=>Q73.s0 K (n,w,()) rec a) (j9 n w) (qg K w) cn (λc i=>((i:Int),c.1,c.2.1,c.2.2.1,c.2.2.2,j9 n w)) (λc=>some ((pt n c (j9 n w),()),())) (aa.coord n) h.x.coord ?_ ?_ (by omega)
     ·intro rec c i X M;refine⟨?_,ut M I⟩;simp only[Q73.s0,zc00556,zcp8];rw[bO (by omega:(i:Int)<(AU (j9 n w):Int)),AY,ai X,au i (by omega)];simp only[cond_true,AT];have Y:=(R.1 _ (AW X)).2.2.2.2.1.2;generalize (j9 n w)[i]=y at *;unfold qg;cases y.1==w.2.2.1 with
      |false=>rfl
      |true =>
       simp only[cond_true];refine (congrArg (λo=>BB o _) (med_s K y.2.2 (by omega) I)).trans ?_;refine (congrArg (λo=>BB o _) (wS K c (ap.coord w) (rQ K y.2.2) w.2.2.2.2.1 M I).1).trans ?_;rfl
     ·intro rec c M;simp only[Q73.s0,zc00556,zcp8,bf,cond_false];rfl
theorem Au {K:Nat}{n:aa}{w:ap}(h:UpN n)(r:cn (ap.coord w))(u:1048577<K):UpN (eR K n w)/\(eR K n w).1=n.1/\(eR K n w).2.2.1=n.2.2.1:=by
 unfold eR;cases z:qh n w with
 |false=>exact⟨h,rfl,rfl⟩
 |true=>exact⟨h.heard (lM (Inv:=cn) h.x.coord λc p _ y=>ut y u) (uu h.x r z),rfl,rfl⟩
def pz (n:aa)(w:ap):Prop:=n.2.1=true/\n.2.2.1=false/\w.2.2.2.1=n.1/\w.2.2.1≠n.1 /\
 (if w.1=2 then w.2.1=6/\ao w.2.2.1≠ao n.1/\(bS (ap.table w) (ao n.1)\/bS (ap.table w) (ao w.2.2.1)) else ao w.2.2.1=ao n.1/\(w.2.1≠6\/¬ bS (ap.table w) (ao n.1)))
theorem zC (K:Nat)(n:aa)(w:ap)(z:(ap.table w).length<=1048576)(I:1048577<K):Ret (Q40.f K (n,w,())) (pz n w):=by
 refine (Ret.cndN (P:=¬ n.2.1=true) (b:=!n.2.1) (by simp) λ_=>Ret.cndN (P:=n.2.2.1=true) (b:=n.2.2.1) Iff.rfl λ_=>Ret.cndN (P:=w.2.2.2.1≠n.1) (b:=w.2.2.2.1 != n.1) (by simp) λ_=>Ret.cndN (P:=w.2.2.1=n.1) (b:=w.2.2.1==n.1) (by simp) λ_ =>
  (?_:Ret _ (if w.1=2 then w.2.1=6/\ao w.2.2.1≠ao n.1/\(bS (ap.table w) (ao n.1)\/bS (ap.table w) (ao w.2.2.1)) else ao w.2.2.1=ao n.1/\(w.2.1≠6\/¬ bS (ap.table w) (ao n.1))))).iff ?_
 ·refine Ret.vl (cL K n.1) ?_;obtain⟨H,J,y⟩:=eM K (ap.table w) (ao n.1) z I;obtain⟨R,M,O⟩:=eM K (ap.table w) (ao w.2.2.1) z I;by_cases u:w.1=2
  ·rw[show (w.1==2)=true by simpa using u,if_pos u];refine Ret.cnd (P:=w.2.1=6) (b:=w.2.1==6) (by simp) λ_=>?_
   refine Ret.cnd (P:=ao w.2.2.1≠ao n.1) (b:=ao w.2.2.1 != ao n.1) (by simp) λ_=>Ret.vl J ?_
   cases H with
   |true=>exact Ret.yes (.inl (y.1 rfl))
   |false =>
    refine Ret.vl M ?_;exact Ret.of (b:=R) (O.trans ⟨.inr,λh=>h.resolve_left λh=>by have:=y.2 h;cases this⟩)
  ·rw[show (w.1==2)=false by simpa using u,if_neg u];refine Ret.cnd (P:=ao w.2.2.1=ao n.1) (b:=ao w.2.2.1==ao n.1) (by simp) λ_=>?_
   by_cases r:w.2.1=6
   ·show Ret (bif w.2.1 != 6 then _ else _) _;rw[show (w.2.1 != 6)=false by simpa using r];refine Ret.vl J (Ret.of (b:=!H) ?_);rw[Ca,<- Cg,y];exact⟨.inr,λh=>h.resolve_left λh=>h r⟩
   ·show Ret (bif w.2.1 != 6 then _ else _) _;rw[show (w.2.1 != 6)=true by simpa using r];exact Ret.yes (.inl r)
 ·unfold pz;rw[Bg,Cg,Bg]
def rR (u:Int)(n:aa)(to y r:Int)(t:List af):ap:=(1,u,n.1,to,y,r,aa.coord n,t)
theorem pA (K:Nat)(n:aa)(u to y r:Int)(t:List af)(z:t.length<=1048576):Q41.f K (n,u,to,y,r,t,())=some ((rR u n to y r t,()),()):=by
 simp only[Q41.f];rw[szb _ _ _ (by omega) (by show (AU ([]:List af))+t.length<=_;simp;omega)];rfl
def nB (t:List af)(s:Int):Bool:=t.all λf=>ao f.1==s
theorem mH {t:List af}{s:Int}:nB t s=true<->bS t s:=by simp[nB,bS]
def i8 (t:List af):af:=(t.head?).getD (0,0,0,false)
def fD (n:aa)(w:ap):List af:=e8 (eP (aa.others n) (ao (i8 (ap.table w)).1)) (ap.table w)
def backW (n:aa)(w:ap):ap:=(2,6,n.1,w.2.2.1,0,n.1,aa.coord n,fD n w)
def sumN (n:aa)(w:ap):aa:=setO n (bM (λx:cj=>x.1) (ao (i8 (ap.table w)).1,fD n w) (aa.others n))
def gz (n:aa)(w:ap):aa×List ap:=bif nB (ap.table w) (ao n.1) then (iN n (ap.table w) n.1,[]) else
 (sumN n w,bif w.1==2&&decide (ap.table w≠fD n w) then [backW n w] else [])
theorem pB:∀ {fs t:List af} {g:af},g∈e8 t fs->g∈t\/g∈fs
 |[],_,_,h=>.inl h
 |f::fs,t,g,h=>by
  rcases pB (fs:=fs) h with h|h
  ·have h:g∈(bY t f).1:=h;rcases gH t f with e|e
   ·rw[e]at h;exact .inl h
   ·rw[e]at h;rcases aW.1 h with rfl|⟨h,_⟩
    ·exact .inr (by simp)
    ·exact .inl h
  ·exact .inr (by simp[h])
theorem pC:∀ {fs t:List af} {g:af},g∈t->∃ r∈e8 t fs,r.1=g.1
 |[],_,g,h=>⟨g,h,rfl⟩
 |f::fs,t,g,h=>by
  obtain⟨J,I,H⟩:=mC (f:=f) h;obtain⟨y,z,u⟩:=pC (fs:=fs) I;exact⟨y,z,u.trans H⟩
theorem tU {t:List af}(H:Asc (λg:af=>g.1) t)(f:af):∃ g∈(bY t f).1,g.1=f.1:=by
 by_cases h:∃ g∈t,g.1=f.1
 ·obtain⟨g,r,e⟩:=h;obtain⟨u,z,y⟩:=mC (f:=f) r;exact⟨u,z,y.trans e⟩
 ·rw[iL λg r e=>h ⟨g,r,e⟩];exact⟨f,aW.2 (.inl rfl),rfl⟩
theorem mI {n:aa}{w:ap}(h:cN n.1 (aa.others n))(M:aA (ap.table w))(u:nu (ap.table w)):aA (fD n w)/\fD n w≠[]/\bS (fD n w) (ao (i8 (ap.table w)).1):=by
 have z:=sS h (ao (i8 (ap.table w)).1);refine⟨qI z M.1,?_,?_⟩
 ·unfold fD;cases y:ap.table w with
  |nil=>rw[y]at u;exact u.elim
  |cons f l =>
   obtain⟨g,I,_⟩:=tU (f:=f) (t:=eP (aa.others n) (ao (i8 (f::l)).1)) (by rw[y]at z;exact z.2);obtain⟨R,H,_⟩:=pC (fs:=l) I;exact CW H
 ·intro g r;rcases pB r with r|r
  ·rcases qD (l:=aa.others n) (s:=ao (i8 (ap.table w)).1) with e|⟨x,J,O,e⟩
   ·rw[e]at r;cases r
   ·rw[e]at r;rw[<- O];exact (h.1 x J).2.2.2.2 g r
  ·cases y:ap.table w with
   |nil=>rw[y]at u;exact u.elim
   |cons f l =>
    rw[y]at u r;exact u g r
theorem zD {x:Int}(h:InP x 0 7):InP (ao x) 0 1:=by
 rw[fw h];obtain⟨u,r⟩:=h;constructor <;> omega
theorem yh {t:List af}(r:nu t)(u:aA t):InP (i8 t).1 0 7:=by
 cases t with
 |nil=>exact r.elim
 |cons f l=>exact (u.1 f (by simp)).1
theorem wW (K:Nat)(n:aa)(w:ap)(h:UpN n)(r:aA (ap.table w))(z:nu (ap.table w))(u:1048577<K):Q56.f K (n,w,())=some (((gz n w).1,(gz n w).2,()),()):=by
 simp only[Q56.f];rw[cL K n.1];simp only[AT];obtain⟨H,O,J⟩:=eM K (ap.table w) (ao n.1) (cE r) u;have M:nB (ap.table w) (ao n.1)=H:=by rw[B9,mH,J]
 unfold gz;rw[M];refine (congrArg (λo=>BB o _) O).trans ?_;simp only[rb,AT];cases H with
 |true =>
  simp only[cond_true];refine (congrArg (λo=>BB o _) (uo K n (ap.table w) n.1 h.learns r.1 (cE r) h.x.me u)).trans rfl
 |false =>
  simp only[cond_false];obtain⟨I,Y,X⟩:=mI (n:=n) h.x.others r z;have y:idx (ap.table w) 0=some (i8 (ap.table w)):=by
   cases R:ap.table w with
   |nil=>rw[R]at z;exact z.elim
   |cons f l=>rfl
  refine (congrArg (λo=>BB o _) y).trans ?_;simp only[AT];rw[cL K];simp only[AT];refine (congrArg (λo=>BB o _) (wU K n (ao (i8 (ap.table w)).1) (ap.table w) h.x.others r u)).trans ?_;simp only[AT];refine (congrArg (λo=>BB o _) (sum_s K n (ao (i8 (ap.table w)).1) (fD n w) h.x.others u)).trans ?_;simp only[AT];cases w.1==2 with
  |false=>rfl
  |true =>
   simp only[cond_true,Bi];refine (congrArg (λo=>BB o _) (yg K (ap.table w) (fD n w) (cE r) u)).trans ?_;simp only[rb,AT];cases decide (ap.table w≠fD n w) with
   |false=>rfl
   |true =>
    simp only[cond_true];refine (congrArg (λo=>BB o _) (pA K (sumN n w) 6 w.2.2.1 0 n.1 (fD n w) (cE I))).trans rfl
theorem vq {n:aa}{w:ap}(h:UpN n)(z:n.2.2.1=false)(u:aA (ap.table w))(r:nu (ap.table w)):UpN (gz n w).1/\(gz n w).1.1=n.1/\(gz n w).1.2.2.1=false:=by
 unfold gz;cases y:nB (ap.table w) (ao n.1) with
 |true=>exact lV h z u (mH.1 y) (fa.me h.x.me)
 |false =>
  obtain⟨M,I,J⟩:=mI (n:=n) h.x.others u r;refine⟨h.setOthers (vm h.x.others (zD (yh r u)) (λe=>?_) I M J),rfl,z⟩;have:bS (ap.table w) (ao n.1):=by
   cases H:ap.table w with
   |nil=>rw[H]at r;exact r.elim
   |cons f l=>rw[H]at r e;rw[<- e];exact r
  rw[mH.2 this]at y;cases y
noncomputable def fA (K:Nat)(n:aa)(w:ap):aa×List ap :=
 bif w.2.1==1 then (bif ao w.2.2.2.2.2.1 != ao n.1 then (n,[]) else bif w.2.2.2.2.2.1==n.1 then (n,[]) else (j0 n,[rR 2 (j0 n) w.2.2.2.2.2.1 w.2.2.2.2.1 n.1 (jZ n w.2.2.2.2.2.1)]))
 else bif w.2.1==3 then (bif ao w.2.2.2.2.2.1 != ao n.1 then (n,[]) else bif w.2.2.2.2.2.1==n.1 then (n,[]) else bif w.2.2.2.2.2.1==w.2.2.1 then (n,[]) else (j0 n,[rR 1 (j0 n) w.2.2.2.2.2.1 w.2.2.2.2.1 w.2.2.1 (jZ n w.2.2.2.2.2.1)]))
 else bif w.2.1==4 then (n,[rR 5 n w.2.2.1 0 n.1 (aa.table n)]) else bif w.2.1==2 then (eR K n w,[]) else (n,[])
theorem yi (K:Nat)(n:aa)(w:ap)(h:UpN n)(z:cn (ap.coord w))(u:1048577<K):Q74.f K (n,w,())=some (((fA K n w).1,(fA K n w).2,()),()):=by
 simp only[Q74.f];rw[cL K n.1];simp only[AT];have r:=uq K n w.2.2.2.2.2.1 h.x.say u;have y:=cE (ny h.x.say w.2.2.2.2.2.1);unfold fA;cases w.2.1==1 with
 |true =>
  simp only[cond_true];rw[cL K];simp only[AT];cases ao w.2.2.2.2.2.1 != ao n.1 with
  |true=>rfl
  |false =>
   simp only[cond_false];cases w.2.2.2.2.2.1==n.1 with
   |true=>rfl
   |false =>
    simp only[cond_false];refine (congrArg (λo=>BB o _) r).trans ?_;simp only[AT];refine (congrArg (λo=>BB o _) (pA K (j0 n) 2 w.2.2.2.2.2.1 w.2.2.2.2.1 n.1 _ y)).trans rfl
 |false =>
  simp only[cond_false];cases w.2.1==3 with
  |true =>
   simp only[cond_true];rw[cL K];simp only[AT];cases ao w.2.2.2.2.2.1 != ao n.1 with
   |true=>rfl
   |false =>
    simp only[cond_false];cases w.2.2.2.2.2.1==n.1 with
    |true=>rfl
    |false =>
     simp only[cond_false];cases w.2.2.2.2.2.1==w.2.2.1 with
     |true=>rfl
     |false =>
      simp only[cond_false];refine (congrArg (λo=>BB o _) r).trans ?_;simp only[AT];refine (congrArg (λo=>BB o _) (pA K (j0 n) 1 w.2.2.2.2.2.1 w.2.2.2.2.1 w.2.2.1 _ y)).trans rfl
  |false =>
   simp only[cond_false];cases w.2.1==4 with
   |true=>exact (congrArg (λo=>BB o _) (pA K n 5 w.2.2.1 0 n.1 (aa.table n) (cE h.x.table))).trans rfl
   |false =>
    simp only[cond_false];cases w.2.1==2 with
    |true=>exact (congrArg (λo=>BB o _) (ack_s K n w h z u)).trans rfl
    |false=>rfl
theorem wX {K:Nat}{n:aa}{w:ap}(h:UpN n)(r:cn (ap.coord w))(u:1048577<K):UpN (fA K n w).1/\(fA K n w).1.1=n.1/\(fA K n w).1.2.2.1=n.2.2.1:=by
 unfold fA;cases w.2.1==1 <;> cases w.2.1==3 <;> cases w.2.1==4 <;> cases w.2.1==2 <;> cases ao w.2.2.2.2.2.1 != ao n.1 <;> cases w.2.2.2.2.2.1==n.1 <;> cases w.2.2.2.2.2.1==w.2.2.1 <;> first|exact⟨h,rfl,rfl⟩|exact⟨h.way,rfl,rfl⟩|exact Au h r u
open Classical in
noncomputable def dl (K:Nat)(n:aa)(w:ap):aa×List ap :=
 if fP w/\pz n w then (if w.2.1=6 then gz n w else fA K (iN n (ap.table w) w.2.2.1) w) else (n,[])
theorem lX {n:aa}{w:ap}(H:fP w)(h:pz n w)(y:w.2.1≠6):bS (ap.table w) (ao n.1)/\fa n w.2.2.1:=by
 obtain⟨_,_,w3,_,_,_,_,_,u⟩:=H;rw[if_neg y]at u;obtain⟨_,_,_,_,r⟩:=h;by_cases z:w.1=2
 ·rw[if_pos z]at r;exact absurd r.1 y
 ·rw[if_neg z]at r;exact⟨r.1 ▸ u,w3,r.1⟩
theorem Av (K:Nat)(n:aa)(w:ap)(h:n.2.1=true->UpN n)(I:(ap.table w).length<=1048576)(y:1048577<K):Q75.f K (n,w,())=some (((dl K n w).1,(dl K n w).2,()),()):=by
 simp only[Q75.f];obtain⟨Z,e1,R⟩:=oF K w I y;obtain⟨Y,e2,O⟩:=zC K n w I y;rw[e1];cases Z with
 |false =>
  unfold dl;rw[if_neg λh=>by have:=R.2 h.1;cases this];rfl
 |true =>
  have z:=R.1 rfl;simp only[rb,AT,BC,cond_false];refine (congrArg (λo=>BB o _) e2).trans ?_;cases Y with
  |false =>
   unfold dl;rw[if_neg λh=>by have:=O.2 h.2;cases this];rfl
  |true =>
   have H:=O.1 rfl;have J:=h H.1;simp only[rb,AT,BC,cond_false];unfold dl;rw[if_pos ⟨z,H⟩];have r:=z.2.2.2.2.2.2.2.1;by_cases u:w.2.1=6
   ·rw[if_pos u,show (w.2.1==6)=true by simpa using u];have M:=z.2.2.2.2.2.2.2.2;rw[if_pos u]at M;exact (congrArg (λo=>BB o _) (wW K n w J r M y)).trans rfl
   ·rw[if_neg u,show (w.2.1==6)=false by simpa using u];obtain⟨hs,X⟩:=lX z H u;have hl:=(lV J H.2.1 r hs X).1;refine (congrArg (λo=>BB o _) (uo K n (ap.table w) w.2.2.1 J.learns r.1 I X.1 y)).trans ?_;exact (congrArg (λo=>BB o _) (yi K _ w hl z.2.2.2.2.2.2.1 y)).trans rfl
theorem uv {K:Nat}{n:aa}{w:ap}(h:UpN n)(O:1048577<K):UpN (dl K n w).1/\(dl K n w).1.1=n.1/\(dl K n w).1.2.2.1=n.2.2.1:=by
 unfold dl;split
 ·rename_i X;obtain⟨y,u⟩:=X;have r:=y.2.2.2.2.2.2.2.1;split
  ·rename_i I;have J:=y.2.2.2.2.2.2.2.2;rw[if_pos I]at J;rw[u.2.1];exact vq h u.2.1 r J
  ·rename_i I;obtain⟨M,R⟩:=lX y u I;have H:=lV h u.2.1 r M R;have z:=wX (w:=w) H.1 y.2.2.2.2.2.2.1 O;exact⟨z.1,z.2.1.trans H.2.1,z.2.2.trans (H.2.2.trans u.2.1.symm)⟩
 ·exact⟨h,rfl,rfl⟩
theorem pD {K:Nat}{n:aa}{w:ap}(h:UpN n)(hK:1048577<K):(dl K n w).2.length<=1/\∀ x∈(dl K n w).2,InP x.2.2.2.1 0 7/\(ap.table x).length<=1048576:=by
 unfold dl;split
 ·rename_i R;obtain⟨u,J⟩:=R;have y:=u.2.2.2.2.2.2.2.1;split
  ·rename_i H;have I:=u.2.2.2.2.2.2.2.2;rw[if_pos H]at I;obtain⟨O,a2,a3⟩:=mI (n:=n) h.x.others y I;unfold gz;cases nB (ap.table w) (ao n.1) with
   |true=>exact⟨by simp,by simp⟩
   |false =>
    simp only[cond_false];cases w.1==2&&decide (ap.table w≠fD n w) with
    |false=>exact⟨by simp,by simp⟩
    |true=>exact⟨by simp,λx r=>by rw[BN.1 r];exact⟨u.2.2.1,cE O⟩⟩
  ·rename_i H;obtain⟨X,Z⟩:=lX u J H;have M:=lV h J.2.1 y X Z;have ht:=cE (ny M.1.x.say w.2.2.2.2.2.1);have z:=cE M.1.x.table;have w3:=u.2.2.1;have Y:=u.2.2.2.2.2.1;generalize iN n (ap.table w) w.2.2.1=m at *;unfold fA;cases w.2.1==1 <;> cases w.2.1==3 <;> cases w.2.1==4 <;> cases w.2.1==2 <;> cases ao w.2.2.2.2.2.1 != ao m.1 <;> cases w.2.2.2.2.2.1==m.1 <;> cases w.2.2.2.2.2.1==w.2.2.1 <;>
    first|exact⟨BP _,λx r=>by rw[BN.1 r];exact⟨Y,ht⟩⟩|exact⟨BP _,λx r=>by rw[BN.1 r];exact⟨w3,z⟩⟩|exact⟨Bd _,λx r=>nomatch r⟩
 ·exact⟨by simp,by simp⟩
end Go.Proofs.YtaegajachoklkaaGreatEv
