/- The marks that a law writes into what was answered, and the look whether they still stand. -/
import Derived.Test.YtmibehbhnkeaiaaGreatP1
import Derived.Test.YtmibehbhnkeaiaaGreatE0
import Derived.Laws.Strings
set_option linter.unusedVariables false
set_option linter.unusedSimpArgs false
open Bool renaming not_true->FS,not_false->F9,eq_iff_iff->GQ,true_and->GU,and_self->Gb,false_and->Gf,and_eq_true->Gr,false_or->Gu,true_or->G7,and_false->HE,or_true->HV
open ByteArray renaming size_extract->Gp
open Classical renaming not_not->Gm
open Eq renaming trans->Gy
open Go.ByteArray renaming toList_eq->HG
open Go.IntKind renaming wrap_i64->HQ
open Int renaming toNat->FM,toNat_natCast->FN,eq_ofNat_of_zero_le->FO,fdiv->F5,tdiv_eq_ediv_of_nonneg->GD,tmod->GJ,le_refl->GY,tdiv->Gn,le_trans->Gw,toNat_zero->Gx,tmod_lt_of_pos->Gz,tmod_eq_emod_of_nonneg->G0,le_of_lt->G6,tmod_nonneg->HB,tdiv_le_self->HR,tdiv_nonneg->HT
open List renaming length->FK,getElem_mem->FL,length_cons->FP,mem_filter->FQ,getElem_of_mem->FR,length_nil->FT,append_nil->FU,getElem?_eq_getElem->FV,length_map->FW,nil_append->FZ,length_append->F0,mem_map->F2,pairwise_cons->F3,reverse_reverse->F4,drop_eq_getElem_cons->F6,pairwise_map->F7,length_filter_le->F8,filter_cons->GA,drop_zero->GB,take_of_length_le->GC,length_take->GE,mem_singleton->GF,append_assoc->GG,filter_eq_self->GI,mem_cons->GK,pairwise_iff_getElem->GO,mem_append->GP,pairwise_append->GR,take_succ_eq_append_getElem->GS,reverse_cons->GT,length_take_le->GV,length_pos_iff->GW,length_drop->GX,filter_append->GZ,filter_eq_nil_iff->Ga,getElem?_eq_none->Gc,length_singleton->Gd,replicate->Gh,take_length->Gi,mem_of_find?_eq_some->Gj,length_reverse->Gk,getElem_take->Gl,length_replicate->Gq,not_mem_nil->Gs,ext_getElem->Gt,map_append->Gv,filter_congr->G1,map_cons->G3,drop_length->G4,pairwise_singleton->G5,find?_cons->G8,find?_some->G9,length_set->HA,take_append_drop->HC,set_append_right->HD,mem_of_mem_take->HF,find?_eq_none->HH,mem_cons_self->HI,getElem?_set->HJ,getElem_drop->HK,getElem_map->HL,perm_middle->HM,cons_append->HN,getElem_set->HO,mem_range->HU,map_nil->HW
open List.Pairwise renaming filter->Gg
open Nat renaming le_refl->FX,zero_le->FY,le_trans->F1,lt_or_eq_of_le->GM,mul_le_mul->GN,lt_trichotomy->Ge
open Option renaming bind_some->FJ,bind->GL,getD_some->HP,map_some->HS
namespace Go.Proofs.YtmibehbhnkeaiaaGreatEv
open Go
theorem oX {α:Type}{xs:List α}{i:Nat}{v:α}(h:i<xs.length):idx (xs.set i v) (i:Int)=some v:=by
 rw[oV,HJ];simp[h]
theorem lM {α β R:Type}(t:List α)(p:α->Bool)(g:α->β)(n:Nat)(u:List β->Option R){step:(List β×Int->Option R)->List β×Int->Option R}
  (h:∀ (rec:List β×Int->Option R) (r:List β) (i:Nat) (J:i<t.length),r.length<=i->r.length<n->step rec (r,(i:Int))=rec (bif p t[i] then r++[g t[i]] else r,((i+1:Nat):Int)))
  (hn:∀ (rec:List β×Int->Option R) (r:List β) (i:Nat),i<t.length->r.length<=i->n<=r.length->step rec (r,(i:Int))=u r)
  (z:∀ (rec:List β×Int->Option R) (r:List β),r.length<=t.length->step rec (r,(t.length:Int))=u r) :
  ∀ (d i k:Nat) (r:List β),i+d=t.length->d<k->r.length<=i->r.length<=n->ae step k (r,(i:Int))=u (r++(((t.drop i).filter p).map g).take (n-r.length)):=by
 intro d;induction d with
 |zero =>
  intro i k r J X H _;obtain⟨k,rfl⟩:∃ I,k=I+1:=⟨k-1,by omega⟩;have:i=t.length:=by omega
  subst this;show step (ae step k) _=_;rw[z _ _ H];simp
 |succ d M =>
  intro i k r J X H Y;obtain⟨k,rfl⟩:∃ I,k=I+1:=⟨k-1,by omega⟩;have y:i<t.length:=by omega
  show step (ae step k) _=_;by_cases O:r.length<n
  ·rw[h _ _ _ y H O,F6 y,GA];cases hp:p t[i] with
   |true =>
    simp only[cond_true,if_true,G3];rw[M (i+1) k _ (by omega) (by omega) (by simp;omega) (by simp;omega)];congr 1;obtain⟨m,Z⟩:∃ m,n-r.length=m+1:=⟨n-r.length-1,by omega⟩;rw[Z,List.take_succ_cons,GG];simp only[F0,FP,FT];rw[show n-(r.length+(0+1))=m by omega];rfl
   |false =>
    simp only[cond_false];rw[M (i+1) k _ (by omega) (by omega) (by omega) (by omega)];rfl
  ·rw[hn _ _ _ y H (by omega)];rw[show n-r.length=0 by omega];simp
theorem wY {α β R:Type}(t:List α)(p:α->Bool)(g:α->β)(u:List β->Option R){step:(List β×Int->Option R)->List β×Int->Option R}
  (h:∀ (rec:List β×Int->Option R) (r:List β) (i:Nat) (z:i<t.length),r.length<=i->step rec (r,(i:Int))=rec (bif p t[i] then r++[g t[i]] else r,((i+1:Nat):Int)))
  (y:∀ (rec:List β×Int->Option R) (r:List β),r.length<=t.length->step rec (r,(t.length:Int))=u r) {k:Nat} (I:t.length<k) :
  ae step k ([],0)=u ((t.filter p).map g):=by
 have:=lM t p g (t.length+1) u (λrec r i z H _=>h rec r i z H) (λrec r i z H J=>by omega) y t.length 0 k [] (by omega) I (FX _) (by simp);refine this.trans ?_;congr 1;simp only[FZ,FT,GB];exact GC (by have:=F8 p t;simp;omega)
theorem dR {e:Ty}{b:Nat}{xs:List e.den}(h:xs.length*b<=140737488355328):gx e b xs=some ((xs,()),()):=by
 unfold gx;rw[decide_eq_true (by simpa[am]using h)];rfl
theorem Cs {α β:Type}{xs r:List α}{b:Nat}{x y:β}(h:(xs.length+r.length)*b<=140737488355328):(bif decide ((FK xs+FK r)*b<=am) then x else y)=x:=by
 rw[decide_eq_true (by simpa[am]using h)];rfl
theorem Bv (K:Nat)(xs:List Int)(n:Int)(I:xs.length<=1048576):Q120.f K (xs,n,())=some ((xs.take n.toNat,()),()):=by
 simp only[Q120.f,Q69.f,FJ,Q7.f];obtain⟨c,z,u,y,r⟩:∃ c:Int,(bif decide (0<(bif decide ((xs.length:Int)<n) then (xs.length:Int) else n)) then bif decide ((xs.length:Int)<n) then (xs.length:Int) else n else 0)=c/\0<=c/\c<=xs.length/\xs.take c.toNat=xs.take n.toNat:=by
  by_cases h:(xs.length:Int)<n
  ·rw[decide_eq_true h];simp only[cond_true];by_cases r:0<(xs.length:Int)
   ·rw[decide_eq_true r];refine⟨_,rfl,by simp,by simp,?_⟩;simp only[cond_true];rw[GC (by omega),GC (by omega)]
   ·rw[decide_eq_false r];refine⟨_,rfl,by simp,by simp,?_⟩;have:xs=[]:=List.eq_nil_of_length_eq_zero (by omega);subst this;simp
  ·rw[decide_eq_false h];simp only[cond_false];by_cases r:0<n
   ·rw[decide_eq_true r];exact⟨_,rfl,by simp;omega,by simp;omega,rfl⟩
   ·rw[decide_eq_false r];refine⟨_,rfl,by simp,by simp,?_⟩;simp only[cond_false];rw[show n.toNat=0 by omega];rfl
 rw[z,decide_eq_true u,decide_eq_true y];simp only[Gx,GB,decide_true,Gb,cond_true];rw[dR (by
  have:=GV c.toNat xs;have H:(List.take c.toNat xs).length<=1048576:=by omega
  omega)]
 simp only[FJ];rw[r];rfl
theorem D8 (K:Nat)(t:List ah)(u:ah×Unit->Option Bool)(p:ah->Bool)(J:t.length<=1048576)(H:1048577<K)(hφ:∀ f∈t,u (f,())=some (p f)) :
  Q116.f K (t,u,())=some (((t.filter p).map (·.1),()),()):=by
 refine wY (step:=λrec a=>Q116.s0 K (t,u,()) rec a) t p (λf=>f.1) (λz=>some ((z,()),())) ?_ ?_ (by omega)
 ·intro rec r i y I;simp only[Q116.s0];rw[bt (by omega:(i:Int)<(FK t:Int)),af y,ar i (by omega)];simp only[cond_true,FJ];rw[hφ _ (FL y)];simp only[FJ];cases p t[i] with
  |true=>simp only[cond_true];rw[Cs (by simp;omega)]
  |false=>rfl
 ·intro rec r _;simp only[Q116.s0,aS];rfl
def nR (f:ah):Bool:=f.2.2.2&&f.2.2.1==1
def gr (t:List ah):List Int:=((t.filter nR).map (·.1)).take 2
theorem wh (K:Nat)(t:List ah)(J:t.length<=1048576)(I:1048577<K):Q229.f K (t,2,())=some ((gr t,()),()):=by
 have:=lM (step:=λrec a=>Q229.s0 K (t,2,()) rec a) t nR (λf=>f.1) 2 (λH=>some ((H,()),())) ?_ ?_ ?_ t.length 0 K [] (by omega) (by omega) (FX _) (by simp)
 ·exact this
 ·intro rec r i u y z;simp only[Q229.s0];rw[bt (by omega:(i:Int)<(FK t:Int)),af u,ar i (by omega),decide_eq_true (by omega:(FK r:Int)<2)];simp only[cond_true,FJ,nR];cases t[i].2.2.2 with
  |true =>
   simp only[cond_true,GU];cases t[i].2.2.1==1 with
   |true=>simp only[cond_true];rw[Cs (by simp;omega)]
   |false=>rfl
  |false=>rfl
 ·intro rec r i u y z;simp only[Q229.s0];rw[bt (by omega:(i:Int)<(FK t:Int)),decide_eq_false (by omega:¬ (FK r:Int)<2)];rfl
 ·intro rec r _;simp only[Q229.s0,aS];rfl
theorem Eh (K:Nat)(t:List ah)(u:t.length<=1048576)(r:1048577<K)(H:aE t):Q134.f K (t,2,())=some ((gr t,()),()):=by
 obtain⟨b,y,z⟩:=gX K t u r;simp only[Q134.f];rw[y];simp only[FJ,z.2 H,FS,cond_false];rw[D8 K t _ nR u r (λf _=>by
  simp only[Q133.f,nR];cases f.2.2.2 <;> rfl)]
 simp only[FJ];rw[Bv K _ 2 (by have:=F8 nR t;simp;omega)];rfl
theorem yu (t:List ah):(gr t).length<=2:=by
 unfold gr;exact GV _ _
def fg (l:List ch)(s:Int):List ah:=((l.find? λx=>x.1==s).map (·.2)).getD []
theorem qG {R:Type}(l:List ch)(s:Int)(r:List ah->Option R){step:(Int->Option R)->Int->Option R}
  (h:∀ (rec:Int->Option R) (i:Nat) (H:i<l.length),step rec (i:Int)=bif l[i].1==s then r l[i].2 else rec ((i+1:Nat):Int))
  (u:∀ rec:Int->Option R,step rec (l.length:Int)=r []) :
  ∀ (d i k:Nat),i+d=l.length->d<k->ae step k (i:Int)=r (fg (l.drop i) s):=by
 intro d;induction d with
 |zero =>
  intro i k H I;obtain⟨k,rfl⟩:∃ z,k=z+1:=⟨k-1,by omega⟩;have:i=l.length:=by omega
  subst this;show step (ae step k) _=_;rw[u];simp[fg]
 |succ d J =>
  intro i k H I;obtain⟨k,rfl⟩:∃ z,k=z+1:=⟨k-1,by omega⟩;have y:i<l.length:=by omega
  show step (ae step k) _=_;rw[h _ _ y,F6 y];simp only[fg,G8];cases l[i].1==s with
  |true=>rfl
  |false=>exact J (i+1) k (by omega) (by omega)
theorem Bw (K:Nat)(n:aa)(s:Int)(u:NB n)(y:1048577<K):Q130.f K (n,s,())=some ((fg (aa.others n) s,()),()):=by
 have z:=u.others;refine qG (step:=λrec a=>Q130.s0 K (n,s,()) rec a) (aa.others n) s (λt=>some ((t,()),())) ?_ ?_ (aa.others n).length 0 K (by omega) (by omega)
 ·intro rec i r;simp only[Q130.s0];rw[bt (by omega:(i:Int)<(FK (aa.others n):Int)),af r,ar i (by omega)];rfl
 ·intro rec;simp only[Q130.s0,aS];rfl
theorem sn {l:List ch}{s:Int}:fg l s=[]\/∃ x∈l,x.1=s/\fg l s=x.2:=by
 unfold fg;cases h:l.find? λx=>x.1==s with
 |none=>exact .inl rfl
 |some x=>exact .inr ⟨x,Gj h,by simpa using G9 h,rfl⟩
def bD {α:Type}(k:α->Int)(x:α)(xs:List α):List α:=xs.filter (λy=>decide (k y<k x))++x::xs.filter (λy=>decide (k x<k y))
theorem so {α:Type}{k:α->Int}{xs:List α}{v:Int}{m:Nat}(J:m<=xs.length)(I:∀ i,(z:i<xs.length)->i<m->k xs[i]<v)(z:∀ i,(h:i<xs.length)->m<=i->v<=k xs[i]):xs.filter (λy=>decide (k y<v))=xs.take m:=by
 conv=>lhs;rw[<- HC m xs]
 rw[GZ];have r:(xs.take m).filter (λy=>decide (k y<v))=xs.take m:=by
  rw[GI];intro y u;obtain⟨i,r,rfl⟩:=FR u;rw[GE]at r;rw[Gl];exact decide_eq_true (I i (by omega) (by omega))
 have H:(xs.drop m).filter (λy=>decide (k y<v))=[]:=by
  rw[Ga];intro y u;obtain⟨i,r,rfl⟩:=FR u;rw[GX]at r;rw[HK];have:=z (m+i) (by omega) (by omega);simp only[decide_eq_true_eq];omega
 rw[r,H,FU]
theorem sq {α:Type}{k:α->Int}{xs:List α}{v:Int}{m:Nat}(J:m<=xs.length)(I:∀ i,(z:i<xs.length)->i<m->k xs[i]<=v)(z:∀ i,(h:i<xs.length)->m<=i->v<k xs[i]):xs.filter (λy=>decide (v<k y))=xs.drop m:=by
 conv=>lhs;rw[<- HC m xs]
 rw[GZ];have r:(xs.take m).filter (λy=>decide (v<k y))=[]:=by
  rw[Ga];intro y u;obtain⟨i,r,rfl⟩:=FR u;rw[GE]at r;rw[Gl];have:=I i (by omega) (by omega);simp only[decide_eq_true_eq];omega
 have H:(xs.drop m).filter (λy=>decide (v<k y))=xs.drop m:=by
  rw[GI];intro y u;obtain⟨i,r,rfl⟩:=FR u;rw[GX]at r;rw[HK];exact decide_eq_true (z (m+i) (by omega) (by omega))
 rw[r,H,FZ]
theorem gY {α:Type}{k:α->Int}{xs:List α}{x:α}{m:Nat}(h:Asc k xs)(H:m<xs.length)(e:k xs[m]=k x):xs.set m x=bD k x xs:=by
 have J:=ct.1 h;have M:∀ i,(r:i<xs.length)->i<m->k xs[i]<k x:=λi r z=>by rw[<- e];exact J i m r H z
 have I:∀ i,(r:i<xs.length)->m<i->k x<k xs[i]:=λi r z=>by rw[<- e];exact J m i H r z
 rw[bD,so (m:=m) (by omega) M (λi r u=>by
   rcases GM u with y|y
   ·exact G6 (I i r y)
   ·subst y;omega),
  sq (m:=m+1) (by omega) (λi r u=>by
   rcases GM (Nat.le_of_lt_succ u) with y|y
   ·exact G6 (M i r y)
   ·subst y;omega) (λi r u=>I i r u),
  List.set_eq_take_append_cons_drop,if_pos H]
theorem gu {α:Type}{k:α->Int}{xs:List α}{x:α}{m:Nat}(z:m<=xs.length)(H:∀ i,(y:i<xs.length)->i<m->k xs[i]<k x)(y:∀ i,(h:i<xs.length)->m<=i->k x<k xs[i]):xs.take m++[x]++xs.drop m=bD k x xs:=by
 rw[bD,so z H (λi r u=>G6 (y i r u)),sq z (λi r u=>G6 (H i r u)) y,GG];rfl
theorem bd {α:Type}{k:α->Int}{xs:List α}{x y:α}:y∈bD k x xs<->y=x\/(y∈xs/\k y≠k x):=by
 simp only[bD,GP,GK,FQ,decide_eq_true_eq];constructor
 ·rintro (⟨r,u⟩|rfl|⟨r,u⟩)
  ·exact .inr ⟨r,by omega⟩
  ·exact .inl rfl
  ·exact .inr ⟨r,by omega⟩
 ·rintro (rfl|⟨r,u⟩)
  ·exact .inr (.inl rfl)
  ·rcases Int.lt_or_gt_of_ne u with z|z
   ·exact .inl ⟨r,z⟩
   ·exact .inr (.inr ⟨r,z⟩)
theorem fI {α:Type}{k:α->Int}{xs:List α}{x:α}(h:Asc k xs):Asc k (bD k x xs):=by
 unfold Asc bD;rw[GR,F3];refine⟨h.filter _,⟨λy r=>?_,h.filter _⟩,λy r z u=>?_⟩
 ·simpa using (FQ.1 r).2
 ·have H:k y<k x:=by simpa using (FQ.1 r).2
  rcases GK.1 u with rfl|u
  ·exact H
  ·have I:k x<k z:=by simpa using (FQ.1 u).2
   omega
theorem z9 {α:Type}{k:α->Int}{xs:List α}{x:α}:(bD k x xs).length<=xs.length+1:=by
 have:∀ l:List α,(l.filter (λy=>decide (k y<k x))).length+(l.filter (λy=>decide (k x<k y))).length<=l.length:=by
  intro l;induction l with
  |nil=>simp
  |cons y l u =>
   simp only[GA,FP];by_cases r:k y<k x
   ·rw[if_pos (decide_eq_true r),if_neg (by simp;omega)];simp only[FP];omega
   ·rw[if_neg (by simpa using r)];split <;> (try simp only[FP]) <;> omega
 have:=this xs;simp only[bD,F0,FP];omega
theorem mR {α:Type}{k:α->Int}{xs:List α}(h:Asc k xs){i:Nat}(u:i<xs.length){v:Int}(e:k xs[i]=v):xs.find? (λy=>k y==v)=some xs[i]:=by
 cases r:xs.find? (λy=>k y==v) with
 |none =>
  have:=HH.1 r xs[i] (FL u);simp[e]at this
 |some y =>
  have z:k y=v:=by simpa using G9 r
  obtain⟨j,H,rfl⟩:=FR (Gj r);have:=pW h H u (by rw[z,e]);subst this;rfl
theorem mo {α:Type}{k:α->Int}{xs:List α}{v:Int}(h:∀ y∈xs,k y≠v):xs.find? (λy=>k y==v)=none:=by
 rw[HH];intro y r;simpa using h y r
def kH {α:Type}(k:α->Int)(x:α):Bool->List α->List α
 |d,[]=>bif d then [] else [x]
 |d,y::r=>(bif !d&&decide (k x<=k y) then [x] else [])++((bif k y != k x then [y] else [])++kH k x (d||decide (k x<=k y)) r)
theorem qH {α:Type}{k:α->Int}{x:α}:∀ {r:List α},(∀ y∈r,k x<k y)->kH k x true r=r
 |[],_=>rfl
 |y::r,h=>by
  have H:=h y (by simp);simp only[kH,FS,Gf,cond_false,G7,FZ];rw[qH (λz u=>h z (by simp[u])),show (k y != k x)=true by simp;omega];rfl
theorem lN {α:Type}{k:α->Int}{x:α}:∀ {xs:List α},Asc k xs->kH k x false xs=bD k x xs
 |[],_=>rfl
 |y::u,h=>by
  have R:Asc k u:=(F3.1 h).2;have H:∀ z∈u,k y<k z:=(F3.1 h).1;simp only[kH,F9,GU,Gu];by_cases J:k x<=k y
  ·rw[decide_eq_true J,qH (λz r=>by have:=H z r;omega)];simp only[cond_true,bD,GA];have M:u.filter (λz=>decide (k z<k x))=[]:=by
    rw[Ga];intro z r;have:=H z r;simp;omega
   have O:u.filter (λz=>decide (k x<k z))=u:=by
    rw[GI];intro z r;have:=H z r;simp;omega
   rw[M,O,if_neg (by simp;omega)];by_cases I:k y=k x
   ·rw[if_neg (by simp;omega),show (k y != k x)=false by simpa using I];rfl
   ·rw[if_pos (by simp;omega),show (k y != k x)=true by simpa using I];rfl
  ·rw[decide_eq_false J,lN R,show (k y != k x)=true by simp;omega];simp only[cond_false,cond_true,bD,GA,FZ];rw[if_pos (by simp;omega),if_neg (by simp;omega)];rfl
theorem ua {α A R:Type}(k:α->Int)(x:α)(t:List α)(q:α->Bool)(Y:Option R)(u:List α->Option R)(S:List α->Bool->Nat->A){step:(A->Option R)->A->Option R}
  (h:∀ (rec:A->Option R) (r:List α) (d:Bool) (i:Nat) (X:i<t.length),r.length<=i+1->(d=false->r.length<=i)->step rec (S r d i)=bif q t[i] then Y else rec (S ((r++(bif !d&&decide (k x<=k t[i]) then [x] else []))++(bif k t[i] != k x then [t[i]] else [])) (d||decide (k x<=k t[i])) (i+1)))
  (H:∀ (rec:A->Option R) (r:List α) (d:Bool),r.length<=t.length+1->(d=false->r.length<=t.length)->step rec (S r d t.length)=u (r++(bif d then [] else [x]))) :
  ∀ (n i K:Nat) (r:List α) (d:Bool),i+n=t.length->n<K->r.length<=i+1->(d=false->r.length<=i)->ae step K (S r d i)=bif (t.drop i).any q then Y else u (r++kH k x d (t.drop i)):=by
 intro n;induction n with
 |zero =>
  intro i K r d X Z J y;obtain⟨K,rfl⟩:∃ M,K=M+1:=⟨K-1,by omega⟩;have:i=t.length:=by omega
  subst this;show step (ae step K) _=_;rw[H _ _ _ J y,G4];rfl
 |succ n ih =>
  intro i K r d X Z J y;obtain⟨K,rfl⟩:∃ M,K=M+1:=⟨K-1,by omega⟩;have I:i<t.length:=by omega
  show step (ae step K) _=_;rw[h _ _ _ _ I J y,F6 I,List.any_cons];cases hq:q t[i] with
  |true=>rfl
  |false =>
   simp only[cond_false,Gu,kH];rw[ih (i+1) K _ _ (by omega) (by omega) ?_ ?_]
   ·simp only[GG]
   ·cases d with
    |true =>
     simp only[FS,Gf,cond_false,FU];cases k t[i] != k x <;> simp <;> omega
    |false =>
     have:=y rfl;cases O:decide (k x<=k t[i]) <;> cases k t[i] != k x <;> simp <;> omega
   ·intro z;rw[Bool.or_eq_false_iff]at z;obtain⟨rfl,O⟩:=z;have:=y rfl;rw[O];cases k t[i] != k x <;> simp <;> omega
theorem pm (K:Nat)(n:aa)(y:NB n)(u:1048577<K):∃ b,Q113.f K (n,())=rb b/\Q50.f K (n,())=rb b/\(b=true<->ff n):=by
 obtain⟨b,H,r⟩:=p7 K n y u;obtain⟨z,I,J⟩:=p8 K n y u;have:b=z:=by rw[GQ,r,J]
 subst this;exact⟨b,H,I,r⟩
theorem ff.up {n:aa}(h:ff n)(r:n.2.1=true):UpP n:=by
 have:=h.2.2.2.2.2
 rwa [if_pos r]at this
abbrev aj:=Int×Int×Int×Int×Int×Int×cW×List ah
abbrev aj.table (w:aj):List ah:=w.2.2.2.2.2.2.2
abbrev aj.coord (w:aj):cW:=w.2.2.2.2.2.2.1
def mS:List ah->Prop
 |[]=>False
 |f::l=>cn (f::l) (ak f.1)
def dz (w:aj):Prop:=InP w.1 1 2/\InP w.2.1 1 6/\InP w.2.2.1 0 7/\InP w.2.2.2.1 0 7/\InP w.2.2.2.2.1 0 999999/\InP w.2.2.2.2.2.1 0 7/\bX (aj.coord w)/\aE (aj.table w) /\
 (if w.2.1=6 then mS (aj.table w) else cn (aj.table w) (ak w.2.2.1))
theorem mT (K:Nat)(w:aj)(u:(aj.table w).length<=1048576)(r:1048577<K):Ret (Q159.f K (w,())) (dz w):=by
 refine Ret.nx (cK K _ _ _) λ_=>Ret.nx (cK K _ _ _) λ_=>Ret.nx (cK K _ _ _) λ_=>Ret.nx (cK K _ _ _) λ_=>Ret.nx (cK K _ _ _) λ_=>Ret.nx (cK K _ _ _) λ_=>Ret.nx (fu K _) λ_=>Ret.nx (gW K _ u r) λ_=>?_
 dsimp only;by_cases h:w.2.1=6
 ·rw[show (w.2.1==6)=true by simpa using h,if_pos h];obtain⟨w1,w2,w3,w4,w5,y,z,t⟩:=w;cases t with
  |nil=>exact Ret.no (λh=>h)
  |cons f l =>
   rw[show decide ((FK (f::l):Int)>0)=true from decide_eq_true (by simp only[FP];omega)];simp only[cond_true];exact Ret.vl (af (xs:=f::l) (i:=0) (by simp)) (eo K _ _ u r).id
 ·rw[show (w.2.1==6)=false by simpa using h,if_neg h];exact (eo K _ _ u r).id
theorem ub (K:Nat)(w:aj)(u:(aj.table w).length<=1048576)(r:1048577<K):Ret (Q51.f K (w,())) (dz w):=by
 refine Ret.iff (Q:=dz w) (Ret.nx (eY K _ _ _) λ_=>Ret.nx (eY K _ _ _) λ_=>Ret.nx (jM K _) λ_=>Ret.nx (jM K _) λ_=>Ret.nx (jM K _) λ_=>Ret.nx (eY K _ _ _) λ_=>Ret.nx (ji K _) λ_=>Ret.nx (gX K _ u r)
  (Q:=if w.2.1=6 then mS (aj.table w) else cn (aj.table w) (ak w.2.2.1)) λ_=>?_) ?_
 ·dsimp only;by_cases h:w.2.1=6
  ·rw[show (w.2.1==6)=true by simpa using h,if_pos h];obtain⟨w1,w2,w3,w4,w5,y,z,t⟩:=w;cases t with
   |nil=>exact Ret.no (λh=>h)
   |cons f l =>
    rw[show decide ((FK (f::l):Int)>0)=true from decide_eq_true (by simp only[FP];omega)];simp only[cond_true];exact Ret.vl (af (xs:=f::l) (i:=0) (by simp)) (Ret.vl (ml K _) (gq K _ _ u r).id)
  ·rw[show (w.2.1==6)=false by simpa using h,if_neg h];simp only[cond_false];exact Ret.vl (ml K _) (gq K _ _ u r).id
 ·unfold dz;constructor
  ·rintro⟨h1,h2,h3,h4,h5,h6,h7,h8,h9⟩;exact⟨h1,h2,h3,h4,h6,h5,h7,h8,h9⟩
  ·rintro⟨h1,h2,h3,h4,h6,h5,h7,h8,h9⟩;exact⟨h1,h2,h3,h4,h5,h6,h7,h8,h9⟩
theorem jk {α A R:Type}(xs:List α)(S:List α->Nat->A)(r:Option R){step:(A->Option R)->A->Option R}
  (h:∀ (rec:A->Option R) (u:List α) (i:Nat) (z:i<xs.length),u.length=i->step rec (S u i)=rec (S (u++[xs[i]]) (i+1))) (y:∀ rec:A->Option R,step rec (S xs xs.length)=r) {k:Nat} (H:xs.length<k):ae step k (S [] 0)=r:=by
 refine fV (step:=step) xs.length (λi=>S (xs.take i) i) r ?_ ?_ H
 ·intro rec i z;show step rec (S (xs.take i) i)=rec (S (xs.take (i+1)) (i+1));rw[h rec (xs.take i) i z (by simp;omega),GS z]
 ·intro rec;show step rec (S (xs.take xs.length) xs.length)=r;rw[Gi];exact y rec
theorem szb (a b c:Nat)(r:c<=64)(h:a+b<=2097152):decide ((a+b)*c<=am)=true:=by
 have:=GN h r;exact decide_eq_true (by unfold am;omega)
theorem nS (K:Nat)(n:aa)(y:NB n)(R:1048577<K):Q144.f K (n,())=some ((n,()),()):=by
 have H:=y.table;have I:=y.cast;have J:=y.doubts;have M:=y.places;have O:=y.others;simp only[Q144.f,Q144.pre];rw[szb _ _ _ (by omega) (by show (FK ([]:List ah))+(aa.table n).length<=_;simp;omega),szb _ _ _ (by omega) (by show (FK ([]:List aO))+(aa.cast n).length<=_;simp;omega)];simp only[cond_true];refine jk (aa.doubts n) (step:=λrec a=>Q144.s0 K (n,()) (Q144.l1 K (n,())) rec a) (λr i=>((i:Int),r)) _ ?_ ?_ (by omega)
 ·intro rec r i u z;have:=y.by_ _ (FL u);simp only[Q144.s0];rw[bt (by omega:(i:Int)<(FK (aa.doubts n):Int)),af u,ar i (by omega)];simp only[cond_true,FJ];rw[szb _ _ _ (by omega) (by simp;omega),szb _ _ _ (by omega) (by simp;omega)];rfl
 ·intro rec;simp only[Q144.s0,aS,cond_false];refine jk (aa.places n) (step:=λrec a=>Q144.s1 K (n,()) (Q144.l2 K (n,())) rec a) (λr i=>((i:Int),aa.doubts n,r)) _ ?_ ?_ (by omega)
  ·intro rec r i u z;have:=y.trips _ (FL u);simp only[Q144.s1];rw[bt (by omega:(i:Int)<(FK (aa.places n):Int)),af u,ar i (by omega)];simp only[cond_true,FJ];rw[szb _ _ _ (by omega) (by simp;omega),szb _ _ _ (by omega) (by simp;omega)];rfl
  ·intro rec;simp only[Q144.s1,aS,cond_false];refine jk (aa.others n) (step:=λrec a=>Q144.s2 K (n,()) rec a) (λr i=>((i:Int),aa.doubts n,aa.places n,r)) _ ?_ ?_ (by omega)
   ·intro rec r i u z;have:=y.facts _ (FL u);simp only[Q144.s2,zcp8];rw[bt (by omega:(i:Int)<(FK (aa.others n):Int)),af u,ar i (by omega)];simp only[cond_true,FJ];rw[szb _ _ _ (by omega) (by simp;omega),szb _ _ _ (by omega) (by simp;omega)];rfl
   ·intro rec;simp only[Q144.s2,zcp8,aS,cond_false];rfl
theorem Aa (K:Nat)(n:aa)(y:NB n)(R:1048577<K):Q88.f K (n,())=some ((n,()),()):=by
 have H:=y.table;have I:=y.cast;have J:=y.doubts;have M:=y.places;have O:=y.others;simp only[Q88.f,Q88.pre];refine jk (aa.doubts n) (step:=λrec a=>Q88.s0 K (n,()) (Q88.l1 K (n,())) rec a) (λr i=>(r,(i:Int))) _ ?_ ?_ (by omega)
 ·intro rec r i u z;have:=y.by_ _ (FL u);simp only[Q88.s0,Q7.f];rw[bt (by omega:(i:Int)<(FK (aa.doubts n):Int)),af u,ar i (by omega)];simp only[cond_true,FJ];rw[dR (by omega)];simp only[FJ];rw[szb _ _ _ (by omega) (by simp;omega)];rfl
 ·intro rec;simp only[Q88.s0,aS,cond_false];refine jk (aa.places n) (step:=λrec a=>Q88.s1 K (n,()) (Q88.l2 K (n,())) rec a) (λr i=>(aa.doubts n,r,(i:Int))) _ ?_ ?_ (by omega)
  ·intro rec r i u z;have:=y.trips _ (FL u);simp only[Q88.s1,Q7.f];rw[bt (by omega:(i:Int)<(FK (aa.places n):Int)),af u,ar i (by omega)];simp only[cond_true,FJ];rw[dR (by omega)];simp only[FJ];rw[szb _ _ _ (by omega) (by simp;omega)];rfl
  ·intro rec;simp only[Q88.s1,aS,cond_false];refine jk (aa.others n) (step:=λrec a=>Q88.s2 K (n,()) rec a) (λr i=>(aa.doubts n,aa.places n,r,(i:Int))) _ ?_ ?_ (by omega)
   ·intro rec r i u z;have:=y.facts _ (FL u);simp only[Q88.s2,zcp8,Q0.f];rw[bt (by omega:(i:Int)<(FK (aa.others n):Int)),af u,ar i (by omega)];simp only[cond_true,FJ];rw[dR (by omega)];simp only[FJ];rw[szb _ _ _ (by omega) (by simp;omega)];rfl
   ·intro rec;simp only[Q88.s2,zcp8,aS,cond_false,Q0.f,Q2.f];rw[dR (by show (aa.table n).length*_<=_;omega),dR (by show (aa.cast n).length*_<=_;omega)];rfl
instance (f g:ah):Decidable (bP f g):=by unfold bP;infer_instance
theorem qI (K:Nat)(f g:ah):Q106.f K (f,g,())=rb (decide (bP f g)):=by
 obtain⟨b,r,u⟩:=tZ K f g;rw[r,show b=decide (bP f g) by rw[GQ,u];simp]
def bZ (t:List ah)(f:ah):List ah×Bool :=
 match t.find? (λg=>g.1==f.1) with
 |some g=>if bP f g then (bD (λg=>g.1) f t,true) else (t,false)
 |none=>(bD (λg=>g.1) f t,true)
theorem k7 {t:List ah}{f:ah}(r:Asc (λg:ah=>g.1) t){i:Nat}(u:i<t.length)(e:t[i].1=f.1):bZ t f=if bP f t[i] then (bD (λg=>g.1) f t,true) else (t,false):=by
 unfold bZ;rw[show t.find? (λg=>g.1==f.1)=some t[i] from mR r u e]
theorem iU {t:List ah}{f:ah}(h:∀ g∈t,g.1≠f.1):bZ t f=(bD (λg=>g.1) f t,true):=by
 unfold bZ;rw[show t.find? (λg=>g.1==f.1)=none from mo h]
theorem jl {e:Ty}{b:Nat}{xs:List e.den}{m:Nat}{v:e.den}(u:m<=xs.length)(r:b<=64)(y:xs.length<=1048576):fQ e b xs (m:Int) [v]=some ((xs.take m++[v]++xs.drop m,()),()):=by
 unfold fQ;have:(xs.length+[v].length)*b<=140737488355328:=F1 (GN (show xs.length+[v].length<=1048577 by simp;omega) r) (by decide);rw[if_pos ⟨by omega,by omega,by simp,by simpa only[am]using this⟩,FN]
theorem sr {e:Ty}{xs:List e.den}{u:e.den×Unit->Option Bool}(p:e.den->Bool)(z:xs.length<=1048576)(h:∀ x∈xs,u (x,())=some (p x)):ir e xs u=some ((xs.filter (λx=>!p x),()),()):=by
 have:∀ r:List e.den,(∀ x∈r,u (x,())=some (p x))->mK u r=some (r.filter (λx=>!p x)):=by
  intro r;induction r with
  |nil=>intro _;rfl
  |cons y r H =>
   intro h;simp only[mK,h y (by simp),FJ,H (λx z=>h x (by simp[z])),HS,GA];cases p y <;> rfl
 unfold ir;rw[if_pos z,this xs h];rfl
theorem put_s (K:Nat)(t:List ah)(f:ah)(ht:t.length<=1048576)(R:Asc (λg:ah=>g.1) t)(hK:1048577<K):Q162.f K (t,f,())=some (((bZ t f).1,(bZ t f).2,()),()):=by
 simp only[Q162.f,Q162.pre];obtain⟨o,H,M⟩:=fT K t f.1 ht hK;rw[M];simp only[FJ];cases H with
 |at_ i r e =>
  simp only;rw[k7 R r e,decide_eq_true (by omega:((i:Nat):Int)>=0),af r];simp only[cond_true,FJ];rw[show Q106.f K (f,t[i],())=_ from qI K f t[i]];simp only[FJ];by_cases H:bP f t[i]
  ·rw[decide_eq_true H,if_pos H];simp only[FS,cond_false];rw[szb _ _ _ (by omega) (by show (FK ([]:List ah))+t.length<=_;simp;omega)];simp only[cond_true,FZ,af r,FJ,FN];rw[gY (k:=λg:ah=>g.1) R r e]
  ·rw[decide_eq_false H,if_neg H];rfl
 |no h =>
  simp only;rw[iU h,decide_eq_false (by omega:¬ (-1:Int)>=0)];simp only[cond_false];have J:∀ m:Nat,m<=t.length->(bif decide ((0:Int)<=0)&&decide ((0:Int)<=(m:Int))&&decide ((m:Int)<=(FK t:Int))&&true then (bif decide ((FK ([]:List ah)+FK ((t.take (FM (m:Int))).drop (FM 0)))*32<=am) then (bif decide ((FK ([]++((t.take (FM (m:Int))).drop (FM 0)))+FK ([f]))*32<=am) then (bif decide ((0:Int)<=(m:Int))&&decide ((m:Int)<=(FK t:Int))&&decide ((FK t:Int)<=(FK t:Int))&&true then (bif decide ((FK (([]++((t.take (FM (m:Int))).drop (FM 0)))++([f]))+FK ((t.take (FM (FK t:Int))).drop (FM (m:Int))))*32<=am) then (some (((([]++((t.take (FM (m:Int))).drop (FM 0)))++([f]))++((t.take (FM (FK t:Int))).drop (FM (m:Int))),true,()),())) else none) else none) else none) else none) else (none:Option ((List ah×Bool×Unit)×Unit)))=some ((t.take m++[f]++t.drop m,true,()),()):=by
   intro m X;rw[decide_eq_true (by omega:(0:Int)<=0),decide_eq_true (by omega:(0:Int)<=(m:Int)),decide_eq_true (by omega:(m:Int)<=(FK t:Int)),decide_eq_true (by omega:(FK t:Int)<=(FK t:Int))];simp only[FN,Gx,GB,FZ,Gi,Gb,cond_true];have M:(t.take m).length=m:=by rw[GE];omega
   have z:(t.drop m).length=t.length-m:=GX;rw[szb _ _ _ (by omega) (by simp only[FT];omega),szb _ _ _ (by omega) (by simp only[FP,FT];omega),szb _ _ _ (by omega) (by simp only[F0,FP,FT];omega)];rfl
  have:=cG (step:=λrec a=>Q162.s0 K (t,f,()) rec a) t.length (λi=>(i:Int)) (λj=>∃ h:j<t.length,¬ t[j].1<f.1) (some ((t.take t.length++[f]++t.drop t.length,true,()),())) (λj=>some ((t.take j++[f]++t.drop j,true,()),())) ?_ ?_ t.length K 0 (by omega) (by omega)
  ·have I:∀ m,m<=t.length->(∀ i,(r:i<t.length)->i<m->t[i].1<f.1)->(∀ i,(r:i<t.length)->m<=i->f.1<t[i].1)->t.take m++[f]++t.drop m=bD (λg=>g.1) f t:=λm X lo r=>gu (k:=λg:ah=>g.1) X lo r
   rcases this with ⟨M,z⟩|⟨j,_,M,⟨Y,h4⟩,Z,z⟩
   ·rw[I t.length (FX _) (λi r _=>by
     have:=M i (FY _) r;exact Gm.1 λh=>this ⟨r,h⟩) (λi r h=>by omega)]at z
    exact z
   ·rw[I j (by omega) (λi r y=>by
     have:=Z i (FY _) y;exact Gm.1 λh=>this ⟨r,h⟩) (λi r y=>by
     have a0:=h t[i] (FL r);rcases GM y with O|O
     ·have:=ct.1 R j i Y r O;omega
     ·subst O;omega)]at z
    exact z
  ·intro rec i r;simp only[Q162.s0];rw[bt (by omega:(i:Int)<(FK t:Int)),af r,ar i (by omega)];simp only[cond_true,FJ];by_cases u:t[i].1<f.1
   ·exact .inl ⟨λ⟨_,h⟩=>h u,by rw[decide_eq_true u];rfl⟩
   ·exact .inr ⟨⟨r,u⟩,by rw[decide_eq_false u];exact J i (by omega)⟩
  ·intro rec;simp only[Q162.s0,aS,cond_false];exact J t.length (FX _)
theorem wZ (K:Nat)(t:List ah)(f:ah)(X:t.length<=1048576)(z:Asc (λg:ah=>g.1) t)(R:1048577<K):Q54.f K (t,f,())=some (((bZ t f).1,(bZ t f).2,()),()):=by
 simp only[Q54.f,Q0.f,Q1.f];rw[dR (by omega)];simp only[FJ];obtain⟨m,u,Y⟩:=tY K t f.1 X z R;rw[Y];simp only[FJ];by_cases M:∃ h:m<t.length,t[m].1=f.1
 ·obtain⟨I,y⟩:=M;rw[decide_eq_true ⟨I,y⟩,k7 z I y];simp only[FS,cond_false,af I,FJ,FN];rw[nP K f t[m] R];simp only[FJ];by_cases O:bP f t[m]
  ·rw[decide_eq_true ((kh y.symm).2 O),if_pos O,gY (k:=λg:ah=>g.1) z I y];rfl
  ·rw[decide_eq_false (λh=>O ((kh y.symm).1 h)),if_neg O];rfl
 ·rw[decide_eq_false M,iU (λg hg e=>by
   obtain⟨i,r,rfl⟩:=FR hg;rcases Ge i m with h|h|h
   ·have:=u.lo i r h;omega
   ·subst h;exact M ⟨r,e⟩
   ·have Z:=u.hi m (by omega) (FX _);have J:=ct.1 z m i (by omega) r h;omega)]
  simp only[F9,cond_true];rw[jl u.le (by omega) X];simp only[FJ];rw[gu (k:=λg:ah=>g.1) u.le u.lo (λi r H=>by
   have:=u.hi i r H;rcases GM H with J|J
   ·have Z:=u.hi m (by omega) (FX _);have h7:=ct.1 z m i (by omega) r J;omega
   ·subst J;have:t[m].1≠f.1:=λe=>M ⟨r,e⟩
    omega)]
def dF (l:List aO)(f:ah):List aO:=if ∃ x∈l,x.1.1=f.1/\¬ bP f x.1 then l else bD (λx=>x.1.1) (f,4) l
theorem vB {l:List aO}{f:ah}:dF l f=bif l.any (λx=>x.1.1==f.1&&!decide (bP f x.1)) then l else bD (λx=>x.1.1) (f,4) l:=by
 unfold dF;have:(∃ x∈l,x.1.1=f.1/\¬ bP f x.1)<->l.any (λx=>x.1.1==f.1&&!decide (bP f x.1))=true:=by
  rw[List.any_eq_true];simp
 by_cases h:∃ x∈l,x.1.1=f.1/\¬ bP f x.1
 ·rw[if_pos h,this.1 h];rfl
 ·rw[if_neg h,show l.any (λx=>x.1.1==f.1&&!decide (bP f x.1))=false by rw[Bool.eq_false_iff];exact λr=>h (this.2 r)];rfl
theorem Bx (K:Nat)(l:List aO)(f:ah)(Y:l.length<=1048576)(I:Asc (λx:aO=>x.1.1) l)(X:1048577<K):Q163.f K (l,f,())=some ((dF l f,()),()):=by
 have:=ua (step:=λrec a=>Q163.s0 K (l,f,()) rec a) (λx:aO=>x.1.1) (f,4) l (λx=>x.1.1==f.1&&!decide (bP f x.1)) (some ((l,()),())) (λO=>some ((O,()),())) (λr d i=>(r,d,(i:Int))) ?_ ?_ l.length 0 K [] false (by omega) (by omega) (by simp) (by simp)
 ·refine Gy (this:Q163.f K (l,f,())=_) ?_;rw[GB,vB,lN I];cases l.any (λx=>x.1.1==f.1&&!decide (bP f x.1)) <;> rfl
 ·intro rec r d i M J z;simp only[Q163.s0];rw[bt (by omega:(i:Int)<(FK l:Int)),af M,ar i (by omega)];simp only[cond_true,FJ];have y:decide ((r.length+[((f,4):ah×Nat)].length)*40<=am)=true:=szb _ _ _ (by omega) (by simp;omega);have R:decide (((r++[((f,4):aO)]).length+[l[i]].length)*40<=am)=true:=szb _ _ _ (by omega) (by simp;omega);have H:decide ((r.length+[l[i]].length)*40<=am)=true:=szb _ _ _ (by omega) (by simp;omega);by_cases u:l[i].1.1=f.1
  ·rw[show (l[i].1.1==f.1)=true by simpa using u,show (l[i].1.1 != f.1)=false by simpa using u,show decide (f.1<=l[i].1.1)=true from decide_eq_true (by omega)];simp only[cond_true,cond_false,GU,Bool.and_true,HV,FU];rw[show Q106.f K (f,l[i].1,())=_ from qI K f l[i].1];simp only[FJ];cases decide (bP f l[i].1) with
   |false=>rfl
   |true =>
    simp only[FS,cond_false];cases d with
    |true=>simp only[FS,cond_false,FU]
    |false =>
     simp only[F9,cond_true];rw[y];rfl
  ·rw[show (l[i].1.1==f.1)=false by simpa using u,show (l[i].1.1 != f.1)=true by simpa using u];simp only[cond_true,cond_false,Gf];cases d with
   |true =>
    simp only[FS,cond_false,Gf,FU,G7];rw[H];rfl
   |false =>
    simp only[F9,cond_true,GU,Gu];cases decide (f.1<=l[i].1.1) with
    |true =>
     simp only[cond_true];rw[y];simp only[cond_true];rw[R];rfl
    |false =>
     simp only[cond_false,FU];rw[H];rfl
 ·intro rec r d J z;simp only[Q163.s0,aS];cases d with
  |true=>simp only[FS,cond_false,cond_true,FU]
  |false =>
   have:=z rfl;have y:decide ((r.length+[((f,4):ah×Nat)].length)*40<=am)=true:=szb _ _ _ (by omega) (by simp;omega);simp only[F9,cond_true,cond_false];rw[y];rfl
theorem yw (K:Nat)(l:List aO)(f:ah)(Z:l.length<=1048576)(O:da l)(hf:bw f)(Y:1048577<K):Q55.f K (l,f,())=some ((dF l f,()),()):=by
 simp only[Q55.f,Q2.f,Q3.f];obtain⟨b1,e1,e2⟩:=pZ K l Z Y;have a0:=e2.2 O;subst a0;obtain⟨b2,e3,e4⟩:=mQ K f;have a1:=e4.2 hf;subst a1;rw[e1];simp only[FJ,FS,cond_false];rw[e3];simp only[FJ,FS,cond_false];rw[dR (by omega)];simp only[FJ];rw[wg K l Z Y];simp only[FJ];have hA:Asc (λg:ah=>g.1) (l.map (·.1)):=by
  have:=O.2;unfold Asc at this ⊢;rw[F7];exact this
 have r:(l.map (·.1)).length=l.length:=FW _;obtain⟨m,hm,h1⟩:=tY K (l.map (·.1)) f.1 (by rw[r];exact Z) hA Y;rw[h1];simp only[FJ];have y:∀ i (h:i<l.length),(l.map (·.1))[i]'(by rw[r];exact h)=l[i].1:=λi h=>HL _
 have J:=hm.le;rw[r]at J;have lo:∀ i,(u:i<l.length)->i<m->l[i].1.1<f.1:=λi u I=>by have:=hm.lo i (by rw[r];exact u) I;rwa [y i u]at this
 have R:∀ i,(u:i<l.length)->m<=i->f.1<=l[i].1.1:=λi u I=>by have:=hm.hi i (by rw[r];exact u) I;rwa [y i u]at this
 by_cases he:∃ h:m<l.length,l[m].1.1=f.1
 ·obtain⟨z,H⟩:=he;rw[decide_eq_true ⟨by rw[r];exact z,by rw[y m z];exact H⟩];simp only[FS,cond_false,af z,FJ,FN];rw[show Q36.f K (f,l[m].1,())=_ from nP K f l[m].1 Y];simp only[FJ];have a3:∀ x∈l,x.1.1=f.1->x=l[m]:=λx M e=>by
   obtain⟨i,u,rfl⟩:=FR M;have:=pW O.2 u z (by show l[i].1.1=l[m].1.1;rw[e,H]);subst this;rfl
  by_cases ho:bP f l[m].1
  ·rw[decide_eq_true ((kh H.symm).2 ho),dF,if_neg (λ⟨x,M,e,hn⟩=>hn (by rw[a3 x M e];exact ho)),gY (k:=λx:aO=>x.1.1) (x:=(f,4)) O.2 z H];rfl
  ·rw[decide_eq_false (λh=>ho ((kh H.symm).1 h)),dF,if_pos ⟨l[m],FL z,H,ho⟩];rfl
 ·have X:∀ x∈l,x.1.1≠f.1:=λx M e=>by
   obtain⟨i,u,rfl⟩:=FR M;rcases Ge i m with h|h|h
   ·have:=lo i u h;omega
   ·subst h;exact he ⟨u,e⟩
   ·have h5:=R m (by omega) (FX _);have h6:l[m].1.1<l[i].1.1:=ct.1 O.2 m i (by omega) u h;omega
  rw[decide_eq_false (λ⟨z,H⟩=>he ⟨by rw[r]at z;exact z,by rw[y m (by rw[r]at z;exact z)]at H;exact H⟩),dF,if_neg (λ⟨x,M,e,_⟩=>X x M e)];simp only[F9,cond_true];rw[jl J (by omega) Z];simp only[FJ];rw[gu (k:=λx:aO=>x.1.1) (x:=(f,4)) J lo (λi u a2=>by
   have h1:=R i u a2;have z:=X l[i] (FL u);show f.1<l[i].1.1;omega)]
theorem pn {α:Type}{k:α->Int}{x:α}:∀ {r:List α},kH k x true r=r.filter (λy=>k y != k x)
 |[]=>rfl
 |y::r=>by
  simp only[kH,FS,Gf,cond_false,G7,FZ,GA];rw[pn];cases k y != k x <;> rfl
theorem vC {α:Type}{k:α->Int}{x:α}{xs:List α}:bD k x (xs.filter λy=>!(k y==k x))=bD k x xs:=by
 simp only[bD,List.filter_filter];congr 1
 ·refine G1 λy _=>?_
  by_cases h:k y<k x
  ·rw[decide_eq_true h];simp;omega
  ·rw[decide_eq_false h];rfl
 ·congr 1;refine G1 λy _=>?_
  by_cases h:k x<k y
  ·rw[decide_eq_true h];simp;omega
  ·rw[decide_eq_false h];rfl
def mkD (r:Int)(f:ah)(b:Int):bV:=(f.1,f.2.1,r,[b])
def cZ (r:Int)(ds:List bV)(f:ah)(b:Int):List bV:=if f.2.2.1=2 then bD (λd=>d.1) (mkD r f b) ds else ds.filter (λd=>!(d.1==f.1))
theorem By (K:Nat)(n:aa)(f:ah)(b:Int)(Y:(aa.doubts n).length<=1048576)(H:Asc (λd:bV=>d.1) (aa.doubts n))(X:1048577<K) :
  Q164.f K (n,f,b,())=some ((cZ n.2.2.2.2.2.1 (aa.doubts n) f b,()),()):=by
 have:=ua (step:=λrec a=>Q164.s0 K (n,f,b,()) rec a) (λd:bV=>d.1) (mkD n.2.2.2.2.2.1 f b) (aa.doubts n) (λ_=>false) none (λM=>some ((M,()),())) (λr d i=>(r,d,(i:Int))) ?_ ?_ (aa.doubts n).length 0 K [] (f.2.2.1 != 2) (by omega) (by omega) (by simp) (by simp)
 ·refine Gy (this:Q164.f K (n,f,b,())=_) ?_;rw[GB,show (aa.doubts n).any (λ_=>false)=false by simp,cZ];by_cases u:f.2.2.1=2
  ·rw[if_pos u,show (f.2.2.1 != 2)=false by simpa using u,lN H];rfl
  ·rw[if_neg u,show (f.2.2.1 != 2)=true by simpa using u,pn];rfl
 ·intro rec r d i J I z;simp only[Q164.s0];rw[bt (by omega:(i:Int)<(FK (aa.doubts n):Int)),af J,ar i (by omega)];simp only[cond_true,cond_false,FJ];have y:decide ((r.length+[mkD n.2.2.2.2.2.1 f b].length)*48<=am)=true:=szb _ _ _ (by omega) (by simp;omega);have O:decide (((r++[mkD n.2.2.2.2.2.1 f b]).length+[(aa.doubts n)[i]].length)*48<=am)=true:=szb _ _ _ (by omega) (by simp;omega);have R:decide ((r.length+[(aa.doubts n)[i]].length)*48<=am)=true:=szb _ _ _ (by omega) (by simp;omega);show (bif !d then (bif decide (f.1<=(aa.doubts n)[i].1) then (bif decide ((r.length+[mkD n.2.2.2.2.2.1 f b].length)*48<=am) then (bif (aa.doubts n)[i].1 != f.1 then (bif decide (((r++[mkD n.2.2.2.2.2.1 f b]).length+[(aa.doubts n)[i]].length)*48<=am) then (rec ((r++[mkD n.2.2.2.2.2.1 f b])++[(aa.doubts n)[i]],true,((i+1:Nat):Int))) else none) else (rec (r++[mkD n.2.2.2.2.2.1 f b],true,((i+1:Nat):Int)))) else none) else (bif (aa.doubts n)[i].1 != f.1 then (bif decide ((r.length+[(aa.doubts n)[i]].length)*48<=am) then (rec (r++[(aa.doubts n)[i]],d,((i+1:Nat):Int))) else none) else (rec (r,d,((i+1:Nat):Int))))) else (bif (aa.doubts n)[i].1 != f.1 then (bif decide ((r.length+[(aa.doubts n)[i]].length)*48<=am) then (rec (r++[(aa.doubts n)[i]],d,((i+1:Nat):Int))) else none) else (rec (r,d,((i+1:Nat):Int)))))=rec ((r++(bif !d&&decide (f.1<=(aa.doubts n)[i].1) then [mkD n.2.2.2.2.2.1 f b] else []))++(bif (aa.doubts n)[i].1 != f.1 then [(aa.doubts n)[i]] else []),d||decide (f.1<=(aa.doubts n)[i].1),((i+1:Nat):Int));rw[y,O,R];cases d <;> cases decide (f.1<=(aa.doubts n)[i].1) <;> cases (aa.doubts n)[i].1 != f.1 <;> simp only[FS,F9,GU,Gf,G7,Gu,cond_true,cond_false,FU]
 ·intro rec r d I z;simp only[Q164.s0,aS];cases d with
  |true=>simp only[FS,cond_false,cond_true,FU]
  |false =>
   have:=z rfl;have y:decide ((r.length+[mkD n.2.2.2.2.2.1 f b].length)*48<=am)=true:=szb _ _ _ (by omega) (by simp;omega);show (bif decide ((r.length+[mkD n.2.2.2.2.2.1 f b].length)*48<=am) then some ((r++[mkD n.2.2.2.2.2.1 f b],()),()) else none)=some ((r++[mkD n.2.2.2.2.2.1 f b],()),());rw[y];rfl
theorem Bz (K:Nat)(t:List bV)(r:Int)(ht:t.length<=1048576)(H:Asc (λd:bV=>d.1) t)(h7:∀ d∈t,InP d.1 0 7)(X:InP r 0 7)(hK:1048577<K) :
  ∃ m,m<=t.length/\(∀ i,(h:i<t.length)->i<m->t[i].1<r)/\(∀ i,(h:i<t.length)->m<=i->r<=t[i].1)/\∃ b,Q58.f K (t,r,(λJ=>(Q59.f K (J.1,J.2.1,())).map λy=>y.1.1),())=some ((((m:Nat):Int),b,()),()):=by
 let ks:Nat->Int:=λi=>if h:i<t.length then t[i].1 else 0
 have u:∀ i (h:i<t.length),ks i=t[i].1:=λi h=>by simp[ks,h]
 let z:Nat->Option ((Int×Bool×Unit)×Unit):=λm=>some ((((m:Nat):Int),decide (∃ h:m<t.length,t[m].1=r),()),())
 have Y:∀ d∈t,((Q59.f K (d,r,())).map λy=>y.1.1)=some (d.1-r):=λd hd=>by
  obtain⟨a1,a2⟩:=h7 d hd;obtain⟨a3,a4⟩:=X;simp only[Q59.f];rw[aC (by omega) (by omega)];rfl
 have:=nO (step:=λrec a=>Q58.s0 K (t,r,(λJ=>(Q59.f K (J.1,J.2.1,())).map λy=>y.1.1),()) rec a) (ks:=ks) (n:=t.length) (t:=r) z ht
  (λi j M R=>by
   rw[u i (by omega),u j R];exact ct.1 H i j (by omega) R M) ?_ ?_ t.length K 0 t.length (by omega) (FY _) (FX _) (by omega) (λi I=>by omega) (λi I X=>by omega)
 ·obtain⟨m,h1,h2,h3,h4⟩:=this;exact⟨m,h1,λi h I=>by rw[<- u i h];exact h2 i I,λi h I=>by rw[<- u i h];exact h3 i I h,_,h4⟩
 ·intro rec a b a0 hb;have O:(a+b) / 2<t.length:=by omega
  simp only[Q58.s0];rw[decide_eq_true (by omega:(a:Int)<(b:Int)),mj (by omega)];simp only[cond_true];rw[af O];simp only[FJ,Y _ (FL O)];rw[u _ O,ar _ (by omega)];by_cases h:t[(a+b) / 2].1<r
  ·rw[if_pos h,decide_eq_true (by omega:t[(a+b) / 2].1-r<0)];rfl
  ·rw[if_neg h,decide_eq_false (by omega:¬ t[(a+b) / 2].1-r<0)];rfl
 ·intro rec a ha;simp only[Q58.s0];rw[decide_eq_false (by omega)];simp only[cond_false];by_cases h:a<t.length
  ·rw[decide_eq_true (by omega:(a:Int)<(FK t:Int)),af h];simp only[cond_true,FJ,Y _ (FL h)];have:(t[a].1-r==0)=decide (∃ h:a<t.length,t[a].1=r):=by
    rw[GQ];simp only[beq_iff_eq,decide_eq_true_eq];exact⟨λe=>⟨h,by omega⟩,λ⟨_,e⟩=>by omega⟩
   rw[this]
  ·rw[decide_eq_false (by omega:¬ (a:Int)<(FK t:Int))];simp only[cond_false,z];rw[decide_eq_false (λ⟨Z,_⟩=>h Z)]
def gG (n:aa)(t:List ah)(c:List aO)(ds:List bV):aa :=
 (n.1,n.2.1,n.2.2.1,n.2.2.2.1,n.2.2.2.2.1,n.2.2.2.2.2.1,n.2.2.2.2.2.2.1,n.2.2.2.2.2.2.2.1,t,c,n.2.2.2.2.2.2.2.2.2.2.1,ds,n.2.2.2.2.2.2.2.2.2.2.2.2)
def kI (n:aa)(f:ah):Bool:=decide (∃ g∈aa.table n,g.1=f.1/\g.2.1=f.2.1/\g.2.2.1=f.2.2.1)
def sayOf (n:aa)(f:ah)(b:Int):aa :=
 bif (bZ (aa.table n) f).2 then gG n (bZ (aa.table n) f).1 (dF (aa.cast n) f) (bif kI n f then aa.doubts n else cZ n.2.2.2.2.2.1 (aa.doubts n) f b) else n
structure cH (n:aa):Prop where
 table:aE (aa.table n)
 cast:da (aa.cast n)
 asc:Asc (λd:bV=>d.1) (aa.doubts n)
 inp:∀ d∈aa.doubts n,InP d.1 0 7
 lt:(aa.table n).length<=1048576
 lc:(aa.cast n).length<=1048576
 ld:(aa.doubts n).length<=1048576
theorem uc {n:aa}{f g:ah}(u:Asc (λg:ah=>g.1) (aa.table n))(r:g∈aa.table n)(e:g.1=f.1):kI n f=(g.2.1==f.2.1&&g.2.2.1==f.2.2.1):=by
 rw[GQ,kI,decide_eq_true_eq,Gr,beq_iff_eq,beq_iff_eq];constructor
 ·rintro⟨x,hx,h1,h2,h3⟩;have:=iT u hx r (by rw[h1,e]);subst this;exact⟨h2,h3⟩
 ·rintro⟨h1,h2⟩;exact⟨g,r,e,h1,h2⟩
theorem ud {n:aa}{f:ah}(h:∀ g∈aa.table n,g.1≠f.1):kI n f=false :=
 decide_eq_false λ⟨g,r,e,_⟩=>h g r e
theorem qJ (K:Nat)(n:aa)(f:ah)(b:Int)(h:cH n)(r:1048577<K):Q219.f K (n,f,b,())=some ((sayOf n f b,()),()):=by
 simp only[Q219.f,zcp8];rw[show Q162.f K (n.2.2.2.2.2.2.2.2.1,f,())=_ from put_s K (aa.table n) f h.lt h.table.2 r];simp only[FJ];cases I:(bZ (aa.table n) f).2 with
 |false =>
  simp only[sayOf,I];rfl
 |true =>
  simp only[sayOf,I,FS,cond_false,cond_true];obtain⟨o,M,J⟩:=fT K (aa.table n) f.1 h.lt r;rw[show Q103.f K (n.2.2.2.2.2.2.2.2.1,f.1,())=_ from J];simp only[FJ];have z:=By K (n.1,n.2.1,n.2.2.1,n.2.2.2.1,n.2.2.2.2.1,n.2.2.2.2.2.1,n.2.2.2.2.2.2.1,n.2.2.2.2.2.2.2.1,(bZ (aa.table n) f).1,dF (aa.cast n) f,n.2.2.2.2.2.2.2.2.2.2) f b h.ld h.asc r;have y:=Bx K (aa.cast n) f h.lc h.cast.2 r;cases M with
  |at_ i H e =>
   simp only;rw[uc h.table.2 (FL H) e,decide_eq_true (by omega:((i:Nat):Int)>=0)];simp only[cond_true];rw[show idx n.2.2.2.2.2.2.2.2.1 (i:Int)=some (aa.table n)[i] from af H];simp only[FJ];rw[show Q163.f K (n.2.2.2.2.2.2.2.2.2.1,f,())=_ from y];simp only[FJ];rw[z];cases (aa.table n)[i].2.1==f.2.1 with
   |true =>
    cases (aa.table n)[i].2.2.1==f.2.2.1 <;> rfl
   |false=>rfl
  |no u =>
   simp only;rw[ud u,decide_eq_false (by omega:¬ (-1:Int)>=0)];simp only[cond_false];rw[show Q163.f K (n.2.2.2.2.2.2.2.2.2.1,f,())=_ from y];simp only[FJ];rw[z];rfl
theorem mU {α:Type}{k:α->Int}{xs:List α}(h:Asc k xs)(p:α->Bool):Asc k (xs.filter p):=Gg p h
theorem BA {R:Type}(K:Nat)(r:Int)(ds:List bV)(f:ah)(b:Int)(G:List bV->Option R)(M:ds.length<=1048576)(hA:Asc (λd:bV=>d.1) ds)(Z:∀ d∈ds,InP d.1 0 7)(hf:bw f)(hK:1048577<K) :
  ((Q4.f K (ds,(λI=>(Q57.f K (I.1,f,())).map λy=>y.1.1),())).bind λJ=>bif f.2.2.1==2 then ((Q58.f K (J.1.1,f.1,(λX=>(Q59.f K (X.1,X.2.1,())).map λy=>y.1.1),())).bind λy7=>(Q5.f K (J.1.1,y7.1.1,[mkD r f b],())).bind λy8=>G y8.1.1) else G J.1.1)=G (cZ r ds f b):=by
 rw[show Q4.f K (ds,(λI=>(Q57.f K (I.1,f,())).map λy=>y.1.1),())=some ((ds.filter (λd=>!(d.1==f.1)),()),()) by
  simp only[Q4.f];exact sr _ M (λd _=>rfl)]
 simp only[FJ,cZ];by_cases z:f.2.2.1=2
 ·rw[if_pos z,show (f.2.2.1==2)=true by simpa using z];simp only[cond_true];have u:(ds.filter (λd=>!(d.1==f.1))).length<=1048576:=F1 (F8 _ _) M;obtain⟨m,O,lo,hi,b',e⟩:=Bz K (ds.filter (λd=>!(d.1==f.1))) f.1 u (mU hA _) (λd hd=>Z d (FQ.1 hd).1) hf.1 hK;rw[e];simp only[FJ];rw[show Q5.f K (ds.filter (λd=>!(d.1==f.1)),(m:Int),[mkD r f b],())=some (((ds.filter (λd=>!(d.1==f.1))).take m++[mkD r f b]++(ds.filter (λd=>!(d.1==f.1))).drop m,()),()) by
   simp only[Q5.f];exact jl O (by omega) u]
  simp only[FJ];have:=gu (k:=λd:bV=>d.1) (x:=mkD r f b) O lo (λi h H=>by
   have h1:=hi i h H;have Y:(!((ds.filter (λd=>!(d.1==f.1)))[i].1==f.1))=true:=(FQ.1 (FL h)).2;have h4:(ds.filter (λd=>!(d.1==f.1)))[i].1≠f.1:=by simpa using Y
   show f.1<_;omega)
  rw[this];exact congrArg G (vC (k:=λd:bV=>d.1) (x:=mkD r f b))
 ·rw[if_neg z,show (f.2.2.1==2)=false by simpa using z];rfl
theorem Ba (K:Nat)(n:aa)(f:ah)(b:Int)(h:cH n)(y:bw f)(u:1048577<K):Q60.f K (n,f,b,())=some ((),(sayOf n f b,())):=by
 simp only[Q60.f,zcp8];have X:∃ g:ah,∃ z,Q23.f K (aa.table n,f.1,())=some ((g,z,()),())/\kI n f=(g.2.2.1==f.2.2.1&&g.2.1==f.2.1):=by
  rcases kg K (aa.table n) f.1 h.lt u with ⟨r,_⟩|⟨_,⟨g,R,e,r⟩|⟨M,r⟩⟩
  ·exact absurd h.table r
  ·exact⟨g,_,r,by rw[uc h.table.2 R e,Bool.and_comm]⟩
  ·refine⟨_,_,r,?_⟩;rw[ud M,show ((0:Int)==f.2.2.1)=false by have:=y.2.2.1;simp;omega];rfl
 obtain⟨g,z,r,O⟩:=X;rw[show Q23.f K (n.2.2.2.2.2.2.2.2.1,f.1,())=_ from r];simp only[FJ];rw[show Q54.f K (n.2.2.2.2.2.2.2.2.1,f,())=_ from wZ K (aa.table n) f h.lt h.table.2 u];simp only[FJ];cases I:(bZ (aa.table n) f).2 with
 |false =>
  simp only[sayOf,I];rfl
 |true =>
  simp only[sayOf,I,FS,cond_false,cond_true];rw[show Q55.f K (n.2.2.2.2.2.2.2.2.2.1,f,())=_ from yw K (aa.cast n) f h.lc h.cast y u];simp only[FJ];have H:=BA K n.2.2.2.2.2.1 (aa.doubts n) f b (λJ=>some ((),(gG n (bZ (aa.table n) f).1 (dF (aa.cast n) f) J,()))) h.ld h.asc h.inp y u;rw[O];cases g.2.2.1==f.2.2.1 with
  |true =>
   cases g.2.1==f.2.1 with
   |true=>rfl
   |false=>exact H
  |false=>exact H
theorem jx {α:Type}{k:α->Int}{xs:List α}(h:Asc k xs)(r:∀ x∈xs,InP (k x) 0 7):xs.length<=8:=by
 have:=(jL (xs.map k) [0,1,2,3,4,5,6,7] (by unfold Asc at h;rw[F7];exact h) (by decide) (λy z=>by
  obtain⟨x,u,rfl⟩:=F2.1 z;obtain⟨H,I⟩:=r x u;simp only[GK,Gs,or_false];omega)).1
 rw[FW]at this;exact this
theorem iF (t:List ah)(f:ah):(bZ t f).1=t\/(bZ t f).1=bD (λg=>g.1) f t:=by
 unfold bZ;split
 ·split
  ·exact .inr rfl
  ·exact .inl rfl
 ·exact .inr rfl
theorem k8 {t:List ah}{f:ah}(h:aE t)(u:bw f):aE (bZ t f).1:=by
 rcases iF t f with e|e
 ·rw[e];exact h
 ·rw[e];refine⟨λg y=>?_,fI h.2⟩;rcases bd.1 y with rfl|⟨r,_⟩
  ·exact u
  ·exact h.1 g r
theorem qK {l:List aO}{f:ah}(h:da l)(u:bw f):da (dF l f):=by
 unfold dF;split
 ·exact h
 ·refine⟨λx y=>?_,fI h.2⟩;rcases bd.1 y with rfl|⟨r,_⟩
  ·exact⟨u,show (1:Int)<=4 by omega,show (4:Int)<=4 by omega⟩
  ·exact h.1 x r
theorem k9 {r:Int}{ds:List bV}{f:ah}{b:Int}{d:bV}(h:d∈cZ r ds f b):d=mkD r f b\/d∈ds:=by
 unfold cZ at h;split at h
 ·rcases bd.1 h with h|h
  ·exact .inl h
  ·exact .inr h.1
 ·exact .inr (FQ.1 h).1
theorem ue {r:Int}{ds:List bV}{f:ah}{b:Int}(h:Asc (λd:bV=>d.1) ds):Asc (λd:bV=>d.1) (cZ r ds f b):=by
 unfold cZ;split
 ·exact fI h
 ·exact mU h _
theorem jm (n:aa)(f:ah)(b:Int):∃ t c r,sayOf n f b=gG n t c r/\(t=aa.table n\/t=(bZ (aa.table n) f).1)/\(c=aa.cast n\/c=dF (aa.cast n) f)/\(r=aa.doubts n\/r=cZ n.2.2.2.2.2.1 (aa.doubts n) f b):=by
 unfold sayOf;cases (bZ (aa.table n) f).2 with
 |false=>exact⟨aa.table n,aa.cast n,aa.doubts n,rfl,.inl rfl,.inl rfl,.inl rfl⟩
 |true =>
  cases kI n f with
  |true=>exact⟨_,_,_,rfl,.inr rfl,.inr rfl,.inl rfl⟩
  |false=>exact⟨_,_,_,rfl,.inr rfl,.inr rfl,.inr rfl⟩
theorem cH.mk' {n:aa}(u:aE (aa.table n))(r:da (aa.cast n))(z:Asc (λd:bV=>d.1) (aa.doubts n))(y:∀ d∈aa.doubts n,InP d.1 0 7):cH n where
 table:=u
 cast:=r
 asc:=z
 inp:=y
 lt:=F1 (jx u.2 (λg H=>(u.1 g H).1)) (by decide)
 lc:=F1 (jx r.2 (λx I=>(r.1 x I).1.1)) (by decide)
 ld:=F1 (jx z y) (by decide)
theorem iV {n:aa}{f:ah}{b:Int}(h:cH n)(u:bw f):cH (sayOf n f b):=by
 obtain⟨t,c,y,e,H,I,z⟩:=jm n f b;rw[e];refine cH.mk' ?_ ?_ ?_ ?_
 ·show aE t;rcases H with rfl|rfl
  ·exact h.table
  ·exact k8 h.table u
 ·show da c;rcases I with rfl|rfl
  ·exact h.cast
  ·exact qK h.cast u
 ·show Asc _ y;rcases z with rfl|rfl
  ·exact h.asc
  ·exact ue h.asc
 ·show ∀ d∈y,InP d.1 0 7;rcases z with rfl|rfl
  ·exact h.inp
  ·intro d r;rcases k9 r with rfl|r
   ·exact u.1
   ·exact h.inp d r
theorem Ab {n:aa}{f:ah}{b:Int}(h:∀ d∈aa.doubts n,d.2.2.2.length<=1048576):∀ d∈aa.doubts (sayOf n f b),d.2.2.2.length<=1048576:=by
 obtain⟨t,c,u,e,_,_,y⟩:=jm n f b;rw[e];show ∀ d∈u,_;rcases y with rfl|rfl
 ·exact h
 ·intro d r;rcases k9 r with rfl|r
  ·exact Nat.succ_le_of_lt (by decide)
  ·exact h d r
theorem UpP.say {n:aa}(h:UpP n):cH n:=by
 obtain⟨r,_,_,⟨y,_⟩,_,u,_⟩:=h;refine cH.mk' r y u.2.1 λd z=>?_
 obtain⟨f,H,e,_⟩:=(u.1 d z).1;rw[<- e];exact (r.1 f H).1
theorem rH {α β A R:Type}(t:List α)(p:α->Bool)(g:α->β)(S:List β->Nat->A)(u:List β->Option R){step:(A->Option R)->A->Option R}
  (h:∀ (rec:A->Option R) (r:List β) (i:Nat) (M:i<t.length),r.length<=i->step rec (S r i)=rec (S (bif p t[i] then r++[g t[i]] else r) (i+1)))
  (y:∀ (rec:A->Option R) (r:List β),r.length<=t.length->step rec (S r t.length)=u r) {k:Nat} (I:t.length<k) :
  ae step k (S [] 0)=u ((t.filter p).map g):=by
 have:∀ (d i k:Nat) (r:List β),i+d=t.length->d<k->r.length<=i->ae step k (S r i)=u (r++((t.drop i).filter p).map g):=by
  intro d;induction d with
  |zero =>
   intro i k r M I H;obtain⟨k,rfl⟩:∃ J,k=J+1:=⟨k-1,by omega⟩;have:i=t.length:=by omega
   subst this;show step (ae step k) _=_;rw[y _ _ H];simp
  |succ d O =>
   intro i k r M I H;obtain⟨k,rfl⟩:∃ J,k=J+1:=⟨k-1,by omega⟩;have z:i<t.length:=by omega
   show step (ae step k) _=_;rw[h _ _ _ z H,F6 z,GA];cases p t[i] with
   |true =>
    simp only[cond_true,if_true,G3];rw[O (i+1) k _ (by omega) (by omega) (by simp;omega),GG];rfl
   |false =>
    simp only[cond_false];rw[O (i+1) k _ (by omega) (by omega) (by omega)];rfl
 have:=this t.length 0 k [] (by omega) I (FX _)
 rwa [GB,FZ]at this
def mV:aa:=(0,false,false,false,0,0,0,0,[],[],(0,0,0,false),[],(0,0,0,0),[],[])
theorem vD:NB mV where
 table:=FY _
 cast:=FY _
 doubts:=FY _
 by_:=λd r=>absurd r Gs
 places:=FY _
 trips:=λd r=>absurd r Gs
 others:=FY _
 facts:=λd r=>absurd r Gs
theorem szw (a b c:Nat)(r:c<=128)(h:a+b<=2097152):decide ((a+b)*c<=am)=true:=by
 have:=GN h r;exact decide_eq_true (by unfold am;omega)
def lv (n:aa):aa:=(n.1,n.2.1,true,n.2.2.2)
def oY (r:Int)(n:aa)(to:Int):aj:=(1,r,n.1,to,0,n.1,aa.coord n,aa.table n)
theorem BB (K:Nat)(n:aa)(r to:Int)(u:(aa.table n).length<=1048576):Q66.f K (n,r,to,())=some ((oY r n to,()),()):=by
 simp only[Q66.f,zcp4,Q65.f,FJ,Q0.f];rw[dR (by show (aa.table n).length*_<=_;omega)];rfl
theorem oZ (K:Nat)(n:aa)(r to:Int)(u:(aa.table n).length<=1048576):Q161.f K (n,r,to,0,n.1,aa.table n,())=some ((oY r n to,()),()):=by
 simp only[Q161.f];rw[szb _ _ _ (by omega) (by show (FK ([]:List ah))+(aa.table n).length<=_;simp;omega)];rfl
def eZ (f:ah):Bool:=f.2.2.1==1||f.2.2.1==2
theorem wj (K:Nat)(t:List ah)(f:ah)(H:aE t)(J:t.length<=1048576)(r:f∈t)(z:1048577<K):Q222.f K (t,f.1,())=rb (eZ f):=by
 simp only[Q222.f];obtain⟨o,I,y⟩:=fT K t f.1 J z;rw[y];simp only[FJ];cases I with
 |at_ i u e =>
  simp only;rw[decide_eq_true (by omega:((i:Nat):Int)>=0),af u];simp only[cond_true,FJ];rw[iT H.2 (FL u) r e,eZ];cases f.2.2.1==1 <;> rfl
 |no h=>exact absurd rfl (h f r)
def uf (n:aa)(f:ah):Bool:=f.1 != n.1&&eZ f
def mp (n:aa):List aj:=((aa.table n).filter (uf n)).map λf=>oY 5 n f.1
def nT (n:aa):aa:=lv (sayOf n (n.1,n.2.2.2.2.1,4,n.2.2.2.1) n.1)
theorem ug (K:Nat)(x:ab Q235.ps)(m:aa)(H:aE (aa.table m))(y:(aa.table m).length<=1048576)(z:1048577<K) :
  Q235.l0 K x ([],0,m.1,m.2.1,m.2.2.2.1,m.2.2.2.2.1,m.2.2.2.2.2.1,m.2.2.2.2.2.2.1,m.2.2.2.2.2.2.2.1,m.2.2.2.2.2.2.2.2.1,m.2.2.2.2.2.2.2.2.2.1,m.2.2.2.2.2.2.2.2.2.2.1.1,m.2.2.2.2.2.2.2.2.2.2.1.2.1,m.2.2.2.2.2.2.2.2.2.2.1.2.2.1,m.2.2.2.2.2.2.2.2.2.2.1.2.2.2,m.2.2.2.2.2.2.2.2.2.2.2.1,m.2.2.2.2.2.2.2.2.2.2.2.2.1.1,m.2.2.2.2.2.2.2.2.2.2.2.2.1.2.1,m.2.2.2.2.2.2.2.2.2.2.2.2.1.2.2.1,m.2.2.2.2.2.2.2.2.2.2.2.2.1.2.2.2,m.2.2.2.2.2.2.2.2.2.2.2.2.2.1,m.2.2.2.2.2.2.2.2.2.2.2.2.2.2)=some ((lv m,mp (lv m),()),()):=by
 refine rH (step:=λrec a=>Q235.s0 K x rec a) (aa.table m) (uf (lv m)) (λf=>oY 5 (lv m) f.1) (λr i=>(r,(i:Int),m.1,m.2.1,m.2.2.2.1,m.2.2.2.2.1,m.2.2.2.2.2.1,m.2.2.2.2.2.2.1,m.2.2.2.2.2.2.2.1,m.2.2.2.2.2.2.2.2.1,m.2.2.2.2.2.2.2.2.2.1,m.2.2.2.2.2.2.2.2.2.2.1.1,m.2.2.2.2.2.2.2.2.2.2.1.2.1,m.2.2.2.2.2.2.2.2.2.2.1.2.2.1,m.2.2.2.2.2.2.2.2.2.2.1.2.2.2,m.2.2.2.2.2.2.2.2.2.2.2.1,m.2.2.2.2.2.2.2.2.2.2.2.2.1.1,m.2.2.2.2.2.2.2.2.2.2.2.2.1.2.1,m.2.2.2.2.2.2.2.2.2.2.2.2.1.2.2.1,m.2.2.2.2.2.2.2.2.2.2.2.2.1.2.2.2,m.2.2.2.2.2.2.2.2.2.2.2.2.2.1,m.2.2.2.2.2.2.2.2.2.2.2.2.2.2)) (λJ=>some ((lv m,J,()),())) ?_ ?_ (by omega)
 ·intro rec r i u I;simp only[Q235.s0,zceae5f];rw[show decide ((i:Int)<(FK m.2.2.2.2.2.2.2.2.1:Int))=true from bt (by omega:(i:Int)<(FK (aa.table m):Int)),show idx m.2.2.2.2.2.2.2.2.1 (i:Int)=some (aa.table m)[i] from af u,ar i (by omega)];simp only[cond_true,FJ,uf];rw[show (lv m).1=m.1 from rfl];cases M:(aa.table m)[i].1 != m.1 with
  |false=>rfl
  |true =>
   simp only[cond_true,GU];rw[show Q222.f K (m.2.2.2.2.2.2.2.2.1,(aa.table m)[i].1,())=_ from wj K (aa.table m) _ H y (FL u) z];simp only[FJ];cases eZ (aa.table m)[i] with
   |false=>rfl
   |true =>
    simp only[cond_true];refine (congrArg (λo=>GL o _) (oZ K (lv m) 5 (aa.table m)[i].1 y)).trans ?_;simp only[FJ];rw[szw _ _ _ (by omega) (by simp;omega)];rfl
 ·intro rec r I;simp only[Q235.s0,zceae5f];rw[show decide ((FK (aa.table m):Int)<(FK m.2.2.2.2.2.2.2.2.1:Int))=false from aS _];rfl
theorem w8 {n:aa}(r:ff n):bw (n.1,n.2.2.2.2.1,4,n.2.2.2.1):=⟨r.1,r.2.2.2.2.1,show (1:Int)<=4 by omega,show (4:Int)<=4 by omega⟩
theorem BC (K:Nat)(n:aa)(J:NB n)(y:ff n)(H:n.2.1=true)(I:n.2.2.1=false)(u:1048577<K):Q235.f K (n,())=some ((nT n,mp (nT n),()),()):=by
 have z:=(y.up H).say;have r:=iV (b:=n.1) z (w8 y);simp only[Q235.f,Q235.pre];rw[H,I];simp only[FS,cond_false];rw[qJ K n _ n.1 z u];exact ug K _ _ r.table r.lt u
theorem lw {α r A R:Type}(ds:List α)(st:r->α->r)(Inv:r->Prop)(S:r->Nat->A)(u:r->Option R){step:(A->Option R)->A->Option R}(n:r)(O:Inv n)
  (h:∀ (rec:A->Option R) (m:r) (i:Nat) (M:i<ds.length),Inv m->step rec (S m i)=rec (S (st m ds[i]) (i+1))/\Inv (st m ds[i]))
  (y:∀ (rec:A->Option R) (m:r),Inv m->step rec (S m ds.length)=u m) {k:Nat} (H:ds.length<k):ae step k (S n 0)=u (ds.foldl st n):=by
 have:∀ (d i k:Nat) (m:r),i+d=ds.length->d<k->Inv m->ae step k (S m i)=u ((ds.drop i).foldl st m):=by
  intro d;induction d with
  |zero =>
   intro i k m M H I;obtain⟨k,rfl⟩:∃ J,k=J+1:=⟨k-1,by omega⟩;have:i=ds.length:=by omega
   subst this;show step (ae step k) _=_;rw[y _ _ I,G4];rfl
  |succ d Z =>
   intro i k m M H I;obtain⟨k,rfl⟩:∃ J,k=J+1:=⟨k-1,by omega⟩;have z:i<ds.length:=by omega
   show step (ae step k) _=_;obtain⟨X,Y⟩:=h (ae step k) m i z I;rw[X,F6 z];exact Z (i+1) k _ (by omega) (by omega) Y
 have:=this ds.length 0 k n (by omega) H O
 rwa [GB]at this
theorem mW {α r:Type}{st:r->α->r}{Inv:r->Prop}:∀ {ds:List α} {n:r},Inv n->(∀ m,∀ d∈ds,Inv m->Inv (st m d))->Inv (ds.foldl st n)
 |[],_,h,_=>h
 |d::ds,n,h,y=>mW (ds:=ds) (y n d (by simp) h) (λm z u=>y m z (by simp[u]))
def aT (t:List ah)(r:Int):ah:=(t.find? λg=>g.1==r).getD (0,0,0,false)
theorem ki {t:List ah}(r:Asc (λg:ah=>g.1) t){f:ah}(u:f∈t):aT t f.1=f:=by
 obtain⟨i,y,e⟩:=FR u;unfold aT;rw[show t.find? (λg=>g.1==f.1)=some t[i] from mR r y (by rw[e]),e];rfl
theorem kj {t:List ah}{r:Int}(h:∀ g∈t,g.1≠r):aT t r=(0,0,0,false):=by
 unfold aT;rw[show t.find? (λg=>g.1==r)=none from mo h];rfl
theorem nU (K:Nat)(t:List ah)(r:Int)(y:aE t)(J:t.length<=1048576)(H:1048577<K):∃ b,Q23.f K (t,r,())=some ((aT t r,b,()),()):=by
 rcases kg K t r J H with ⟨u,_⟩|⟨_,⟨g,I,e,u⟩|⟨z,u⟩⟩
 ·exact absurd y u
 ·refine⟨true,?_⟩;rw[u,<- e,ki y.2 I]
 ·refine⟨false,?_⟩;rw[u,kj z]
theorem uh (K:Nat)(t:List ah)(r:Int)(z:aE t)(I:t.length<=1048576)(y:1048577<K):Q222.f K (t,r,())=rb (eZ (aT t r)):=by
 by_cases h:∃ f∈t,f.1=r
 ·obtain⟨f,H,rfl⟩:=h;rw[wj K t f z I H y,ki z.2 H]
 ·have u:∀ g∈t,g.1≠r:=λg M e=>h ⟨g,M,e⟩
  simp only[Q222.f];obtain⟨o,R,J⟩:=fT K t r I y;rw[J,kj u];cases R with
  |at_ i O e=>exact absurd e (u _ (FL O))
  |no _=>rfl
theorem Ed (K:Nat)(n:aa)(r:Int)(H:aE (aa.table n))(I:(aa.table n).length<=1048576)(z:1048577<K):Q118.f K (n,r,())=rb (eZ (aT (aa.table n) r)):=by
 simp only[Q118.f,Q117.f];obtain⟨b,J⟩:=nU K (aa.table n) r H I z;rw[show Q23.f K (n.2.2.2.2.2.2.2.2.1,r,())=_ from J];simp only[FJ];obtain⟨b,u,y⟩:=eY K (aT (aa.table n) r).2.2.1 1 2;rw[u];have:b=eZ (aT (aa.table n) r):=by
  rw[GQ,y,eZ,Bool.or_eq_true,beq_iff_eq,beq_iff_eq];show (1<=(aT (aa.table n) r).2.2.1/\(aT (aa.table n) r).2.2.1<=2)<->_;omega
 rw[this];rfl
theorem jy (n:aa)(f:ah)(b:Int):(sayOf n f b).1=n.1/\(sayOf n f b).2.1=n.2.1/\(sayOf n f b).2.2.1=n.2.2.1/\(sayOf n f b).2.2.2.1=n.2.2.2.1/\(sayOf n f b).2.2.2.2.1=n.2.2.2.2.1/\(sayOf n f b).2.2.2.2.2.1=n.2.2.2.2.2.1/\(sayOf n f b).2.2.2.2.2.2.1=n.2.2.2.2.2.2.1/\(sayOf n f b).2.2.2.2.2.2.2.1=n.2.2.2.2.2.2.2.1/\aa.probe (sayOf n f b)=aa.probe n/\(sayOf n f b).2.2.2.2.2.2.2.2.2.2.2.2=n.2.2.2.2.2.2.2.2.2.2.2.2:=by
 obtain⟨t,c,r,e,_⟩:=jm n f b;rw[e];exact⟨rfl,rfl,rfl,rfl,rfl,rfl,rfl,rfl,rfl,rfl⟩
theorem nV {t:List ah}{f g:ah}(r:g∈t):∃ u∈(bZ t f).1,u.1=g.1:=by
 rcases iF t f with e|e
 ·rw[e];exact⟨g,r,rfl⟩
 ·rw[e];by_cases h:g.1=f.1
  ·exact⟨f,bd.2 (.inl rfl),h.symm⟩
  ·exact⟨g,bd.2 (.inr ⟨r,h⟩),rfl⟩
theorem kk {n:aa}{f:ah}{b:Int}{g:ah}(r:g∈aa.table n):∃ u∈aa.table (sayOf n f b),u.1=g.1:=by
 obtain⟨t,c,z,e,y,_⟩:=jm n f b;rw[e];rcases y with rfl|rfl
 ·exact⟨g,r,rfl⟩
 ·exact nV r
def rI (u r:Int)(len:Nat):Bool:=decide (u-r>=if 6-(len:Int)+1<3 then 3 else 6-(len:Int)+1)
def lx (f:ah):ah:=(f.1,f.2.1,3,f.2.2.2)
def iW (n:aa)(d:bV):aa:=bif rI n.2.2.2.2.2.1 d.2.2.1 d.2.2.2.length then sayOf n (lx (aT (aa.table n) d.1)) n.1 else n
def la (n:aa):aa:=(aa.doubts n).foldl iW n
theorem due_s (K:Nat)(r:Int)(d:bV)(u:0<=d.2.2.1)(y:d.2.2.1<=r)(z:r<=1000000)(H:d.2.2.2.length<=1048576):Q220.f K (r,d,())=rb (rI r d.2.2.1 d.2.2.2.length):=by
 simp only[Q220.f];rw[aC (n:=6-(FK d.2.2.2:Int)) (by omega) (by omega),aC (n:=6-(FK d.2.2.2:Int)+1) (by omega) (by omega),aC (n:=r-d.2.2.1) (by omega) (by omega)];unfold rI;by_cases h:6-(FK d.2.2.2:Int)+1<3
 ·rw[decide_eq_true h,if_pos h];rfl
 ·rw[decide_eq_false h,if_neg h];rfl
theorem Ez (K:Nat)(a b c:Int)(len:Nat)(r:len<=1048576):Q114.f K ((a,b,c,len),())=some ((if 6-(len:Int)+1<3 then 3 else 6-(len:Int)+1,()),()):=by
 simp only[Q114.f];rw[aC (n:=6-(len:Int)) (by omega) (by omega),aC (n:=6-(len:Int)+1) (by omega) (by omega)];by_cases h:6-(len:Int)+1<3
 ·rw[decide_eq_true h,if_pos h];rfl
 ·rw[decide_eq_false h,if_neg h];rfl
structure qL (ds:List bV) (now:Int) (n:aa):Prop where
 ok:cH n
 key:∀ d∈ds,∃ f∈aa.table n,f.1=d.1
 now_:n.2.2.2.2.2.1=now
theorem wk {f:ah}(h:bw f):bw (lx f):=⟨h.1,h.2.1,show (1:Int)<=3 by omega,show (3:Int)<=4 by omega⟩
theorem eP {t:List ah}{r:Int}(y:aE t)(h:∃ f∈t,f.1=r):bw (aT t r)/\(aT t r).1=r/\aT t r∈t:=by
 obtain⟨f,u,rfl⟩:=h;rw[ki y.2 u];exact⟨y.1 f u,rfl,u⟩
theorem vE {ds:List bV}{r:Int}{n:aa}{d:bV}(h:qL ds r n)(J:d∈ds):qL ds r (iW n d):=by
 unfold iW;cases rI n.2.2.2.2.2.1 d.2.2.1 d.2.2.2.length with
 |false=>exact h
 |true =>
  have M:=wk (eP h.ok.table (h.key d J)).1;refine⟨iV h.ok M,λz u=>?_,(jy n _ _).2.2.2.2.2.1.trans h.now_⟩;obtain⟨g,O,e⟩:=h.key z u;obtain⟨I,y,H⟩:=kk (f:=lx (aT (aa.table n) d.1)) (b:=n.1) O;exact⟨I,y,H.trans e⟩
theorem Ct (K:Nat)(n:aa)(h:qL (aa.doubts n) n.2.2.2.2.2.1 n)(Y:∀ d∈aa.doubts n,0<=d.2.2.1/\d.2.2.1<=n.2.2.2.2.2.1/\d.2.2.2.length<=1048576)(z:n.2.2.2.2.2.1<=1000000)(O:1048577<K):Q221.f K (n,())=some ((la n,()),()):=by
 have hl:=h.ok.ld;refine lw (step:=λrec a=>Q221.s0 K (n,()) rec a) (aa.doubts n) iW (qL (aa.doubts n) n.2.2.2.2.2.1) (λm i=>((i:Int),m.1,m.2.1,m.2.2.1,m.2.2.2.1,m.2.2.2.2.1,m.2.2.2.2.2.1,m.2.2.2.2.2.2.1,m.2.2.2.2.2.2.2.1,m.2.2.2.2.2.2.2.2.1,m.2.2.2.2.2.2.2.2.2.1,m.2.2.2.2.2.2.2.2.2.2.1.1,m.2.2.2.2.2.2.2.2.2.2.1.2.1,m.2.2.2.2.2.2.2.2.2.2.1.2.2.1,m.2.2.2.2.2.2.2.2.2.2.1.2.2.2,m.2.2.2.2.2.2.2.2.2.2.2.1,m.2.2.2.2.2.2.2.2.2.2.2.2.1.1,m.2.2.2.2.2.2.2.2.2.2.2.2.1.2.1,m.2.2.2.2.2.2.2.2.2.2.2.2.1.2.2.1,m.2.2.2.2.2.2.2.2.2.2.2.2.1.2.2.2,m.2.2.2.2.2.2.2.2.2.2.2.2.2.1,m.2.2.2.2.2.2.2.2.2.2.2.2.2.2)) (λm=>some ((m,()),())) n h ?_ ?_ (by omega)
 ·intro rec m i H u;refine⟨?_,vE u (FL H)⟩;simp only[Q221.s0,zc286a0,zc3ec45];obtain⟨I,J,M⟩:=Y _ (FL H);rw[show decide ((i:Int)<(FK n.2.2.2.2.2.2.2.2.2.2.2.1:Int))=true from bt (by omega:(i:Int)<(FK (aa.doubts n):Int)),show idx n.2.2.2.2.2.2.2.2.2.2.2.1 (i:Int)=some (aa.doubts n)[i] from af H,ar i (by omega)];simp only[cond_true,FJ];rw[due_s K m.2.2.2.2.2.1 (aa.doubts n)[i] I (by rw[u.now_];exact J) (by rw[u.now_];exact z) M];simp only[FJ];have r:=u.key _ (FL H);generalize (aa.doubts n)[i]=d at r I J M ⊢;unfold iW;cases rI m.2.2.2.2.2.1 d.2.2.1 d.2.2.2.length with
  |false=>rfl
  |true =>
   simp only[cond_true];have y:=eP u.ok.table r;obtain⟨o,ho,X⟩:=fT K (aa.table m) d.1 u.ok.lt O;rw[show Q103.f K (m.2.2.2.2.2.2.2.2.1,d.1,())=_ from X];simp only[FJ];cases ho with
   |no h=>exact absurd r (λ⟨f,Z,e⟩=>h f Z e)
   |at_ j R e =>
    simp only;rw[show idx m.2.2.2.2.2.2.2.2.1 ((j:Nat):Int)=some (aa.table m)[j] from af R,iT u.ok.table.2 (FL R) y.2.2 (by rw[e,y.2.1])];simp only[FJ];refine (congrArg (λo=>GL o _) (qJ K m (lx (aT (aa.table m) d.1)) m.1 u.ok O)).trans ?_;rfl
 ·intro rec m u;simp only[Q221.s0,zc286a0,zc3ec45];rw[show decide ((FK (aa.doubts n):Int)<(FK n.2.2.2.2.2.2.2.2.2.2.2.1:Int))=false from aS _];rfl
theorem EB (K:Nat)(n:aa)(h:qL (aa.doubts n) n.2.2.2.2.2.1 n)(hd:∀ d∈aa.doubts n,0<=d.2.2.1/\d.2.2.1<=n.2.2.2.2.2.1/\d.2.2.2.length<=1048576)(Z:n.2.2.2.2.2.1<=1000000)(Y:1048577<K):Q115.f K (n,())=some ((),(la n,())):=by
 have hl:=h.ok.ld;simp only[Q115.f,Q115.pre,zc3ec45];have hc:∃ r:List (Int×Int×Int×Nat),r=(aa.doubts n).map (λd=>(d.1,d.2.1,d.2.2.1,d.2.2.2.length))/\Q10.f K (aa.doubts n,())=some ((r,()),()):=by
  refine⟨_,rfl,?_⟩;simp only[Q10.f,Bl];rw[dR (by omega)];rfl
 obtain⟨r,I,e⟩:=hc;rw[show Q10.f K (n.2.2.2.2.2.2.2.2.2.2.2.1,())=_ from e];simp only[FJ];have H:r.length=(aa.doubts n).length:=by rw[I,FW]
 have M:∀ i (u:i<(aa.doubts n).length),r[i]'(by rw[H];exact u)=((aa.doubts n)[i].1,(aa.doubts n)[i].2.1,(aa.doubts n)[i].2.2.1,(aa.doubts n)[i].2.2.2.length):=λi u=>by
  simp only[I,HL]
 clear I;refine lw (step:=λrec a=>Q115.s0 K (n,()) rec a) (aa.doubts n) iW (qL (aa.doubts n) n.2.2.2.2.2.1) (λm i=>(r,(FK r:Int),(i:Int),m.1,m.2.1,m.2.2.1,m.2.2.2.1,m.2.2.2.2.1,m.2.2.2.2.2.1,m.2.2.2.2.2.2.1,m.2.2.2.2.2.2.2.1,m.2.2.2.2.2.2.2.2.1,m.2.2.2.2.2.2.2.2.2.1,m.2.2.2.2.2.2.2.2.2.2.1.1,m.2.2.2.2.2.2.2.2.2.2.1.2.1,m.2.2.2.2.2.2.2.2.2.2.1.2.2.1,m.2.2.2.2.2.2.2.2.2.2.1.2.2.2,m.2.2.2.2.2.2.2.2.2.2.2.1,m.2.2.2.2.2.2.2.2.2.2.2.2.1.1,m.2.2.2.2.2.2.2.2.2.2.2.2.1.2.1,m.2.2.2.2.2.2.2.2.2.2.2.2.1.2.2.1,m.2.2.2.2.2.2.2.2.2.2.2.2.1.2.2.2,m.2.2.2.2.2.2.2.2.2.2.2.2.2.1,m.2.2.2.2.2.2.2.2.2.2.2.2.2.2)) (λm=>some ((),(m,()))) n h ?_ ?_ (by omega)
 ·intro rec m i u z;refine⟨?_,vE z (FL u)⟩;simp only[Q115.s0,zc286a0,zc3ec45];have O:i<r.length:=by rw[H];exact u
  obtain⟨d0,d1,X⟩:=hd _ (FL u);rw[bt (by omega:(i:Int)<(FK r:Int)),af O,ar i (by omega),FN,af O,M i u];simp only[cond_true,FJ];have y:=z.key _ (FL u);generalize (aa.doubts n)[i]=d at y d0 d1 X ⊢;rw[Ez K d.1 d.2.1 d.2.2.1 d.2.2.2.length X];simp only[FJ];have a0:=z.now_;rw[aC (n:=m.2.2.2.2.2.1-d.2.2.1) (by omega) (by omega)];have J:decide (m.2.2.2.2.2.1-d.2.2.1<if 6-(FK d.2.2.2:Int)+1<3 then 3 else 6-(FK d.2.2.2:Int)+1)=!rI m.2.2.2.2.2.1 d.2.2.1 d.2.2.2.length:=by
   unfold rI;rw[GQ];simp
  rw[show decide (m.2.2.2.2.2.1-d.2.2.1<(if 6-(FK d.2.2.2:Int)+1<3 then 3 else 6-(FK d.2.2.2:Int)+1:Int))=_ from J];unfold iW;cases rI m.2.2.2.2.2.1 d.2.2.1 d.2.2.2.length with
  |false=>rfl
  |true =>
   simp only[FS,cond_false,cond_true];have R:=eP z.ok.table y;obtain⟨b,hw⟩:=nU K (aa.table m) d.1 z.ok.table z.ok.lt Y;rw[show Q23.f K (m.2.2.2.2.2.2.2.2.1,d.1,())=_ from hw];simp only[FJ];refine (congrArg (λo=>GL o _) (Ba K m (lx (aT (aa.table m) d.1)) m.1 z.ok (wk R.1) Y)).trans ?_;rfl
 ·intro rec m z;simp only[Q115.s0,zc286a0,zc3ec45];rw[<- H,aS];rfl
def setP (n:aa)(p:ah):aa:=(n.1,n.2.1,n.2.2.1,n.2.2.2.1,n.2.2.2.2.1,n.2.2.2.2.2.1,n.2.2.2.2.2.2.1,n.2.2.2.2.2.2.2.1,n.2.2.2.2.2.2.2.2.1,n.2.2.2.2.2.2.2.2.2.1,p,n.2.2.2.2.2.2.2.2.2.2.2)
def noP:ah:=(-1,0,0,false)
def qM (f:ah):ah:=(f.1,f.2.1,2,f.2.2.2)
def xa (n:aa)(f:ah):Bool:=f.2.2.1==1&&f.1 != n.1&&f.1 != (aa.probe n).1
def gi (n:aa):List Int:=(((aa.table n).filter (xa n)).map (·.1)).take 2
def askW (n:aa)(to:Int):aj:=(1,3,n.1,to,(aa.probe n).2.2.1,(aa.probe n).1,aa.coord n,[])
def mq (n:aa):aa:=setP n ((aa.probe n).1,(aa.probe n).2.1,(aa.probe n).2.2.1,true)
def dA (n:aa):aa×List aj :=
 bif (aa.probe n).1==-1 then (n,[]) else
 bif !eZ (aT (aa.table n) (aa.probe n).1) then (setP n noP,[]) else
 bif decide (n.2.2.2.2.2.1-(aa.probe n).2.1>=4) then (bif (aT (aa.table n) (aa.probe n).1).2.2.1==1 then sayOf (setP n noP) (qM (aT (aa.table n) (aa.probe n).1)) n.1 else setP n noP,[]) else
 bif decide (n.2.2.2.2.2.1-(aa.probe n).2.1>=2) then (bif !(aa.probe n).2.2.2 then (mq n,(gi n).map (askW n)) else (n,[])) else (n,[])
theorem cH.setP {n:aa}(h:cH n)(p:ah):cH (setP n p):=⟨h.table,h.cast,h.asc,h.inp,h.lt,h.lc,h.ld⟩
theorem BD {f:ah}(h:bw f):bw (qM f):=⟨h.1,h.2.1,show (1:Int)<=2 by omega,show (2:Int)<=4 by omega⟩
theorem iG {t:List ah}{r:Int}(h:eZ (aT t r)=true):∃ f∈t,f.1=r:=by
 by_cases u:∃ f∈t,f.1=r
 ·exact u
 ·rw[kj (λg y e=>u ⟨g,y,e⟩)]at h;simp[eZ]at h
theorem yx (K:Nat)(n:aa)(J:(aa.table n).length<=1048576)(I:1048577<K):Q223.f K (n,())=some ((gi n,()),()):=by
 have:=lM (step:=λrec a=>Q223.s0 K (n,()) rec a) (aa.table n) (xa n) (λf=>f.1) 2 (λH=>some ((H,()),())) ?_ ?_ ?_ (aa.table n).length 0 K [] (by omega) (by omega) (FX _) (by simp)
 ·exact this
 ·intro rec r i u y z;simp only[Q223.s0];rw[show decide ((i:Int)<(FK n.2.2.2.2.2.2.2.2.1:Int))=true from bt (by omega:(i:Int)<(FK (aa.table n):Int)),show idx n.2.2.2.2.2.2.2.2.1 (i:Int)=some (aa.table n)[i] from af u,ar i (by omega),decide_eq_true (by omega:(FK r:Int)<2)];simp only[cond_true,FJ,xa];show (bif (aa.table n)[i].1 != n.1 then (bif (aa.table n)[i].1 != (aa.probe n).1 then (bif (aa.table n)[i].2.2.1==1 then (bif decide ((FK r+FK ([(aa.table n)[i].1]))*8<=am) then (rec (r++([(aa.table n)[i].1]),((i+1:Nat):Int))) else none) else (rec (r,((i+1:Nat):Int)))) else (rec (r,((i+1:Nat):Int)))) else (rec (r,((i+1:Nat):Int))))=_;rw[szb _ _ _ (by omega) (by simp;omega)];cases (aa.table n)[i].1 != n.1 <;> cases (aa.table n)[i].1 != (aa.probe n).1 <;> cases (aa.table n)[i].2.2.1==1 <;> rfl
 ·intro rec r i u y z;simp only[Q223.s0];rw[show decide ((i:Int)<(FK n.2.2.2.2.2.2.2.2.1:Int))=true from bt (by omega:(i:Int)<(FK (aa.table n):Int)),decide_eq_false (by omega:¬ (FK r:Int)<2)];rfl
 ·intro rec r _;simp only[Q223.s0];rw[show decide ((FK (aa.table n):Int)<(FK n.2.2.2.2.2.2.2.2.1:Int))=false from aS _];rfl
theorem Ek (K:Nat)(n m:aa)(p:ah)(z:aa.table m=aa.table n/\m.1=n.1)(H:p=aa.probe n)(r:(aa.table n).length<=1048576)(u:1048577<K) :
  ((Q116.f K (aa.table n,(λI=>(Q119.f K (I.1,m,p,())).map λy=>y.1.1),())).bind λJ=>Q120.f K (J.1.1,2,()))=some ((gi n,()),()):=by
 rw[D8 K (aa.table n) _ (xa n) r u (λf _=>by
  simp only[Q119.f,xa];rw[z.2,H];cases f.2.2.1==1 <;> cases f.1 != n.1 <;> cases f.1 != (aa.probe n).1 <;> rfl)]
 simp only[FJ];rw[Bv K _ 2 (by rw[FW];exact F1 (F8 _ _) r)];rfl
theorem Er (K:Nat)(n:aa)(h:cH n)(h0:0<=(aa.probe n).2.1)(h1:(aa.probe n).2.1<=1000000)(Y:0<=n.2.2.2.2.2.1)(Z:n.2.2.2.2.2.1<=1000000)(u:1048577<K) :
  Q121.f K (n,())=some (((dA n).2,()),((dA n).1,())):=by
 simp only[Q121.f,Q121.pre,zcp8];obtain⟨b,hw⟩:=nU K (aa.table n) (aa.probe n).1 h.table h.lt u;rw[show Q23.f K (n.2.2.2.2.2.2.2.2.1,n.2.2.2.2.2.2.2.2.2.2.1.1,())=_ from hw];simp only[FJ,dA];show (bif (aa.probe n).1==-1 then _ else _)=_;cases (aa.probe n).1==-1 with
 |true=>rfl
 |false =>
  simp only[cond_false];rw[show Q118.f K (n,n.2.2.2.2.2.2.2.2.2.2.1.1,())=_ from Ed K n (aa.probe n).1 h.table h.lt u];simp only[FJ];cases X:eZ (aT (aa.table n) (aa.probe n).1) with
  |false=>rfl
  |true =>
   have O:=eP h.table (iG X);simp only[FS,cond_false];rw[aC (n:=n.2.2.2.2.2.1-n.2.2.2.2.2.2.2.2.2.2.1.2.1) (by show -9223372036854775808<=n.2.2.2.2.2.1-(aa.probe n).2.1;omega) (by show n.2.2.2.2.2.1-(aa.probe n).2.1<=9223372036854775807;omega)];show (bif decide (n.2.2.2.2.2.1-(aa.probe n).2.1>=4) then _ else _)=_;cases decide (n.2.2.2.2.2.1-(aa.probe n).2.1>=4) with
   |true =>
    simp only[cond_true];cases (aT (aa.table n) (aa.probe n).1).2.2.1==1 with
    |true =>
     simp only[cond_true];refine (congrArg (λo=>GL o _) (Ba K (setP n noP) (qM (aT (aa.table n) (aa.probe n).1)) n.1 (h.setP noP) (BD O.1) u)).trans ?_;rfl
    |false=>rfl
   |false =>
    simp only[cond_false];show (bif decide (n.2.2.2.2.2.1-(aa.probe n).2.1>=2) then _ else _)=_;cases decide (n.2.2.2.2.2.1-(aa.probe n).2.1>=2) with
    |false=>rfl
    |true =>
     simp only[cond_true];show (bif !(aa.probe n).2.2.2 then _ else _)=_;cases H:(aa.probe n).2.2.2 with
     |true=>rfl
     |false =>
      simp only[F9,cond_true];have R:=Ek K n (mq n) (aa.probe n) ⟨rfl,rfl⟩ rfl h.lt u;obtain⟨y,hy,z⟩:=Option.bind_eq_some_iff.1 R;refine (congrArg (λo=>GL o _) hy).trans ?_;simp only[FJ];rw[z];simp only[FJ];have J:(gi n).length<=2:=GV _ _;refine Gy (rH (step:=λrec a=>Q121.s0 K (n,()) rec a) (gi n) (λ_=>true) (askW n) (λr i=>(r,gi n,(FK (gi n):Int),(i:Int))) (λws=>some ((ws,()),(mq n,()))) ?_ ?_ (by omega)) (by rw[GI.2 (λ_ _=>rfl)])
      ·intro rec r i I M;simp only[Q121.s0,zcp4,zcp8];rw[bt (by omega:(i:Int)<(FK (gi n):Int)),af I,ar i (by omega),FN,af I];simp only[cond_true,FJ,Q65.f];rw[szw _ _ _ (by omega) (by simp;omega)];rfl
      ·intro rec r M;simp only[Q121.s0,zcp4,zcp8,aS];rfl
theorem Cu (K:Nat)(n:aa)(h:cH n)(hp:(aa.probe n).1≠-1)(h0:0<=(aa.probe n).2.1)(h1:(aa.probe n).2.1<=1000000)(Y:0<=n.2.2.2.2.2.1)(Z:n.2.2.2.2.2.1<=1000000)(u:1048577<K) :
  Q224.f K (n,())=some (((dA n).1,(dA n).2,()),()):=by
 simp only[Q224.f,Q224.pre,zcp8,dA];rw[show ((aa.probe n).1==-1)=false by simpa using hp];simp only[cond_false];rw[show Q222.f K (n.2.2.2.2.2.2.2.2.1,n.2.2.2.2.2.2.2.2.2.2.1.1,())=_ from uh K (aa.table n) (aa.probe n).1 h.table h.lt u];simp only[FJ];cases M:eZ (aT (aa.table n) (aa.probe n).1) with
 |false=>rfl
 |true =>
  have y:=eP h.table (iG M);simp only[FS,cond_false];rw[aC (n:=n.2.2.2.2.2.1-n.2.2.2.2.2.2.2.2.2.2.1.2.1) (by show -9223372036854775808<=n.2.2.2.2.2.1-(aa.probe n).2.1;omega) (by show n.2.2.2.2.2.1-(aa.probe n).2.1<=9223372036854775807;omega)];show (bif decide (n.2.2.2.2.2.1-(aa.probe n).2.1>=4) then _ else _)=_;cases decide (n.2.2.2.2.2.1-(aa.probe n).2.1>=4) with
  |true =>
   simp only[cond_true];obtain⟨o,ho,R⟩:=fT K (aa.table n) (aa.probe n).1 h.lt u;rw[show Q103.f K (n.2.2.2.2.2.2.2.2.1,n.2.2.2.2.2.2.2.2.2.2.1.1,())=_ from R];simp only[FJ];cases ho with
   |no z=>exact absurd (iG M) (λ⟨f,y,e⟩=>z f y e)
   |at_ j J e =>
    simp only;rw[show idx n.2.2.2.2.2.2.2.2.1 ((j:Nat):Int)=some (aa.table n)[j] from af J,iT h.table.2 (FL J) y.2.2 (by rw[e,y.2.1])];simp only[FJ];cases (aT (aa.table n) (aa.probe n).1).2.2.1==1 with
    |true =>
     simp only[cond_true];refine (congrArg (λo=>GL o _) (qJ K (setP n noP) (qM (aT (aa.table n) (aa.probe n).1)) n.1 (h.setP noP) u)).trans ?_;rfl
    |false=>rfl
  |false =>
   simp only[cond_false];show (bif decide (n.2.2.2.2.2.1-(aa.probe n).2.1>=2) then _ else _)=_;cases decide (n.2.2.2.2.2.1-(aa.probe n).2.1>=2) with
   |false=>rfl
   |true =>
    simp only[cond_true];show (bif !(aa.probe n).2.2.2 then _ else _)=_;cases H:(aa.probe n).2.2.2 with
    |true=>rfl
    |false =>
     simp only[F9,cond_true];refine (congrArg (λo=>GL o _) (yx K (mq n) h.lt u)).trans ?_;simp only[FJ];rw[show gi (mq n)=gi n from rfl];have O:(gi n).length<=2:=GV _ _;refine Gy (rH (step:=λrec a=>Q224.s0 K (n,()) rec a) (gi n) (λ_=>true) (askW n) (λr i=>(r,gi n,(i:Int))) (λws=>some ((mq n,ws,()),())) ?_ ?_ (by omega)) (by rw[GI.2 (λ_ _=>rfl)])
     ·intro rec r i I X;simp only[Q224.s0,zcp8];rw[bt (by omega:(i:Int)<(FK (gi n):Int)),af I,ar i (by omega),FN,af I];simp only[cond_true,FJ,Q161.f];rw[szb _ _ _ (by omega) (by simp)];simp only[cond_true,FJ];rw[szw _ _ _ (by omega) (by simp;omega)];rfl
     ·intro rec r X;simp only[Q224.s0,zcp8,aS];rfl
def gZ (n:aa)(i:Int):aa:=(n.1,n.2.1,n.2.2.1,n.2.2.2.1,i,n.2.2.2.2.2)
def e8 (n:aa)(f:ah):aa:=bif decide (bP f (aT (aa.table n) n.1))&&decide (f.2.1<999) then sayOf (gZ n (f.2.1+1)) (n.1,f.2.1+1,1,n.2.2.2.1) n.1 else n
def dW (f:ah)(b:Int)(d:bV):bV:=bif d.1==f.1&&d.2.1==f.2.1&&f.2.2.1==2 then (d.1,d.2.1,d.2.2.1,bD (λx:Int=>x) b d.2.2.2) else d
def kl (n:aa)(f:ah)(b:Int):aa:=gG n (aa.table n) (aa.cast n) ((aa.doubts n).map (dW f b))
def dI (b:Int)(n:aa)(f:ah):aa:=bif f.1==n.1 then e8 n f else kl (sayOf n f b) f b
def gB (n:aa)(t:List ah)(b:Int):aa:=t.foldl (dI b) n
def lO (l:List Int):Prop:=Asc (λx:Int=>x) l/\∀ x∈l,InP x 0 7
theorem lO.len {l:List Int}(h:lO l):l.length<=8:=jx h.1 h.2
theorem lO.put {l:List Int}{b:Int}(h:lO l)(u:InP b 0 7):lO (bD (λx:Int=>x) b l) :=
 ⟨fI h.1,λx r=>by
  rcases bd.1 r with rfl|⟨r,_⟩
  ·exact u
  ·exact h.2 x r⟩
structure dG (n:aa):Prop where
 say:cH n
 me:InP n.1 0 7
 has:∃ g∈aa.table n,g.1=n.1
 by_:∀ d∈aa.doubts n,lO d.2.2.2
theorem cH.inc {n:aa}(h:cH n)(i:Int):cH (gZ n i):=⟨h.table,h.cast,h.asc,h.inp,h.lt,h.lc,h.ld⟩
theorem kJ {n:aa}{f:ah}{b:Int}(z:InP b 0 7)(h:∀ d∈aa.doubts n,lO d.2.2.2):∀ d∈aa.doubts (sayOf n f b),lO d.2.2.2:=by
 obtain⟨t,c,u,e,_,_,y⟩:=jm n f b;rw[e];intro d r;have r:d∈u:=r;rcases y with rfl|rfl
 ·exact h d r
 ·rcases k9 r with rfl|r
  ·exact⟨G5 _ _,λx H=>by rw[GF.1 H];exact z⟩
  ·exact h d r
theorem rJ {n:aa}{f:ah}(u:InP n.1 0 7)(r:bw f)(h:f.2.1<999):bw (n.1,f.2.1+1,1,n.2.2.2.1):=by
 obtain⟨_,⟨y,z⟩,_⟩:=r;exact⟨u,⟨show (0:Int)<=f.2.1+1 by omega,show f.2.1+1<=999 by omega⟩,show (1:Int)<=1 by omega,show (1:Int)<=4 by omega⟩
theorem dG.refute {n:aa}{f:ah}(h:dG n)(I:bw f):dG (e8 n f):=by
 unfold e8;cases z:decide (bP f (aT (aa.table n) n.1))&&decide (f.2.1<999) with
 |false=>exact h
 |true =>
  have M:f.2.1<999:=by
   rw[Gr]at z;exact of_decide_eq_true z.2
  obtain⟨u,_⟩:=jy (gZ n (f.2.1+1)) (n.1,f.2.1+1,1,n.2.2.2.1) n.1;refine⟨iV (h.say.inc _) (rJ h.me I M),?_,?_,kJ h.me h.by_⟩
  ·show InP (sayOf (gZ n (f.2.1+1)) (n.1,f.2.1+1,1,n.2.2.2.1) n.1).1 0 7;rw[u];exact h.me
  ·obtain⟨g,J,e⟩:=h.has;obtain⟨y,r,H⟩:=kk (n:=gZ n (f.2.1+1)) (f:=(n.1,f.2.1+1,1,n.2.2.2.1)) (b:=n.1) (g:=g) J;refine⟨y,r,?_⟩;show y.1=(sayOf (gZ n (f.2.1+1)) (n.1,f.2.1+1,1,n.2.2.2.1) n.1).1;rw[u,H,e];rfl
theorem dG.confirm {n:aa}{f:ah}{b:Int}(h:dG n)(Y:bw f)(R:InP b 0 7):dG (kl (sayOf n f b) f b):=by
 have u:=iV (b:=b) h.say Y;obtain⟨M,_⟩:=jy n f b;have z:=kJ (f:=f) R h.by_;obtain⟨g,Z,e⟩:=h.has;obtain⟨O,I,X⟩:=kk (n:=n) (f:=f) (b:=b) Z;have J:∀ d,(dW f b d).1=d.1:=λd=>by unfold dW;cases d.1==f.1&&d.2.1==f.2.1&&f.2.2.1==2 <;> rfl
 refine⟨⟨u.table,u.cast,?_,λd H=>?_,u.lt,u.lc,?_⟩,?_,⟨O,I,?_⟩,λd H=>?_⟩
 ·show Asc (λd:bV=>d.1) ((aa.doubts (sayOf n f b)).map (dW f b));unfold Asc;rw[F7];exact u.asc.imp λ {a c} h=>by show (dW f b a).1<(dW f b c).1;rw[J,J];exact h
 ·obtain⟨y,r,rfl⟩:=F2.1 H;rw[J];exact u.inp y r
 ·show ((aa.doubts (sayOf n f b)).map (dW f b)).length<=_;rw[FW];exact u.ld
 ·show InP (sayOf n f b).1 0 7;rw[M];exact h.me
 ·show O.1=(sayOf n f b).1;rw[M,X,e]
 ·obtain⟨y,r,rfl⟩:=F2.1 H;unfold dW;cases y.1==f.1&&y.2.1==f.2.1&&f.2.2.1==2 with
  |false=>exact z y r
  |true=>exact (z y r).put R
theorem dG.step {n:aa}{f:ah}{b:Int}(h:dG n)(r:bw f)(u:InP b 0 7):dG (dI b n f):=by
 unfold dI;cases f.1==n.1 with
 |true=>exact h.refute r
 |false=>exact h.confirm r u
theorem ui {α A R:Type}(ds:List α)(g:α->α)(S:List α->Nat->A)(u:List α->Option R){step:(A->Option R)->A->Option R}
  (h:∀ (rec:A->Option R) (cur:List α) (i:Nat) (X:i<ds.length),cur.length=ds.length->cur[i]?=some ds[i]->step rec (S cur i)=rec (S (cur.set i (g ds[i])) (i+1)))
  (y:∀ (rec:A->Option R) (cur:List α),cur.length=ds.length->step rec (S cur ds.length)=u cur) {k:Nat} (J:ds.length<k):ae step k (S ds 0)=u (ds.map g):=by
 have:∀ (d i k:Nat) (cur:List α),i+d=ds.length->d<k->cur.length=ds.length->(∀ j,(r:j<ds.length)->cur[j]?=some (if j<i then g ds[j] else ds[j]))->ae step k (S cur i)=u (ds.map g):=by
  intro d;induction d with
  |zero =>
   intro i k cur X J I H;obtain⟨k,rfl⟩:∃ M,k=M+1:=⟨k-1,by omega⟩;have:i=ds.length:=by omega
   subst this;show step (ae step k) _=_;rw[y _ _ I];congr 1;refine List.ext_getElem? λj=>?_
   rw[List.getElem?_map];by_cases r:j<ds.length
   ·rw[H j r,if_pos r,FV r];rfl
   ·rw[Gc (by omega),Gc (by omega)];rfl
  |succ d Y =>
   intro i k cur X J I H;obtain⟨k,rfl⟩:∃ M,k=M+1:=⟨k-1,by omega⟩;have z:i<ds.length:=by omega
   show step (ae step k) _=_;rw[h (ae step k) cur i z I (by rw[H i z,if_neg (by omega)])];refine Y (i+1) k _ (by omega) (by omega) (by rw[HA,I]) λj r=>?_
   rw[HJ];by_cases e:i=j
   ·subst e;rw[if_pos rfl,if_pos (by omega),if_pos (by omega)]
   ·rw[if_neg e,H j r];by_cases O:j<i
    ·rw[if_pos O,if_pos (by omega)]
    ·rw[if_neg O,if_neg (by omega)]
 exact this ds.length 0 k ds (by omega) J rfl (λj r=>by rw[if_neg (by omega),FV r])
theorem mX {α:Type}{cur:List α}{i:Nat}{x:α}(h:cur[i]?=some x):cur.set i x=cur:=by
 obtain⟨r,e⟩:=List.getElem?_eq_some_iff.1 h;rw[<- e,List.set_getElem_self]
theorem uj {by_:List Int}{b:Int}{m:Nat}(z:m<=by_.length)(y:by_.length<=8){R:Type}(G:List Int->Option R) :
  (bif decide ((0:Int)<=0)&&decide ((0:Int)<=(m:Int))&&decide ((m:Int)<=(FK by_:Int))&&true then (bif decide ((FK ([]:List Int)+FK ((by_.take (FM (m:Int))).drop (FM 0)))*8<=am) then (bif decide ((FK ([]++((by_.take (FM (m:Int))).drop (FM 0)))+FK ([b]))*8<=am) then (bif decide ((0:Int)<=(m:Int))&&decide ((m:Int)<=(FK by_:Int))&&decide ((FK by_:Int)<=(FK by_:Int))&&true then (bif decide ((FK (([]++((by_.take (FM (m:Int))).drop (FM 0)))++([b]))+FK ((by_.take (FM (FK by_:Int))).drop (FM (m:Int))))*8<=am) then G ((([]++((by_.take (FM (m:Int))).drop (FM 0)))++([b]))++((by_.take (FM (FK by_:Int))).drop (FM (m:Int)))) else none) else none) else none) else none) else none)=G (by_.take m++[b]++by_.drop m):=by
 rw[decide_eq_true (by omega:(0:Int)<=0),decide_eq_true (by omega:(0:Int)<=(m:Int)),decide_eq_true (by omega:(m:Int)<=(FK by_:Int)),decide_eq_true (by omega:(FK by_:Int)<=(FK by_:Int))];simp only[FN,Gx,GB,FZ,Gi,Gb,cond_true];have r:(by_.take m).length=m:=by rw[GE];omega
 have u:(by_.drop m).length=by_.length-m:=GX;rw[szb _ _ _ (by omega) (by simp only[FT];omega),szb _ _ _ (by omega) (by simp only[FP,FT];omega),szb _ _ _ (by omega) (by simp only[F0,FP,FT];omega)];rfl
theorem yy (K:Nat)(n:aa)(f:ah)(b:Int)(hd:∀ d∈aa.doubts n,lO d.2.2.2)(hl:(aa.doubts n).length<=1048576)(hK:1048577<K):Q167.f K (n,f,b,())=some ((kl n f b,()),()):=by
 simp only[Q167.f,Q167.pre];refine ui (step:=λrec a=>Q167.s0 K (n,f,b,()) (Q167.l1 K (n,f,b,()) rec) rec a) (aa.doubts n) (dW f b) (λu i=>((i:Int),u)) (λu=>some ((gG n (aa.table n) (aa.cast n) u,()),())) ?_ ?_ (by omega)
 ·intro rec u i hi X I;have J:i<u.length:=by omega
  have a1:u[i]=(aa.doubts n)[i]:=by
   rw[FV J]at I;exact Option.some.inj I
  have R:=hd _ (FL hi);simp only[Q167.s0,zcp8];rw[bt (by omega:(i:Int)<(FK u:Int)),af J,ar i (by omega),FN,af J,a1];simp only[cond_true,FJ];generalize a7:(aa.doubts n)[i]=d at R I ⊢;have H:rec (((i+1:Nat):Int),u)=rec (((i+1:Nat):Int),u.set i d):=by rw[mX I]
  unfold dW;by_cases h1:d.1=f.1
  case neg =>
   rw[show (d.1 != f.1)=true by simpa using h1,show (d.1==f.1)=false by simpa using h1];exact H
  by_cases h2:d.2.1=f.2.1
  case neg =>
   rw[show (d.1 != f.1)=false by simpa using h1,show (d.2.1 != f.2.1)=true by simpa using h2,show (d.2.1==f.2.1)=false by simpa using h2,HE];exact H
  by_cases h3:f.2.2.1=2
  case neg =>
   rw[show (d.1 != f.1)=false by simpa using h1,show (d.2.1 != f.2.1)=false by simpa using h2,show (f.2.2.1 != 2)=true by simpa using h3,show (f.2.2.1==2)=false by simpa using h3,HE];exact H
  rw[show (d.1 != f.1)=false by simpa using h1,show (d.2.1 != f.2.1)=false by simpa using h2,show (f.2.2.1 != 2)=false by simpa using h3,show (d.1==f.1)=true by simpa using h1,show (d.2.1==f.2.1)=true by simpa using h2,show (f.2.2.1==2)=true by simpa using h3];simp only[cond_false,Gb,cond_true];have a0:=R.len;have a2:∀ m:Nat,m<=d.2.2.2.length->(∀ j,(M:j<d.2.2.2.length)->j<m->d.2.2.2[j]<b)->(∀ j,(M:j<d.2.2.2.length)->m<=j->b<d.2.2.2[j])->d.2.2.2.take m++[b]++d.2.2.2.drop m=bD (λx:Int=>x) b d.2.2.2:=λm Z lo hi=>gu (k:=λx:Int=>x) Z lo hi
  have:=cG (step:=λr a=>Q167.s1 K (n,f,b,()) rec r a) d.2.2.2.length (λj=>((i:Int),(j:Int),u,d.1,d.2.1,d.2.2.1,d.2.2.2)) (λj=>∃ h:j<d.2.2.2.length,¬ d.2.2.2[j]<b)
   (rec (((i+1:Nat):Int),u.set i (d.1,d.2.1,d.2.2.1,d.2.2.2.take d.2.2.2.length++[b]++d.2.2.2.drop d.2.2.2.length)))
   (λj=>if h:j<d.2.2.2.length then (if d.2.2.2[j]=b then rec (((i+1:Nat):Int),u) else rec (((i+1:Nat):Int),u.set i (d.1,d.2.1,d.2.2.1,d.2.2.2.take j++[b]++d.2.2.2.drop j))) else none) ?_ ?_ d.2.2.2.length K 0 (by omega) (by omega)
  ·rcases this with ⟨a6,he⟩|⟨j,_,M,⟨Y,a8⟩,a4,he⟩
   ·refine Gy he ?_;rw[a2 _ (FX _) (λj M _=>by
     by_cases O:d.2.2.2[j]<b
     ·exact O
     ·exact absurd ⟨M,O⟩ (a6 j (FY _) M)) (λj M Z=>by omega)]
   ·refine Gy he ?_;rw[dif_pos Y];have lo:∀ m,(Z:m<d.2.2.2.length)->m<j->d.2.2.2[m]<b:=λm Z a5=>by
     by_cases O:d.2.2.2[m]<b
     ·exact O
     ·exact absurd ⟨Z,O⟩ (a4 m (FY _) a5)
    by_cases y:d.2.2.2[j]=b
    ·rw[if_pos y,<- gY (k:=λx:Int=>x) R.1 Y y];rw[show d.2.2.2.set j b=d.2.2.2 from mX (by rw[FV Y,y])];exact H
    ·rw[if_neg y,a2 j (by omega) lo (λm Z a3=>by
      rcases GM a3 with h4|rfl
      ·have:=ct.1 R.1 j m (by omega) Z h4;omega
      ·omega)]
  ·intro r j M;simp only[Q167.s1];rw[bt (by omega:(j:Int)<(FK d.2.2.2:Int)),af M,ar j (by omega)];simp only[cond_true,FJ];by_cases O:d.2.2.2[j]<b
   ·left;refine⟨λ⟨_,h⟩=>h O,?_⟩;rw[decide_eq_true O];rfl
   ·right;refine⟨⟨M,O⟩,?_⟩;rw[decide_eq_false O,show ((j:Int)==(FK d.2.2.2:Int))=false by simp;omega,dif_pos M];simp only[cond_false];by_cases y:d.2.2.2[j]=b
    ·rw[if_pos y,show (d.2.2.2[j] != b)=false by simpa using y,ar i (by omega)];rfl
    ·rw[if_neg y,show (d.2.2.2[j] != b)=true by simpa using y];simp only[cond_true];refine (uj (m:=j) (b:=b) (Nat.le_of_lt M) a0 (λz=>(idx u (i:Int)).bind λ_=>(idx u (FM (i:Int):Nat)).bind λ_=>rec (wr .i64 ((i:Int)+1),u.set (FM (i:Int)) (d.1,(d.2.1,(d.2.2.1,z)))))).trans ?_;rw[FN,af J,ar i (by omega)];rfl
  ·intro r;simp only[Q167.s1];rw[aS];simp only[cond_false,beq_self_eq_true,cond_true];refine (uj (b:=b) (FX _) a0 (λz=>(idx u (i:Int)).bind λ_=>(idx u (FM (i:Int):Nat)).bind λ_=>rec (wr .i64 ((i:Int)+1),u.set (FM (i:Int)) (d.1,(d.2.1,(d.2.2.1,z)))))).trans ?_;rw[FN,af J,ar i (by omega)];rfl
 ·intro rec u X;simp only[Q167.s0,zcp8];rw[<- X,aS];rfl
theorem Ac (K:Nat)(n:aa)(f:ah)(h:dG n)(J:bw f)(y:1048577<K):Q166.f K (n,f,())=some ((e8 n f,()),()):=by
 simp only[Q166.f,zcp4];have r:=eP h.say.table h.has;obtain⟨o,O,I⟩:=fT K (aa.table n) n.1 h.say.lt y;rw[show Q103.f K (n.2.2.2.2.2.2.2.2.1,n.1,())=_ from I];simp only[FJ];cases O with
 |no u=>exact absurd h.has (λ⟨g,M,e⟩=>u g M e)
 |at_ j H e =>
  simp only;rw[show idx n.2.2.2.2.2.2.2.2.1 ((j:Nat):Int)=some (aa.table n)[j] from af H,iT h.say.table.2 (FL H) r.2.2 (by rw[e,r.2.1])];simp only[FJ];rw[qI];obtain⟨_,⟨R,X⟩,_⟩:=J;simp only[rb,FJ,e8];cases decide (bP f (aT (aa.table n) n.1)) with
  |false=>rfl
  |true =>
   simp only[FS,cond_false,GU];by_cases z:f.2.1<999
   ·rw[decide_eq_false (by omega:¬ f.2.1>=999),decide_eq_true z,aC (by omega) (by omega)];simp only[cond_false,cond_true];refine (congrArg (λo=>GL o _) (qJ K (gZ n (f.2.1+1)) (n.1,f.2.1+1,1,n.2.2.2.1) n.1 (h.say.inc _) y)).trans ?_;rfl
   ·rw[decide_eq_true (by omega:f.2.1>=999),decide_eq_false z];rfl
theorem wm (K:Nat)(n:aa)(t:List ah)(b:Int)(h:dG n)(I:∀ f∈t,bw f)(J:t.length<=1048576)(z:InP b 0 7)(y:1048577<K):Q168.f K (n,t,b,())=some ((gB n t b,()),()):=by
 refine lw (step:=λrec a=>Q168.s0 K (n,t,b,()) rec a) t (dI b) dG (λm i=>((i:Int),m.1,m.2.1,m.2.2.1,m.2.2.2.1,m.2.2.2.2.1,m.2.2.2.2.2.1,m.2.2.2.2.2.2.1,m.2.2.2.2.2.2.2.1,m.2.2.2.2.2.2.2.2.1,m.2.2.2.2.2.2.2.2.2.1,m.2.2.2.2.2.2.2.2.2.2.1.1,m.2.2.2.2.2.2.2.2.2.2.1.2.1,m.2.2.2.2.2.2.2.2.2.2.1.2.2.1,m.2.2.2.2.2.2.2.2.2.2.1.2.2.2,m.2.2.2.2.2.2.2.2.2.2.2.1,m.2.2.2.2.2.2.2.2.2.2.2.2.1.1,m.2.2.2.2.2.2.2.2.2.2.2.2.1.2.1,m.2.2.2.2.2.2.2.2.2.2.2.2.1.2.2.1,m.2.2.2.2.2.2.2.2.2.2.2.2.1.2.2.2,m.2.2.2.2.2.2.2.2.2.2.2.2.2.1,m.2.2.2.2.2.2.2.2.2.2.2.2.2.2)) (λm=>some ((m,()),())) n h ?_ ?_ (by omega)
 ·intro rec m i H r;have u:=I _ (FL H);refine⟨?_,r.step u z⟩;simp only[Q168.s0,zc286a0,zc3ec45];rw[bt (by omega:(i:Int)<(FK t:Int)),af H,ar i (by omega)];simp only[cond_true,FJ];generalize t[i]=f at u ⊢;unfold dI;cases f.1==m.1 with
  |true =>
   simp only[cond_true];refine (congrArg (λo=>GL o _) (Ac K m f r u y)).trans ?_;rfl
  |false =>
   simp only[cond_false];refine (congrArg (λo=>GL o _) (qJ K m f b r.say y)).trans ?_;simp only[FJ];rw[yy K (sayOf m f b) f b (kJ z r.by_) (iV r.say u).ld y];rfl
 ·intro rec m r;simp only[Q168.s0,zc286a0,zc3ec45];rw[aS];rfl
abbrev flE (n:aa):=(n.1,n.2.1,n.2.2.1,n.2.2.2.1,n.2.2.2.2.1,n.2.2.2.2.2.1,n.2.2.2.2.2.2.1,n.2.2.2.2.2.2.2.1,n.2.2.2.2.2.2.2.2.1,n.2.2.2.2.2.2.2.2.2.1,n.2.2.2.2.2.2.2.2.2.2.1.1,n.2.2.2.2.2.2.2.2.2.2.1.2.1,n.2.2.2.2.2.2.2.2.2.2.1.2.2.1,n.2.2.2.2.2.2.2.2.2.2.1.2.2.2,n.2.2.2.2.2.2.2.2.2.2.2.1,n.2.2.2.2.2.2.2.2.2.2.2.2.1.1,n.2.2.2.2.2.2.2.2.2.2.2.2.1.2.1,n.2.2.2.2.2.2.2.2.2.2.2.2.1.2.2.1,n.2.2.2.2.2.2.2.2.2.2.2.2.1.2.2.2,n.2.2.2.2.2.2.2.2.2.2.2.2.2.1,n.2.2.2.2.2.2.2.2.2.2.2.2.2.2)
def dk {α:Type}(r:α->α->Bool)(x:α):List α->List α->List α
 |[],B=>x::B
 |y::A,B=>bif r x y then dk r x A (y::B) else (y::A).reverse++x::B
def cI {α:Type}(r:α->α->Bool):List α->List α->List α
 |done,[]=>done
 |done,x::u=>cI r (dk r x done.reverse []) u
theorem p9 {α:Type}(r:α->α->Bool)(x:α):∀ (A B C:List α),dk r x A (B++C)=dk r x A B++C
 |[],B,C=>rfl
 |y::A,B,C=>by
  simp only[dk];cases r x y with
  |true=>exact p9 r x A (y::B) C
  |false=>simp
theorem qa {α:Type}(r:α->α->Bool)(x:α):∀ (A B:List α),(dk r x A B).length=A.length+B.length+1
 |[],B=>by simp[dk]
 |y::A,B=>by
  simp only[dk];cases r x y with
  |true=>simp only[cond_true];rw[qa r x A (y::B)];simp;omega
  |false=>simp;omega
theorem nW {α:Type}(r:α->α->Bool)(x:α):∀ (A B:List α),(dk r x A B).Perm (x::(A.reverse++B))
 |[],B=>by simp[dk]
 |y::A,B=>by
  simp only[dk];cases r x y with
  |true=>exact (nW r x A (y::B)).trans (by simp)
  |false=>simp only[cond_false];exact HM
theorem mY {α:Type}(r:α->α->Bool):∀ (xs done:List α),(cI r done xs).Perm (done++xs)
 |[],done=>by simp[cI]
 |x::xs,done=>by
  simp only[cI];refine (mY r xs _).trans ?_;have:=nW r x done.reverse [];simp only[F4,FU]at this;exact (this.append_right xs).trans (by simpa using (HM (a:=x) (l₁:=done) (l₂:=xs)).symm)
def kr {α:Type}(r:α->α->Bool)(xs:List α):Prop:=xs.Pairwise λa b=>r b a=false
theorem lP {α:Type}(r:α->α->Bool)(H:∀ a b c,r a b=false->r b c=false->r a c=false)(x:α) :
  ∀ (A B:List α),kr r A.reverse->dk r x A B=(A.reverse.filter λy=>!r x y)++x::((A.reverse.filter λy=>r x y)++B)
 |[],B,_=>rfl
 |y::A,B,h=>by
  simp only[dk];have O:kr r A.reverse:=by
   unfold kr at h ⊢;rw[GT,GR]at h;exact h.1
  cases z:r x y with
  |true =>
   simp only[cond_true];rw[lP r H x A (y::B) O];simp[z,GZ]
  |false =>
   have I:∀ a∈A.reverse,r x a=false:=λa u=>by
    unfold kr at h;rw[GT,GR]at h;exact H x y a z (h.2.2 a u y (by simp))
   simp only[cond_false];have J:(y::A).reverse.filter (λy=>!r x y)=(y::A).reverse:=GI.2 λa u=>by
    rw[GT,GP,GF]at u;rcases u with u|rfl
    ·rw[I a u];rfl
    ·rw[z];rfl
   have M:(y::A).reverse.filter (λy=>r x y)=[]:=Ga.2 λa u=>by
    rw[GT,GP,GF]at u;rcases u with u|rfl
    ·rw[I a u];simp
    ·rw[z];simp
   rw[J,M];rfl
theorem xb {α:Type}(r:α->α->Bool)(I:∀ a b c,r a b=false->r b c=false->r a c=false)(u:∀ a b,r a b=true->r b a=false)(x:α)(A:List α)(h:kr r A):kr r (dk r x A.reverse []):=by
 rw[lP r I x A.reverse [] (by rwa [F4])];unfold kr at h ⊢;simp only[F4,FU];rw[GR];refine⟨h.filter _,?_,?_⟩
 ·rw[F3];refine⟨λa y=>?_,h.filter _⟩;exact u _ _ (by simpa using (FQ.1 y).2)
 ·intro a y b z;have H:r x a=false:=by simpa using (FQ.1 y).2
  rcases GK.1 z with rfl|z
  ·exact H
  ·have J:r x b=true:=by simpa using (FQ.1 z).2
   exact I b x a (u _ _ J) H
theorem nX {α:Type}(r:α->α->Bool)(y:∀ a b c,r a b=false->r b c=false->r a c=false)(u:∀ a b,r a b=true->r b a=false):∀ (xs done:List α),kr r done->kr r (cI r done xs)
 |[],done,h=>h
 |x::xs,done,h=>nX r y u xs _ (xb r y u x done h)
theorem po {α:Type}(O:α->α->Bool):∀ {u H:List α},u.Perm H->kr O u->H.Pairwise (λa b=>O a b=true)->u=H
 |u,[],r,_,_=>r.eq_nil
 |[],z::H,r,_,_=>absurd r.symm.eq_nil (by simp)
 |y::u,z::H,r,I,J=>by
  unfold kr at I;rw[F3]at I J;have e:y=z:=by
   rcases GK.1 (r.mem_iff.1 (HI ..)) with h|h
   ·exact h
   ·have R:=J.1 y h;rcases GK.1 (r.symm.mem_iff.1 (HI ..)) with M|M
    ·exact M.symm
    ·rw[I.1 z M]at R;cases R
  subst e;rw[po O r.cons_inv I.2 J.2]
abbrev SoR (α:Type):=Unit×(List α×Unit)
theorem xc {α R:Type}(H:α->α->Bool)(i:Int)(r:List α×Int->Option R){step:(List α×Int×Int->Option R)->List α×Int×Int->Option R}
  (h:∀ (rec:List α×Int×Int->Option R) (A:List α) (y x:α) (B:List α),A.length+B.length<=1048576->step rec (A++y::x::B,i,((A.length+1:Nat):Int))=bif H x y then rec (A++x::y::B,i,(A.length:Int)) else r (A++y::x::B,wr .i64 (i+1)))
  (O:∀ (rec:List α×Int×Int->Option R) (M:List α),step rec (M,i,0)=r (M,wr .i64 (i+1))) :
  ∀ (A B:List α) (x:α) (k:Nat),A.length+B.length<=1048576->A.length<k->ae step k (A.reverse++x::B,i,(A.length:Int))=r (dk H x A B,wr .i64 (i+1)):=by
 intro A;induction A with
 |nil =>
  intro B x k J u;obtain⟨k,rfl⟩:∃ z,k=z+1:=⟨k-1,by simp at u;omega⟩;exact O (ae step k) (x::B)
 |cons y A X =>
  intro B x k J u;simp only[FP]at u J;obtain⟨k,rfl⟩:∃ z,k=z+1:=⟨k-1,by omega⟩;have I:=h (ae step k) A.reverse y x B (by simp;omega);simp only[Gk]at I;show step (ae step k) _=_;rw[GT,GG];simp only[FP,HN,FZ,dk];rw[I];cases H x y with
  |true=>exact X (y::B) x k (by simp;omega) (by omega)
  |false=>simp
theorem vF {α:Type}(r:α->α->Bool){step:(List α×Int->Option (SoR α))->List α×Int->Option (SoR α)}(n:Nat)(O:n<=1048576)
  (h:∀ (rec:List α×Int->Option (SoR α)) (done:List α) (x:α) (xs:List α),done.length+1+xs.length=n->step rec (done++x::xs,(done.length:Int))=rec (dk r x done.reverse xs,wr .i64 ((done.length:Int)+1)))
  (J:∀ (rec:List α×Int->Option (SoR α)) (I:List α) (i:Int),(n:Int)<=i->step rec (I,i)=some ((),(I,()))) :
  ∀ (xs done:List α) (k:Nat),done.length+xs.length=n->xs.length<k->ae step k (done++xs,(done.length:Int))=some ((),(cI r done xs,())):=by
 intro xs;induction xs with
 |nil =>
  intro done k u H;obtain⟨k,rfl⟩:∃ y,k=y+1:=⟨k-1,by omega⟩;show step (ae step k) _=_;rw[J _ _ _ (by simp at u;omega)];simp[cI]
 |cons x xs M =>
  intro done k u H;simp only[FP]at H u;obtain⟨k,rfl⟩:∃ y,k=y+1:=⟨k-1,by omega⟩;show step (ae step k) _=_;rw[h _ _ _ _ (by omega),ar _ (by omega)];have e:dk r x done.reverse xs=dk r x done.reverse []++xs:=p9 r x done.reverse [] xs;have z:(dk r x done.reverse []).length=done.length+1:=by rw[qa];simp
  rw[e,<- z];exact M _ k (by rw[z];omega) (by omega)
theorem Ae {α:Type}(u:α->α->Bool){step:(List α×Int->Option (SoR α))->List α×Int->Option (SoR α)}(xs:List α)(I:xs.length<=1048576)
  (h:∀ (rec:List α×Int->Option (SoR α)) (done:List α) (x:α) (r:List α),done.length+1+r.length=xs.length->step rec (done++x::r,(done.length:Int))=rec (dk u x done.reverse r,wr .i64 ((done.length:Int)+1)))
  (y:∀ (rec:List α×Int->Option (SoR α)) (H:List α) (i:Int),(xs.length:Int)<=i->step rec (H,i)=some ((),(H,()))) {k:Nat} (z:xs.length<k) :
  ae step k (xs,1)=some ((),(cI u [] xs,())):=by
 cases xs with
 |nil =>
  obtain⟨k,rfl⟩:∃ J,k=J+1:=⟨k-1,by simp at z;omega⟩;exact y (ae step k) [] 1 (by simp)
 |cons x xs =>
  simp only[FP]at z;have:=vF u (xs.length+1) (by simpa using I) h y xs [x] k (by simp;omega) (by omega);exact this
theorem rL {α:Type}(A B:List α)(x:α):idx (A++x::B) (A.length:Int)=some x:=by
 rw[oV];simp
theorem uk {α:Type}(A B:List α)(y x:α):idx (A++y::x::B) ((A.length+1:Nat):Int)=some x:=by
 rw[oV];simp[List.getElem?_append_right]
theorem wn {α:Type}(A B:List α)(x v:α):(A++x::B).set A.length v=A++v::B:=by simp
theorem ul {α:Type}(A B:List α)(y x v:α):(A++y::x::B).set (A.length+1) v=A++y::v::B:=by
 simp[HD]
theorem vG {α R:Type}(P:α->Prop)(M:α->α->Bool)(i:Int)(r:List α×Int->Option R){step:(List α×Int×Int->Option R)->List α×Int×Int->Option R}
  (h:∀ (rec:List α×Int×Int->Option R) (A:List α) (y x:α) (B:List α),P y->P x->A.length+B.length<=1048576->step rec (A++y::x::B,i,((A.length+1:Nat):Int))=bif M x y then rec (A++x::y::B,i,(A.length:Int)) else r (A++y::x::B,wr .i64 (i+1)))
  (Z:∀ (rec:List α×Int×Int->Option R) (Y:List α),step rec (Y,i,0)=r (Y,wr .i64 (i+1))) :
  ∀ (A B:List α) (x:α) (k:Nat),(∀ y∈A,P y)->P x->A.length+B.length<=1048576->A.length<k->ae step k (A.reverse++x::B,i,(A.length:Int))=r (dk M x A B,wr .i64 (i+1)):=by
 intro A;induction A with
 |nil =>
  intro B x k u I X H;obtain⟨k,rfl⟩:∃ J,k=J+1:=⟨k-1,by simp at H;omega⟩;exact Z (ae step k) (x::B)
 |cons y A ih =>
  intro B x k u I X H;simp only[FP]at H X;obtain⟨k,rfl⟩:∃ J,k=J+1:=⟨k-1,by omega⟩;have O:=h (ae step k) A.reverse y x B (u y (by simp)) I (by simp;omega);simp only[Gk]at O;show step (ae step k) _=_;rw[GT,GG];simp only[FP,HN,FZ,dk];rw[O];cases M x y with
  |true=>exact ih (y::B) x k (λz hz=>u z (by simp[hz])) I (by simp;omega) (by omega)
  |false=>simp
theorem um {α:Type}(P:α->Prop)(r:α->α->Bool){step:(List α×Int->Option (SoR α))->List α×Int->Option (SoR α)}(n:Nat)(hn:n<=1048576)
  (h:∀ (rec:List α×Int->Option (SoR α)) (done:List α) (x:α) (xs:List α),(∀ y∈done,P y)->P x->done.length+1+xs.length=n->step rec (done++x::xs,(done.length:Int))=rec (dk r x done.reverse xs,wr .i64 ((done.length:Int)+1)))
  (Z:∀ (rec:List α×Int->Option (SoR α)) (Y:List α) (i:Int),(n:Int)<=i->step rec (Y,i)=some ((),(Y,()))) :
  ∀ (xs done:List α) (k:Nat),(∀ y∈done,P y)->(∀ y∈xs,P y)->done.length+xs.length=n->xs.length<k->ae step k (done++xs,(done.length:Int))=some ((),(cI r done xs,())):=by
 intro xs;induction xs with
 |nil =>
  intro done k I H J X;obtain⟨k,rfl⟩:∃ O,k=O+1:=⟨k-1,by omega⟩;show step (ae step k) _=_;rw[Z _ _ _ (by simp at J;omega)];simp[cI]
 |cons x xs ih =>
  intro done k I H J X;simp only[FP]at X J;obtain⟨k,rfl⟩:∃ O,k=O+1:=⟨k-1,by omega⟩;show step (ae step k) _=_;rw[h _ _ _ _ I (H x (by simp)) (by omega),ar _ (by omega)];have e:dk r x done.reverse xs=dk r x done.reverse []++xs:=p9 r x done.reverse [] xs;have R:(dk r x done.reverse []).length=done.length+1:=by rw[qa];simp
  rw[e,<- R];refine ih _ k (λz M=>?_) (λz M=>H z (by simp[M])) (by rw[R];omega) (by omega);have u:=(nW r x done.reverse []).mem_iff.1 M;simp only[F4,FU,GK]at u;rcases u with rfl|u
  ·exact H z (by simp)
  ·exact I z u
theorem yB {α:Type}(P:α->Prop)(z:α->α->Bool){step:(List α×Int->Option (SoR α))->List α×Int->Option (SoR α)}(xs:List α)(I:∀ y∈xs,P y)(O:xs.length<=1048576)
  (h:∀ (rec:List α×Int->Option (SoR α)) (done:List α) (x:α) (r:List α),(∀ y∈done,P y)->P x->done.length+1+r.length=xs.length->step rec (done++x::r,(done.length:Int))=rec (dk z x done.reverse r,wr .i64 ((done.length:Int)+1)))
  (H:∀ (rec:List α×Int->Option (SoR α)) (M:List α) (i:Int),(xs.length:Int)<=i->step rec (M,i)=some ((),(M,()))) {k:Nat} (J:xs.length<k) :
  ae step k (xs,1)=some ((),(cI z [] xs,())):=by
 cases xs with
 |nil =>
  obtain⟨k,rfl⟩:∃ R,k=R+1:=⟨k-1,by simp at J;omega⟩;exact H (ae step k) [] 1 (by simp)
 |cons x xs =>
  simp only[FP]at J;have:=um P z (xs.length+1) (by simpa using O) h H xs [x] k (λy u=>I y (by simpa using .inl (by simpa using u))) (λy u=>I y (by simp[u])) (by simp;omega) (by omega);exact this
def ltZ (a b:Int):Bool:=decide (a<b)
theorem Cv (K:Nat)(a b:Int):Q61.f K (a,b,())=some ((ltZ a b,()),()):=by
 simp only[Q61.f,Q19.f,ltZ];simp
theorem Af (K:Nat)(xs:List Int)(H:Int×Int×Unit->Option Int)(I:Int->Int->Bool)(P:Int->Prop)(X:∀ y∈xs,P y)(hφ:∀ y z,P y->P z->∃ c,H (y,z,())=some c/\decide (c<0)=I y z)(hx:xs.length<=1048576)(hK:1048577<K) :
  Q122.f K (xs,0,(xs.length:Int),H,())=some ((),(cI I [] xs,())):=by
 refine yB P (step:=λrec a=>Q122.s0 K (xs,0,(xs.length:Int),H,()) (Q122.l1 K (xs,0,(xs.length:Int),H,()) rec) rec a) I xs X hx ?_ ?_ (by omega)
 ·intro rec done x r J M hl;simp only[Q122.s0];rw[decide_eq_true (by omega:((done.length:Int))<(xs.length:Int))];simp only[cond_true];have:=vG P I (done.length:Int) rec (step:=λu a=>Q122.s1 K (xs,0,(xs.length:Int),H,()) rec u a) ?_ ?_ done.reverse r x K (λy O=>J y (by simpa using O)) M (by simp;omega) (by simp;omega)
  ·rw[F4,Gk]at this;exact this
  ·intro u A y z B O hz Z;simp only[Q122.s1];have R:wr .i64 (((A.length+1:Nat):Int)-1)=(A.length:Int):=(aC (by omega) (by omega)).trans (by omega);rw[decide_eq_true (by omega:((A.length+1:Nat):Int)>0)];obtain⟨c,Y,J⟩:=hφ z y hz O;simp only[cond_true,R,FN,uk,rL,FJ,Y,J,ul,wn]
  ·intro u ys;simp only[Q122.s1];rw[decide_eq_false (by omega:¬ (0:Int)>0)];rfl
 ·intro rec ys i hi;simp only[Q122.s0];rw[decide_eq_false (by omega:¬ i<(xs.length:Int))];rfl
theorem Ag (K:Nat)(xs:List Int)(H:Int×Int×Unit->Option Int)(u:Int->Int->Bool)(P:Int->Prop)(J:∀ y∈xs,P y)(hφ:∀ y z,P y->P z->∃ c,H (y,z,())=some c/\decide (c<0)=u y z)(R:xs.length<=19)(I:1048577<K) :
  Q124.f K (xs,H,())=some ((),(cI u [] xs,())):=by
 simp only[Q124.f];have:Q123.f K (xs,(xs.length:Int),H,())=some ((),(cI u [] xs,())):=by
  obtain⟨k,rfl⟩:∃ O,K=O+1:=⟨K-1,by omega⟩;show Q123.s0 _ _ _ _ _=_;simp only[Q123.s0];rw[decide_eq_false (by omega:¬ (20:Int)<=(xs.length:Int))];simp only[cond_false];rw[Af (k+1) xs H u P J hφ (by omega) I];simp only[FJ];have M:∀ (r:Q123.A1->Option Q123.Res),Q123.s1 (k+1) (xs,(xs.length:Int),H,()) (Q123.l2 (k+1) (xs,(xs.length:Int),H,()) r) r (cI u [] xs,20)=some ((),(cI u [] xs,())):=by
   intro r;simp only[Q123.s1];rw[decide_eq_false (by omega:¬ (20:Int)<(xs.length:Int))];rfl
  exact M _
 rw[this];rfl
theorem Ah (K:Nat)(xs:List Int)(J:xs.length<=1048576)(O:1048577<K) :
  Q77.f K (xs,0,(xs.length:Int),())=some ((),(cI ltZ [] xs,())):=by
 refine Ae (step:=λrec a=>Q77.s0 K (xs,0,(xs.length:Int),()) (Q77.l1 K (xs,0,(xs.length:Int),()) rec) rec a) ltZ xs J ?_ ?_ (by omega)
 ·intro rec done x r X;simp only[Q77.s0];rw[decide_eq_true (by omega:((done.length:Int))<(xs.length:Int))];simp only[cond_true];have:=xc ltZ (done.length:Int) rec (step:=λu a=>Q77.s1 K (xs,0,(xs.length:Int),()) rec u a) ?_ ?_ done.reverse r x K (by simp;omega) (by simp;omega)
  ·rw[F4,Gk]at this;exact this
  ·intro u A y z B I;simp only[Q77.s1];have H:wr .i64 (((A.length+1:Nat):Int)-1)=(A.length:Int):=(aC (by omega) (by omega)).trans (by omega);rw[decide_eq_true (by omega:((A.length+1:Nat):Int)>0)];simp only[cond_true,H,FN,uk,rL,FJ,ul,wn];rw[show Q61.f K (z,y,())=_ from Cv K z y];rfl
  ·intro u M;simp only[Q77.s1];rw[decide_eq_false (by omega:¬ (0:Int)>0)];rfl
 ·intro rec M i R;simp only[Q77.s0];rw[decide_eq_false (by omega:¬ i<(xs.length:Int))];rfl
theorem un (K:Nat)(xs:List Int)(H:xs.length<=12)(r:1048577<K) :
  Q83.f K (xs,())=some ((),(cI ltZ [] xs,())):=by
 simp only[Q83.f,Q76.f];obtain⟨l,u⟩:∃ l:Int,Q75.f K (wr .u64 (xs.length:Int),())=some ((l,()),()):=by
  have e:wr .u64 (xs.length:Int)=(xs.length:Int):=by
   show IntKind.u64.wrap _=_;have z:IntKind.u64.wrap (xs.length:Int)=(xs.length:Int) % 18446744073709551616:=by simp[IntKind.wrap,IntKind.bits,IntKind.signed]
   rw[z];omega
  rw[e];generalize J:xs.length=n at H;have:n=0\/n=1\/n=2\/n=3\/n=4\/n=5\/n=6\/n=7\/n=8\/n=9\/n=10\/n=11\/n=12:=by omega
  rcases this with rfl|rfl|rfl|rfl|rfl|rfl|rfl|rfl|rfl|rfl|rfl|rfl|rfl
  ·exact⟨0,by kernel_rfl⟩
  ·exact⟨1,by kernel_rfl⟩
  ·exact⟨2,by kernel_rfl⟩
  ·exact⟨2,by kernel_rfl⟩
  ·exact⟨3,by kernel_rfl⟩
  ·exact⟨3,by kernel_rfl⟩
  ·exact⟨3,by kernel_rfl⟩
  ·exact⟨3,by kernel_rfl⟩
  ·exact⟨4,by kernel_rfl⟩
  ·exact⟨4,by kernel_rfl⟩
  ·exact⟨4,by kernel_rfl⟩
  ·exact⟨4,by kernel_rfl⟩
  ·exact⟨4,by kernel_rfl⟩
 rw[u];simp only[FJ];have:Q82.f K (xs,0,(xs.length:Int),l,())=some ((),(cI ltZ [] xs,())):=by
  obtain⟨k,rfl⟩:∃ I,K=I+1:=⟨K-1,by omega⟩;have y:∀ (rec:Q82.A0->Option Q82.Res) (a:Q82.A0),Q82.s0 (k+1) (xs,0,(xs.length:Int),l,()) rec a=some ((),(cI ltZ [] xs,())):=by
   intro rec a;simp only[Q82.s0];have e:wr .i64 ((xs.length:Int)-0)=(xs.length:Int):=(aC (by omega) (by omega)).trans (by omega);rw[e,decide_eq_true (by omega:(xs.length:Int)<=12)];simp only[cond_true];rw[Ah (k+1) xs (by omega) r];rfl
  exact y (λ_=>none) ()
 rw[this];rfl
def eC (l:List aO)(i:Int):Int:=((l[i.toNat]?).map (·.2)).getD 0
def ltL (l:List aO)(a b:Int):Bool:=decide (eC l b<eC l a)
def lt2 (l:List aO)(a b:Int):Prop:=eC l b<eC l a\/(eC l a=eC l b/\a<b)
def cL (n:Nat):List Int:=(List.range n).map λ (i:Nat)=>(i:Int)
def bG (l:List aO):List Int:=cI (ltL l) [] (cL l.length)
theorem iX {n:Nat}{i:Int}:i∈cL n<->0<=i/\i<n:=by
 unfold cL;rw[F2];constructor
 ·rintro⟨j,hj,rfl⟩;have:=HU.1 hj;omega
 ·rintro⟨h0,h1⟩;exact⟨i.toNat,HU.2 (by omega),by omega⟩
theorem jN (n:Nat):(cL n).Pairwise (·<·):=by
 unfold cL;rw[F7];exact List.pairwise_lt_range.imp λh=>by omega
theorem dX {l:List aO}{i:Nat}(h:i<l.length):eC l (i:Int)=l[i].2:=by
 unfold eC;rw[FN,FV h];rfl
theorem uo (l:List aO):∀ (xs done:List Int),done.Pairwise (lt2 l)->(∀ a∈done,∀ b∈xs,a<b)->xs.Pairwise (·<·)->(cI (ltL l) done xs).Pairwise (lt2 l)
 |[],done,h,_,_=>h
 |x::xs,done,h,H,R=>by
  have z:=F3.1 R;have O:kr (ltL l) done:=h.imp λ {a b} J=>by
   unfold ltL;rw[decide_eq_false_iff_not];rcases J with y|⟨y,_⟩ <;> omega
  have e:=lP (ltL l) (λa b c y I=>by
   unfold ltL at y I ⊢;rw[decide_eq_false_iff_not]at y I ⊢;omega) x done.reverse [] (by rw[F4];exact O)
  rw[F4,FU]at e;simp only[cI];rw[e];refine uo l xs _ ?_ ?_ z.2
  ·rw[GR,F3];refine⟨h.filter _,⟨λb u=>?_,h.filter _⟩,λa r b u=>?_⟩
   ·have y:ltL l x b=true:=by simpa using (FQ.1 u).2
    exact .inl (by simpa[ltL]using y)
   ·have y:ltL l x a=false:=by simpa using (FQ.1 r).2
    have X:¬ eC l a<eC l x:=by simpa[ltL]using y
    have M:=H a (FQ.1 r).1 x (by simp);rcases GK.1 u with rfl|u
    ·by_cases I:eC l b<eC l a
     ·exact .inl I
     ·exact .inr ⟨by omega,M⟩
    ·have I:ltL l x b=true:=by simpa using (FQ.1 u).2
     have Y:eC l b<eC l x:=by simpa[ltL]using I
     exact .inl (by omega)
  ·intro a r b u;rcases GP.1 r with r|r
   ·exact H a (FQ.1 r).1 b (by simp[u])
   ·rcases GK.1 r with rfl|r
    ·exact z.1 b u
    ·exact H a (FQ.1 r).1 b (by simp[u])
theorem qN (l:List aO):(bG l).Pairwise (lt2 l):=uo l _ [] List.Pairwise.nil (by simp) (jN _)
theorem mZ (l:List aO):(bG l).Perm (cL l.length):=by
 unfold bG;simpa using mY (ltL l) (cL l.length) []
theorem jn {l:List aO}{i:Int}:i∈bG l<->0<=i/\i<l.length:=by rw[(mZ l).mem_iff,iX]
theorem yC (l:List aO):(bG l).length=l.length:=by rw[(mZ l).length_eq];simp[cL]
theorem vH (l:List aO):(bG l).Nodup:=(mZ l).nodup_iff.2 ((jN _).imp λh=>by omega)
def dB (T:List Int)(n:Nat):List Bool:=(cL n).map λi=>decide (i∈T)
theorem fF (T:List Int)(n:Nat):(dB T n).length=n:=by simp[dB,cL]
theorem jo (T:List Int){n i:Nat}(h:i<n):(dB T n)[i]'(by rw[fF];exact h)=decide ((i:Int)∈T):=by
 simp[dB,cL]
theorem yD {T:List Int}{n b:Nat}(y:b<n):(dB T n).set b true=dB (T++[(b:Int)]) n:=by
 refine Gt (by rw[HA,fF,fF]) λi u r=>?_
 rw[fF]at r;rw[HO,jo _ r];by_cases h:b=i
 ·subst h;rw[if_pos rfl,jo _ r];simp
 ·rw[if_neg h,jo _ r];have:¬ (i:Int)=(b:Int):=by omega
  simp[this]
def qO (l:List aO)(T:List Int)(i:Nat)(r:Int):Prop :=
 (r=-1/\∀ j:Nat,j<i->(j:Int)∈T)\/(0<=r/\r<i/\r∉T/\∀ j:Nat,j<i->(j:Int)∉T->(j:Int)≠r->lt2 l r (j:Int))
theorem BF (K:Nat)(l:List aO)(T:List Int)(hl:l.length<=1048576):∀ (d i k:Nat) (r:Int),i+d=l.length->d<k->qO l T i r ->
  ∃ b:Int,ae (λrec a=>Q174.s0 K (l,dB T l.length,()) rec a) k (r,(i:Int))=some ((b,()),())/\qO l T l.length b:=by
 intro d;induction d with
 |zero =>
  intro i k r hi hk Y;obtain⟨k,rfl⟩:∃ k',k=k'+1:=⟨k-1,by omega⟩;have:i=l.length:=by omega
  subst this;refine⟨r,?_,Y⟩;show Q174.s0 K (l,dB T l.length,()) _ _=_;simp only[Q174.s0,aS];rfl
 |succ d ih =>
  intro i k r hi hk Y;obtain⟨k,rfl⟩:∃ k',k=k'+1:=⟨k-1,by omega⟩;have z:i<l.length:=by omega
  have J:∀ r,qO l T (i+1) r->∃ b:Int,ae (λrec a=>Q174.s0 K (l,dB T l.length,()) rec a) k (r,((i+1:Nat):Int))=some ((b,()),())/\qO l T l.length b:=λr h=>ih (i+1) k r (by omega) (by omega) h
  show ∃ b:Int,Q174.s0 K (l,dB T l.length,()) (ae (λrec a=>Q174.s0 K (l,dB T l.length,()) rec a) k) (r,(i:Int))=_/\_;generalize ae (λrec a=>Q174.s0 K (l,dB T l.length,()) rec a) k=REC at J ⊢;simp only[Q174.s0];rw[bt (by omega:(i:Int)<(FK l:Int)),af (show i<(dB T l.length).length by rw[fF];exact z),jo T z,ar i (by omega)];simp only[cond_true,FJ];by_cases O:(i:Int)∈T
  ·rw[decide_eq_true O];simp only[FS,cond_false];refine J r ?_;rcases Y with ⟨rfl,h⟩|⟨h0,h1,h2,X⟩
   ·refine .inl ⟨rfl,λj Z=>?_⟩;by_cases y:j=i
    ·subst y;exact O
    ·exact h j (by omega)
   ·refine .inr ⟨h0,by omega,h2,λj Z u I=>?_⟩;by_cases y:j=i
    ·subst y;exact absurd O u
    ·exact X j (by omega) u I
  ·rw[decide_eq_false O];simp only[F9,cond_true];rcases Y with ⟨rfl,h⟩|⟨h0,h1,h2,X⟩
   ·rw[show decide ((-1:Int)<0)=true from rfl];refine J (i:Int) (.inr ⟨by omega,by omega,O,λj Z u I=>?_⟩);exact absurd (h j (by omega)) u
   ·rw[decide_eq_false (by omega:¬ r<0)];obtain⟨b,rfl⟩:=FO h0;have H:b<l.length:=by omega
    simp only[cond_false];rw[af z,af H];simp only[FJ];by_cases M:l[i].2>l[b].2
    ·rw[decide_eq_true M];refine J (i:Int) (.inr ⟨by omega,by omega,O,λj Z u I=>?_⟩);have y:j<i:=by omega
     have a1:j<l.length:=by omega
     by_cases R:(j:Int)=(b:Int)
     ·rw[R];exact .inl (by rw[dX z,dX H];exact M)
     ·have:=X j y u R;rcases this with h4|⟨h4,_⟩
      ·exact .inl (by rw[dX H]at h4;rw[dX z];omega)
      ·exact .inl (by rw[dX H]at h4;rw[dX z];omega)
    ·rw[decide_eq_false M];refine J (b:Int) (.inr ⟨by omega,by omega,h2,λj Z u I=>?_⟩);by_cases y:j=i
     ·subst y;by_cases a0:eC l (b:Int)=eC l (j:Int)
      ·exact .inr ⟨a0,h1⟩
      ·refine .inl ?_;rw[dX z,dX H]at *;omega
     ·exact X j (by omega) u I
theorem Cw (K:Nat)(l:List aO)(n:Nat)(hl:l.length<=1048576)(hK:1048577<K):Q174.f K (l,dB ((bG l).take n) l.length,())=some ((((bG l)[n]?).getD (-1),()),()):=by
  obtain⟨b,e,Z⟩:=BF K l ((bG l).take n) hl l.length 0 K (-1) (by omega) (by omega) (.inl ⟨rfl,λj H=>by omega⟩);have:b=((bG l)[n]?).getD (-1):=by
    by_cases I:n<(bG l).length
    · rw[FV I]
      show b=(bG l)[n];have hm:(bG l)[n]∉(bG l).take n:=λh=>by
        obtain⟨j,H,e⟩:=FR h;rw[GE]at H;rw[Gl]at e;have:=GO.1 (qN l) j n (by omega) I (by omega);rw[e]at this;rcases this with u|⟨_,u⟩ <;> omega
      have hr:=jn.1 (FL I);obtain⟨m,r⟩:=FO hr.1;rcases Z with ⟨rfl,h⟩|⟨M,O,y,h3⟩
      · have:=h m (by omega)
        rw[<- r]at this;exact absurd this hm
      · by_cases X:b=(bG l)[n]
        · exact X
        · exfalso
          have z:=h3 m (by omega) (by rw[<- r];exact hm) (by rw[<- r];exact λh=>X h.symm);rw[<- r]at z;have R:b∈bG l:=jn.2 ⟨M,O⟩;obtain⟨j,H,J⟩:=FR R;have Y:n<j:=by
            rcases Ge j n with h|h|h
            · exact absurd (List.mem_take_iff_getElem.2 ⟨j,by omega,J⟩) y
            · subst h;exact absurd J.symm X
            · exact h
          have u:=GO.1 (qN l) n j I H Y;rw[J]at u;rcases z with z|⟨z,h6⟩ <;> rcases u with u|⟨u,h7⟩ <;> omega
    · rw[Gc (by omega)]
      show b=-1;rcases Z with ⟨rfl,_⟩|⟨M,O,y,_⟩
      · rfl
      · exfalso
        rw[GC (by omega)]at y;exact y (jn.2 ⟨M,O⟩)
  rw[<- this];exact e
def ce (l:List aO):List Int:=(bG l).take 3
def hH (l:List aO)(i:Int):aO:=(l[i.toNat]?).getD ((0,0,0,false),0)
def dY (l:List aO)(T:List Int)(i:Int):aO:=bif decide (i∈T) then ((hH l i).1,(hH l i).2-1) else hH l i
def eL (l:List aO)(T:List Int)(n:Nat):List ah:=((cL n).filter λi=>decide (i∈T)).map λi=>(hH l i).1
def gH (l:List aO)(T:List Int)(n:Nat):List aO:=(cL n).map (dY l T)
def dM (l:List aO)(T:List Int)(n:Nat):List aO:=(gH l T n).filter λx=>decide (x.2>0)
theorem cJ {l:List aO}{i:Nat}(h:i<l.length):hH l (i:Int)=l[i]:=by
 unfold hH;rw[FN,FV h];rfl
theorem nY (n:Nat):cL (n+1)=cL n++[(n:Int)]:=by
 unfold cL;rw[List.range_succ,Gv];rfl
theorem xd (l:List aO)(T:List Int)(n:Nat):eL l T (n+1)=eL l T n++(bif decide ((n:Int)∈T) then [(hH l (n:Int)).1] else []):=by
 unfold eL;rw[nY,GZ,Gv,GA];cases decide ((n:Int)∈T) <;> rfl
theorem xe (l:List aO)(T:List Int)(n:Nat):dM l T (n+1)=dM l T n++(bif decide ((dY l T (n:Int)).2>0) then [dY l T (n:Int)] else []):=by
 unfold dM gH;rw[nY,Gv,GZ,G3,GA];cases decide ((dY l T (n:Int)).2>0) <;> rfl
theorem yE (l:List aO)(T:List Int)(n:Nat):(eL l T n).length<=n:=by
 unfold eL;rw[FW];refine F1 (F8 _ _) ?_;simp[cL]
theorem yF (l:List aO)(T:List Int)(n:Nat):(dM l T n).length<=n:=by
 unfold dM;refine F1 (F8 _ _) ?_;simp[gH,cL]
theorem BG (K:Nat)(l:List aO)(m:Int)(T:List Int)(X:l.length<=1048576)(H:da l)(R:1048577<K) :
  Q175.l1 K (l,m,()) (dB T l.length,[],[],0)=some ((eL l T l.length,dM l T l.length,()),()):=by
 refine fV (step:=λrec a=>Q175.s1 K (l,m,()) rec a) l.length (λi=>(dB T l.length,eL l T i,dM l T i,(i:Int))) (some ((eL l T l.length,dM l T l.length,()),())) ?_ ?_ (by omega)
 ·intro rec i r;simp only[Q175.s1];have u:i<(dB T l.length).length:=by rw[fF];exact r
  have M:=yE l T i;have O:=yF l T i;obtain⟨I,J⟩:=(H.1 l[i] (FL r)).2;rw[bt (by omega:(i:Int)<(FK l:Int)),af r,af u,ar i (by omega),FN,af u,jo T r,xd,xe,cJ r];simp only[cond_true,FJ];cases z:decide ((i:Int)∈T) with
  |true =>
   have y:dY l T (i:Int)=(l[i].1,l[i].2-1):=by unfold dY;rw[z,cJ r];rfl
   rw[y];simp only[cond_true];rw[szb _ _ _ (by omega) (by simp;omega),aC (n:=l[i].2-1) (by omega) (by omega)];simp only[cond_true];cases decide (l[i].2-1>0) with
   |true =>
    simp only[cond_true];rw[szb _ _ _ (by omega) (by simp;omega)];rfl
   |false =>
    simp only[cond_false,FU]
  |false =>
   have y:dY l T (i:Int)=l[i]:=by unfold dY;rw[z,cJ r];rfl
   rw[y];simp only[cond_false,FU];cases decide (l[i].2>0) with
   |true =>
    simp only[cond_true];rw[szb _ _ _ (by omega) (by simp;omega)];rfl
   |false =>
    simp only[cond_false,FU]
 ·intro rec;simp only[Q175.s1,aS];rfl
theorem Cx (K:Nat)(l:List aO)(R:l.length<=1048576)(hC:da l)(M:1048577<K):Q175.f K (l,3,())=some ((eL l (ce l) l.length,dM l (ce l) l.length,()),()):=by
 have r:∀ T,Q175.l1 K (l,3,()) (dB T l.length,[],[],0)=some ((eL l T l.length,dM l T l.length,()),()):=λT=>BG K l 3 T R hC M
 have Y:∀ (d n k:Nat),n+d=3->d<k->ae (λrec a=>Q175.s0 K (l,3,()) (Q175.l1 K (l,3,())) rec a) k (dB ((bG l).take n) l.length,(n:Int))=some ((eL l (ce l) l.length,dM l (ce l) l.length,()),()):=by
  intro d;induction d with
  |zero =>
   intro n k hn hk;obtain⟨k,rfl⟩:∃ I,k=I+1:=⟨k-1,by omega⟩;have:n=3:=by omega
   subst this;exact r _
  |succ d ih =>
   intro n k hn hk;obtain⟨k,rfl⟩:∃ I,k=I+1:=⟨k-1,by omega⟩;have y:=ih (n+1) k (by omega) (by omega);show Q175.s0 K (l,3,()) (Q175.l1 K (l,3,())) (ae (λrec a=>Q175.s0 K (l,3,()) (Q175.l1 K (l,3,())) rec a) k) (dB ((bG l).take n) l.length,(n:Int))=_;generalize ae (λrec a=>Q175.s0 K (l,3,()) (Q175.l1 K (l,3,())) rec a) k=REC at y ⊢;simp only[Q175.s0];rw[decide_eq_true (by omega:(n:Int)<3),Cw K l n R M,ar n (by omega)];simp only[cond_true,FJ];by_cases u:n<(bG l).length
   ·rw[FV u];have X:=jn.1 (FL u);have H:(bG l).take (n+1)=(bG l).take n++[(bG l)[n]]:=GS u;rw[H]at y;simp only[HP];generalize (bG l)[n]=v at X y ⊢;obtain⟨b,rfl⟩:=FO X.1;have O:b<l.length:=by omega
    have z:b<(dB ((bG l).take n) l.length).length:=by rw[fF];exact O
    rw[decide_eq_false (by omega:¬ (b:Int)<0),af z,FN,af z,yD O];exact y
   ·rw[Gc (by omega)];show Q175.l1 K (l,3,()) (dB ((bG l).take n) l.length,[],[],0)=_;rw[r,show (bG l).take n=ce l by unfold ce;rw[GC (by omega),GC (by omega)]]
 simp only[Q175.f,Q175.pre];rw[decide_eq_true (by omega:(0:Int)<=(FK l:Int)),show decide ((FK l:Int)*(1:Nat)<=am)=true from decide_eq_true (by simp only[am];omega),FN];simp only[decide_true,Gb,cond_true];have Z:Gh l.length false=dB ((bG l).take 0) l.length:=by
  refine Gt (by rw[Gq,fF]) λi h1 J=>?_
  rw[fF]at J;rw[List.getElem_replicate,jo _ J];simp
 have:=Y 3 0 K (by omega) (by omega);rw[<- Z]at this;exact this
theorem tq {a b:List Int}(r:a.Nodup)(u:b.Nodup)(h:∀ x,x∈a<->x∈b):a.Perm b:=by
 rw[List.perm_iff_count];intro x;rw[r.count,u.count];simp[h]
def dh (l:List aO):List Int:=(cL l.length).filter λi=>decide (i∈ce l)
theorem vI (l:List aO):cI ltZ [] (ce l)=dh l:=by
 have r:(ce l).Nodup:=(vH l).sublist (List.take_sublist _ _);have u:((cL l.length).filter λi=>decide (i∈ce l)).Nodup:=((jN l.length).imp (λh=>by omega:∀ {a b:Int},a<b->a≠b)).filter _;refine po ltZ ?_ (nX ltZ (λa b c r u=>by
  unfold ltZ at r u ⊢;rw[decide_eq_false_iff_not]at r u ⊢;omega) (λa b h=>by
  unfold ltZ at h ⊢;rw[decide_eq_true_eq]at h;rw[decide_eq_false_iff_not];omega) (ce l) [] List.Pairwise.nil) ?_
 ·refine (by simpa using mY ltZ (ce l) []:(cI ltZ [] (ce l)).Perm (ce l)).trans (tq r u λx=>?_);rw[dh,FQ,decide_eq_true_eq,iX];exact⟨λh=>⟨jn.1 (HF h),h⟩,λh=>h.2⟩
 ·exact ((jN l.length).filter _).imp λh=>by unfold ltZ;exact decide_eq_true h
theorem yG {l:List aO}{i:Int}:i∈dh l<->i∈ce l:=by
 unfold dh;rw[FQ,decide_eq_true_eq,iX];exact⟨λh=>h.2,λh=>⟨jn.1 (HF h),h⟩⟩
theorem yH (l:List aO):(dh l).Pairwise (·<·):=(jN l.length).filter _
theorem e9 (l:List aO)(T:List Int)(n:Nat):(gH l T n).length=n:=by simp[gH,cL]
theorem fJ (l:List aO)(T:List Int){n i:Nat}(h:i<n):(gH l T n)[i]'(by rw[e9];exact h)=dY l T (i:Int):=by
 simp[gH,cL]
theorem Ai (l:List aO):gH l [] l.length=l:=by
 refine Gt (e9 _ _ _) λi u r=>?_
 rw[fJ l [] r];unfold dY;rw[cJ r];simp
theorem Aj {l:List aO}{T:List Int}{b:Nat}(y:b<l.length):(gH l T l.length).set b ((hH l (b:Int)).1,(hH l (b:Int)).2-1)=gH l (T++[(b:Int)]) l.length:=by
 refine Gt (by rw[HA,e9,e9]) λi u r=>?_
 rw[e9]at r;rw[HO,fJ _ _ r];by_cases h:b=i
 ·subst h;rw[if_pos rfl,fJ _ _ r];unfold dY;rw[decide_eq_true (by simp:(b:Int)∈T++[(b:Int)])];rfl
 ·rw[if_neg h,fJ _ _ r];unfold dY;have:((i:Int)∈T++[(b:Int)])<->(i:Int)∈T:=by
   rw[GP,GF];exact⟨λu=>u.resolve_right (by omega),.inl⟩
  rw[show decide ((i:Int)∈T++[(b:Int)])=decide ((i:Int)∈T) by rw[decide_eq_decide];exact this]
theorem xf {l:List aO}{T T':List Int}(h:∀ i,i∈T<->i∈T')(n:Nat):gH l T n=gH l T' n:=by
 unfold gH;refine List.map_congr_left λi _=>?_
 unfold dY;rw[show decide (i∈T)=decide (i∈T') by rw[decide_eq_decide];exact h i]
theorem vJ (K:Nat)(x:ab Q127.ps)(l:List aO)(hl:l.length<=1048576)(X:da l)(hK:1048577<K) :
  Q127.l1 K x (l,dh l,[],(FK (dh l):Int),0)=some ((eL l (ce l) l.length,dM l (ce l) l.length,()),()):=by
 have a0:(dh l).length<=l.length:=by
  refine F1 (F8 _ _) ?_;simp[cL]
 refine Gy ?_ (fV (step:=λrec a=>Q127.s1 K x rec a) (dh l).length (λi=>(gH l ((dh l).take i) l.length,dh l,((dh l).take i).map (λj=>(hH l j).1),(FK (dh l):Int),(i:Int))) (some ((eL l (ce l) l.length,dM l (ce l) l.length,()),())) ?_ ?_ (by omega:(dh l).length<K))
 ·simp only[List.take_zero,HW,Ai];rfl
 ·intro rec i r;simp only[Q127.s1];have Y:=iX.1 ((FQ.1 (FL r)).1);have u:(dh l)[i]∉(dh l).take i:=λh=>by
   obtain⟨j,hj,e⟩:=FR h;rw[GE]at hj;rw[Gl]at e;have:=GO.1 (yH l) j i (by omega) r (by omega);omega
  have M:(dh l).take (i+1)=(dh l).take i++[(dh l)[i]]:=GS r;rw[M,Gv];have I:(((dh l).take i).map (λj=>(hH l j).1)).length<=1048576:=by rw[FW,GE];omega
  rw[bt (by omega:(i:Int)<(FK (dh l):Int)),af r,ar i (by omega),FN,af r];simp only[cond_true,FJ];generalize (dh l)[i]=v at Y u ⊢;obtain⟨b,rfl⟩:=FO Y.1;have z:b<l.length:=by omega
  have H:b<(gH l ((dh l).take i) l.length).length:=by rw[e9];exact z
  have hd:dY l ((dh l).take i) (b:Int)=l[b]:=by
   unfold dY;rw[decide_eq_false u,cJ z];rfl
  obtain⟨Z,c1⟩:=(X.1 l[b] (FL z)).2;rw[af H,FN,af H,fJ l _ z,hd];simp only[FJ];rw[szb _ _ _ (by omega) (by simp only[FW,FP,FT]at I ⊢;omega),aC (n:=l[b].2-1) (by omega) (by omega),<- Aj z,cJ z];simp only[cond_true,G3,HW,cJ z]
 ·intro rec;simp only[Q127.s1,aS,cond_false,Gi,Q11.f];have e:∀ J:List aO,J.length<=1048576->ir t3 J (λR=>(Q126.f K (R.1,())).map λy=>y.1.1)=some ((J.filter (λx=>!(x.2==0)),()),()):=λJ O=>sr (e:=t3) (λx=>x.2==0) O (λx _=>rfl)
  rw[e _ (by rw[e9];exact hl)];simp only[FJ];rw[xf (l:=l) (T:=dh l) (T':=ce l) (λi=>yG) l.length];have ef:(gH l (ce l) l.length).filter (λx=>!(x.2==0))=dM l (ce l) l.length:=by
   unfold dM;refine G1 λx hx=>?_
   have h0:0<=x.2:=by
    obtain⟨i,r,rfl⟩:=FR hx;rw[e9]at r;rw[fJ l _ r];obtain⟨Z,c1⟩:=(X.1 l[i] (FL r)).2;unfold dY;rw[cJ r];cases decide ((i:Int)∈ce l) with
    |true=>show 0<=l[i].2-1;omega
    |false=>show 0<=l[i].2;omega
   rw[GQ];simp;omega
  rw[ef];rfl
theorem xg (K:Nat)(l:List aO)(hl:l.length<=8)(H:da l)(I:1048577<K):Q127.f K (l,3,())=some ((eL l (ce l) l.length,dM l (ce l) l.length,()),()):=by
 simp only[Q127.f,Q127.pre];obtain⟨b1,e1,e2⟩:=pZ K l (by omega) I;have O:=e2.2 H;subst O;rw[e1];simp only[FJ,FS,cond_false];rw[decide_eq_true (by omega:(0:Int)<=(FK l:Int)),show decide ((FK l:Int)*(8:Nat)<=am)=true from decide_eq_true (by simp only[am];omega),FN];simp only[decide_true,Gb,cond_true];have X:(cL l.length).length=l.length:=by simp[cL]
 have hS:∀ i,i<=l.length->(cL i++Gh (l.length-i) (0:Int)).length=l.length:=λi Z=>by simp[cL];omega
 refine Gy ?_ (fV (step:=λrec a=>Q127.s0 K (l,3,()) (Q127.l1 K (l,3,())) rec a) l.length (λi=>(cL i++Gh (l.length-i) (0:Int),(i:Int))) (some ((eL l (ce l) l.length,dM l (ce l) l.length,()),())) ?_ ?_ (by omega:l.length<K))
 ·rfl
 ·intro rec i Z;simp only[Q127.s0];have u:i<(cL i++Gh (l.length-i) (0:Int)).length:=by rw[hS i (by omega)];exact Z
  rw[decide_eq_true (by rw[Gq];show (i:Int)<((FM (FK l:Int):Nat):Int);omega),af u,ar i (by omega),FN,af u];simp only[cond_true,FJ];have e:(cL i++Gh (l.length-i) (0:Int)).set i (i:Int)=cL (i+1)++Gh (l.length-(i+1)) (0:Int):=by
   obtain⟨m,hm⟩:∃ m,l.length-i=m+1:=⟨l.length-i-1,by omega⟩;have R:(cL i).length=i:=by simp[cL]
   rw[hm,show l.length-(i+1)=m by omega,nY,HD _ _ (by omega),R,Nat.sub_self,List.replicate_succ,List.set_cons_zero,GG];rfl
  rw[e]
 ·intro rec;simp only[Q127.s0];rw[decide_eq_false (by rw[Gq];show ¬ (FK l:Int)<((FM (FK l:Int):Nat):Int);omega),Nat.sub_self,List.replicate_zero,FU];simp only[cond_false,Q2.f];have r:=Ag K (cL l.length) (λy4=>(Q125.f K (y4.1,y4.2.1,l,())).map λy=>y.1.1) (ltL l) (λi=>0<=i/\i<l.length) (λy Y=>iX.1 Y) (λy z Y hz=>by
   obtain⟨a,rfl⟩:=FO Y.1;obtain⟨b,rfl⟩:=FO hz.1;have J:a<l.length:=by omega
   have M:b<l.length:=by omega
   obtain⟨c0,c1⟩:=(H.1 l[a] (FL J)).2;obtain⟨c2,c3⟩:=(H.1 l[b] (FL M)).2;refine⟨l[b].2-l[a].2,?_,?_⟩
   ·simp only[Q125.f];rw[af J,af M];simp only[FJ];rw[aC (n:=l[b].2-l[a].2) (by omega) (by omega)];rfl
   ·unfold ltL;rw[dX J,dX M,decide_eq_decide];omega) (by rw[X];omega) I
  rw[r];simp only[FJ];rw[dR (by omega)];simp only[FJ];rw[show Q120.f K (cI (ltL l) [] (cL l.length),3,())=some ((ce l,()),()) from Bv K (bG l) 3 (by rw[yC];omega)];simp only[FJ];rw[un K (ce l) (F1 (GV _ _) (by omega)) I,vI];simp only[FJ];exact vJ K (l,3,()) l (by omega) H I
theorem Cy {a b:Int}(r:0<=a)(u:a<4611686018427387904)(y:0<=b)(z:b<4611686018427387904):0<=rD .i64 a b:=by
 obtain⟨m,rfl⟩:=FO r;obtain⟨n,rfl⟩:=FO y;have h:(BitVec.ofInt 64 (m:Int) ^^^ BitVec.ofInt 64 (n:Int)).toNat=m ^^^ n:=by
  rw[BitVec.toNat_xor,BitVec.toNat_ofInt,BitVec.toNat_ofInt];congr 1
  ·omega
  ·omega
 have H:m ^^^ n<2 ^ 62:=Nat.xor_lt_two_pow (by omega) (by omega);show 0<=IntKind.i64.wrap (((BitVec.ofInt 64 (m:Int) ^^^ BitVec.ofInt 64 (n:Int)).toNat:Nat):Int);rw[h,HQ];omega
structure gv (b:List Int):Prop where
 byte:∀ y∈b,0<=y/\y<=255
 len:b.length<=2000
theorem BH (K:Nat)(b:List Int)(q:Nat)(n:Int)(h:gv b)(hq:q<=100000)(hn:1<=n):∃ v:Int,Q143.f K ((b,(q:Int)),n,())=some ((v,()),((b,((q+1:Nat):Int)),()))/\0<=v/\v<n:=by
 have w1:wr .i64 ((q:Int)+1)=((q+1:Nat):Int):=ar q (by omega);have w2:wr .i64 (((q+1:Nat):Int)-1)=(q:Int):=by rw[aC (n:=((q+1:Nat):Int)-1) (by omega) (by omega)];omega
 have hl:=h.len;have I:decide (n=0)=false:=decide_eq_false (by omega);have r:∀ x:Int,0<=x->0<=GJ x n/\GJ x n<n:=λx u=>⟨HB _ u,Gz _ (by omega)⟩
 simp only[Q143.f];rw[decide_eq_false (by omega:¬ n<1)];simp only[cond_false,w1,w2,I];by_cases M:b.length=0
 ·rw[show ((b.length:Int)==0)=true by simpa using M];exact⟨0,rfl,by omega,by omega⟩
 ·rw[show ((b.length:Int)==0)=false by simpa using M];simp only[cond_false];by_cases H:q<b.length
  ·rw[decide_eq_true (by omega:(q:Int)<(b.length:Int)),af H];simp only[cond_true,FJ];obtain⟨J,Y⟩:=h.byte b[q] (FL H);rw[aC (n:=b[q]) (by omega) (by omega)];exact⟨_,rfl,r _ J⟩
  ·rw[decide_eq_false (by omega:¬ (q:Int)<(b.length:Int)),decide_eq_false (by omega:¬ (b.length:Int)=0)];simp only[cond_false];have t1:GJ (q:Int) (b.length:Int)=((q % b.length:Nat):Int):=by rw[G0 (by omega)];rfl
   have t2:wr .i64 (wr .i64 ((q:Int)*7)+3)=((q*7+3:Nat):Int):=by rw[aC (n:=(q:Int)*7) (by omega) (by omega),aC (n:=(q:Int)*7+3) (by omega) (by omega)];omega
   have t3:GJ (((q*7+3:Nat)):Int) (b.length:Int)=(((q*7+3) % b.length:Nat):Int):=by rw[G0 (by omega)];rfl
   have O:q % b.length<b.length:=Nat.mod_lt _ (by omega);have R:(q*7+3) % b.length<b.length:=Nat.mod_lt _ (by omega);rw[t1,t2,t3,af O,af R];simp only[FJ];obtain⟨J,Y⟩:=h.byte b[q % b.length] (FL O);obtain⟨z0,z1⟩:=h.byte b[(q*7+3) % b.length] (FL R);generalize b[q % b.length]=y at J Y ⊢;generalize b[(q*7+3) % b.length]=z at z0 z1 ⊢;have Z:0<=Gn (q:Int) (b.length:Int)/\Gn (q:Int) (b.length:Int)<=q:=⟨HT (by omega) (by omega),HR _ (by omega)⟩;generalize Gn (q:Int) (b.length:Int)=e at Z ⊢;have x1:wr .i64 (wr .i64 (wr .i64 (wr .i64 (wr .i64 y*131)+wr .i64 (wr .i64 z*1117))+wr .i64 ((q:Int)*29))+wr .i64 (wr .i64 e*53))=y*131+z*1117+q*29+e*53:=by
    rw[aC (n:=y) (by omega) (by omega),aC (n:=z) (by omega) (by omega),aC (n:=e) (by omega) (by omega),aC (n:=y*131) (by omega) (by omega),aC (n:=z*1117) (by omega) (by omega),aC (n:=(q:Int)*29) (by omega) (by omega),aC (n:=e*53) (by omega) (by omega),
     aC (n:=y*131+z*1117) (by omega) (by omega),aC (n:=y*131+z*1117+(q:Int)*29) (by omega) (by omega),aC (n:=y*131+z*1117+(q:Int)*29+e*53) (by omega) (by omega)]
   rw[x1];have u:0<=y*131+z*1117+q*29+e*53/\y*131+z*1117+q*29+e*53<=10000000:=by omega
   generalize y*131+z*1117+(q:Int)*29+e*53=X at u ⊢;have d2:0<=Gn X 64/\Gn X 64<=X:=⟨HT u.1 (by omega),HR _ u.1⟩;rw[aC (n:=Gn X 64) (by omega) (by omega)];exact⟨_,rfl,r _ (Cy u.1 (by omega) d2.1 (by omega))⟩
theorem xh (K:Nat)(t:List ah)(f:ah)(ht:t.length<=1048576)(R:Asc (λg:ah=>g.1) t)(hK:1048577<K):Q145.f K (t,f,())=some (((bZ t f).1,(bZ t f).2,()),()):=by
 simp only[Q145.f,Q145.pre];obtain⟨o,H,M⟩:=fT K t f.1 ht hK;rw[M];simp only[FJ];cases H with
 |at_ i r e =>
  simp only;rw[k7 R r e,decide_eq_true (by omega:((i:Nat):Int)>=0),af r];simp only[cond_true,FJ,FN,af r];rw[show Q106.f K (f,t[i],())=_ from qI K f t[i]];simp only[FJ];by_cases H:bP f t[i]
  ·rw[decide_eq_true H,if_pos H];simp only[FS,cond_false];rw[szb _ _ _ (by omega) (by show (FK ([]:List ah))+t.length<=_;simp;omega)];simp only[cond_true,FZ,af r,FJ,FN];rw[gY (k:=λg:ah=>g.1) R r e]
  ·rw[decide_eq_false H,if_neg H];rfl
 |no h =>
  simp only;rw[iU h,decide_eq_false (by omega:¬ (-1:Int)>=0)];simp only[cond_false];have J:∀ m:Nat,m<=t.length->(bif decide ((0:Int)<=0)&&decide ((0:Int)<=(m:Int))&&decide ((m:Int)<=(FK t:Int))&&true then (bif decide ((FK ([]:List ah)+FK ((t.take (FM (m:Int))).drop (FM 0)))*32<=am) then (bif decide ((FK ([]++((t.take (FM (m:Int))).drop (FM 0)))+FK ([f]))*32<=am) then (bif decide ((0:Int)<=(m:Int))&&decide ((m:Int)<=(FK t:Int))&&decide ((FK t:Int)<=(FK t:Int))&&true then (bif decide ((FK (([]++((t.take (FM (m:Int))).drop (FM 0)))++([f]))+FK ((t.take (FM (FK t:Int))).drop (FM (m:Int))))*32<=am) then (some (((([]++((t.take (FM (m:Int))).drop (FM 0)))++([f]))++((t.take (FM (FK t:Int))).drop (FM (m:Int))),true,()),())) else none) else none) else none) else none) else (none:Option ((List ah×Bool×Unit)×Unit)))=some ((t.take m++[f]++t.drop m,true,()),()):=by
   intro m X;rw[decide_eq_true (by omega:(0:Int)<=0),decide_eq_true (by omega:(0:Int)<=(m:Int)),decide_eq_true (by omega:(m:Int)<=(FK t:Int)),decide_eq_true (by omega:(FK t:Int)<=(FK t:Int))];simp only[FN,Gx,GB,FZ,Gi,Gb,cond_true];have M:(t.take m).length=m:=by rw[GE];omega
   have z:(t.drop m).length=t.length-m:=GX;rw[szb _ _ _ (by omega) (by simp only[FT];omega),szb _ _ _ (by omega) (by simp only[FP,FT];omega),szb _ _ _ (by omega) (by simp only[F0,FP,FT];omega)];rfl
  have:=cG (step:=λrec a=>Q145.s0 K (t,f,()) rec a) t.length (λi=>(i:Int)) (λj=>∃ h:j<t.length,¬ t[j].1<f.1) (some ((t.take t.length++[f]++t.drop t.length,true,()),())) (λj=>some ((t.take j++[f]++t.drop j,true,()),())) ?_ ?_ t.length K 0 (by omega) (by omega)
  ·have I:∀ m,m<=t.length->(∀ i,(r:i<t.length)->i<m->t[i].1<f.1)->(∀ i,(r:i<t.length)->m<=i->f.1<t[i].1)->t.take m++[f]++t.drop m=bD (λg=>g.1) f t:=λm X lo r=>gu (k:=λg:ah=>g.1) X lo r
   rcases this with ⟨M,z⟩|⟨j,_,M,⟨Y,h4⟩,Z,z⟩
   ·rw[I t.length (FX _) (λi r _=>by
     have:=M i (FY _) r;exact Gm.1 λh=>this ⟨r,h⟩) (λi r h=>by omega)]at z
    exact z
   ·rw[I j (by omega) (λi r y=>by
     have:=Z i (FY _) y;exact Gm.1 λh=>this ⟨r,h⟩) (λi r y=>by
     have a0:=h t[i] (FL r);rcases GM y with O|O
     ·have:=ct.1 R j i Y r O;omega
     ·subst O;omega)]at z
    exact z
  ·intro rec i r;simp only[Q145.s0];rw[bt (by omega:(i:Int)<(FK t:Int)),af r,ar i (by omega)];simp only[cond_true,FJ];rw[show idx t ((FM (i:Int):Nat):Int)=some t[i] by rw[FN];exact af r];simp only[FJ];by_cases u:t[i].1<f.1
   ·exact .inl ⟨λ⟨_,h⟩=>h u,by rw[decide_eq_true u];rfl⟩
   ·exact .inr ⟨⟨r,u⟩,by rw[decide_eq_false u];exact J i (by omega)⟩
  ·intro rec;simp only[Q145.s0,aS,cond_false];exact J t.length (FX _)
def fG (t:List ah)(fs:List ah):List ah:=fs.foldl (λt f=>(bZ t f).1) t
theorem su:∀ {fs t:List ah},aE t->(∀ f∈fs,bw f)->aE (fG t fs)
 |[],_,h,_=>h
 |f::fs,t,h,r=>su (fs:=fs) (k8 h (r f (by simp))) (λg u=>r g (by simp[u]))
theorem cf {t:List ah}(h:aE t):t.length<=1048576:=F1 (jx h.2 (λg r=>(h.1 g r).1)) (by decide)
theorem pq {R:Type}(a fs:List ah)(M:aE a)(O:∀ f∈fs,bw f)(r:List ah->Option R){step:(List ah×Int->Option R)->List ah×Int->Option R}
  (h:∀ (rec:List ah×Int->Option R) (t:List ah) (i:Nat) (I:i<fs.length),aE t->step rec (t,(i:Int))=rec ((bZ t fs[i]).1,((i+1:Nat):Int)))
  (y:∀ (rec:List ah×Int->Option R) (t:List ah),step rec (t,(fs.length:Int))=r t) {k:Nat} (z:fs.length<k):ae step k (a,0)=r (fG a fs):=by
 have:∀ (d i k:Nat) (t:List ah),i+d=fs.length->d<k->aE t->ae step k (t,(i:Int))=r (fG t (fs.drop i)):=by
  intro d;induction d with
  |zero =>
   intro i k t I z _;obtain⟨k,rfl⟩:∃ H,k=H+1:=⟨k-1,by omega⟩;have:i=fs.length:=by omega
   subst this;show step (ae step k) _=_;rw[y,G4];rfl
  |succ d X =>
   intro i k t I z J;obtain⟨k,rfl⟩:∃ H,k=H+1:=⟨k-1,by omega⟩;have u:i<fs.length:=by omega
   show step (ae step k) _=_;rw[h _ _ _ u J,F6 u];exact X (i+1) k _ (by omega) (by omega) (k8 J (O _ (FL u)))
 have:=this fs.length 0 k a (by omega) z M
 rwa [GB]at this
theorem yI (f:ah):¬ bP f f:=by
 unfold bP;simp
theorem lf (K:Nat)(xs:List ah)(z:xs.length<=1048576)(y:1048577<K):Q92.f K (xs,xs,())=rb true:=by
 have u:Q92.l0 K (xs,xs,()) 0=rb true:=by
  refine fV (step:=λrec a=>Q92.s0 K (xs,xs,()) rec a) xs.length (λi=>(i:Int)) (rb true) ?_ ?_ (by omega)
  ·intro rec i r;simp only[Q92.s0];rw[decide_eq_true (by omega:(i:Int)<(FK xs:Int)),af r,ar i (by omega)];simp only[cond_true,FJ];rw[show Ty.eqv t2 xs[i] xs[i]=decide (xs[i]=xs[i]) from iE _ _,decide_eq_true rfl];rfl
  ·intro rec;simp only[Q92.s0,aS];rfl
 simp only[Q92.f,Q92.pre,bne_self_eq_false,cond_false];exact u
theorem qb {l:List aO}(J:da l)(T:List Int):aE (eL l T l.length):=by
 unfold eL;constructor
 ·intro f hf;obtain⟨i,H,rfl⟩:=F2.1 hf;obtain⟨Y,h1⟩:=iX.1 (FQ.1 H).1;obtain⟨b,rfl⟩:=FO Y;have M:b<l.length:=by omega
  rw[cJ M];exact (J.1 l[b] (FL M)).1
 ·unfold Asc;rw[F7];have hp:((cL l.length).filter λi=>decide (i∈T)).Pairwise λ (a b:Int)=>(0<=a/\a<l.length)/\(0<=b/\b<l.length)/\a<b:=by
   refine Gg _ ?_;have:∀ u:List Int,(∀ x∈u,0<=x/\x<l.length)->u.Pairwise (·<·)->u.Pairwise λ (a b:Int)=>(0<=a/\a<l.length)/\(0<=b/\b<l.length)/\a<b:=by
    intro u z r;induction u with
    |nil=>exact List.Pairwise.nil
    |cons x u ih =>
     rw[F3]at r ⊢;exact⟨λy I=>⟨z x (by simp),z y (by simp[I]),r.1 y I⟩,ih (λy I=>z y (by simp[I])) r.2⟩
   exact this _ (λx z=>iX.1 z) (jN _)
  refine hp.imp λ {a b} h=>?_
  obtain⟨⟨R,a1⟩,⟨X,b1⟩,Z⟩:=h;obtain⟨i,rfl⟩:=FO R;obtain⟨j,rfl⟩:=FO X;have H:i<l.length:=by omega
  have O:j<l.length:=by omega
  rw[cJ H,cJ O];exact ct.1 J.2 i j H O (by omega)
theorem Ak {l:List aO}(J:da l)(T:List Int):da (dM l T l.length):=by
 have r:∀ i (h:i<l.length),(dY l T (i:Int)).1=l[i].1:=λi h=>by
  unfold dY;rw[cJ h];cases decide ((i:Int)∈T) <;> rfl
 have I:∀ i (h:i<l.length),(dY l T (i:Int)).2<=l[i].2:=λi h=>by
  unfold dY;rw[cJ h];cases decide ((i:Int)∈T) with
  |true=>show l[i].2-1<=l[i].2;omega
  |false=>exact GY _
 unfold dM;constructor
 ·intro x O;obtain⟨M,z⟩:=FQ.1 O;have z:x.2>0:=by simpa using z
  obtain⟨i,u,rfl⟩:=FR M;rw[e9]at u;rw[fJ l T u]at z ⊢;have:=(J.1 l[i] (FL u));refine⟨by rw[r i u];exact this.1,?_,?_⟩
  ·omega
  ·have R:=I i u;have X:=this.2.2;omega
 ·unfold Asc;refine Gg _ ?_;rw[GO];intro i j u y H;rw[e9]at u y;show (gH l T l.length)[i].1.1<(gH l T l.length)[j].1.1;rw[fJ l T u,fJ l T y,r i u,r j y];exact ct.1 J.2 i j u y H
def iH (n:aa)(to:Int):List ah :=
 bif (aT (aa.table n) to).2.2.1==2 then (bZ (eL (aa.cast n) (ce (aa.cast n)) (aa.cast n).length) (aT (aa.table n) to)).1 else eL (aa.cast n) (ce (aa.cast n)) (aa.cast n).length
def jz (n:aa):aa:=gG n (aa.table n) (dM (aa.cast n) (ce (aa.cast n)) (aa.cast n).length) (aa.doubts n)
theorem o6 {n:aa}(h:cH n)(to:Int):aE (iH n to):=by
 have r:=qb h.cast (ce (aa.cast n));unfold iH;cases y:(aT (aa.table n) to).2.2.1==2 with
 |false=>exact r
 |true =>
  refine k8 r (eP h.table ?_).1;by_cases u:∃ f∈aa.table n,f.1=to
  ·exact u
  ·rw[kj (λg z e=>u ⟨g,z,e⟩)]at y;simp at y
theorem EC {n:aa}(h:cH n):cH (jz n):=cH.mk' h.table (Ak h.cast _) h.asc h.inp
theorem clen {n:aa}(h:cH n):(aa.cast n).length<=8:=jx h.cast.2 (λx r=>(h.cast.1 x r).1.1)
theorem wo (K:Nat)(n:aa)(to:Int)(h:cH n)(r:1048577<K):Q225.f K (n,to,())=some ((iH n to,jz n,()),()):=by
 have M:=clen h;simp only[Q225.f,zcp8];rw[show Q175.f K (n.2.2.2.2.2.2.2.2.2.1,3,())=_ from Cx K (aa.cast n) (by omega) h.cast r];simp only[FJ];obtain⟨o,J,I⟩:=fT K (aa.table n) to h.lt r;rw[show Q103.f K (n.2.2.2.2.2.2.2.2.1,to,())=_ from I];simp only[FJ,iH];have z:=qb h.cast (ce (aa.cast n));cases J with
 |no y =>
  rw[kj y];rfl
 |at_ j H e =>
  have u:aT (aa.table n) to=(aa.table n)[j]:=by rw[<- e];exact ki h.table.2 (FL H)
  rw[u];simp only;rw[decide_eq_true (by omega:((j:Nat):Int)>=0),show idx n.2.2.2.2.2.2.2.2.1 ((j:Nat):Int)=some (aa.table n)[j] from af H];simp only[cond_true,FJ];cases (aa.table n)[j].2.2.1==2 with
  |false=>rfl
  |true =>
   simp only[cond_true];rw[xh K _ _ (cf z) z.2 r];rfl
theorem xi (K:Nat)(n:aa)(to:Int)(h:cH n)(r:1048577<K):Q128.f K (n,to,())=some ((iH n to,()),(jz n,())):=by
 simp only[Q128.f,zcp8];rw[show Q127.f K (n.2.2.2.2.2.2.2.2.2.1,3,())=_ from xg K (aa.cast n) (clen h) h.cast r];simp only[FJ];obtain⟨b,y⟩:=nU K (aa.table n) to h.table h.lt r;rw[show Q23.f K (n.2.2.2.2.2.2.2.2.1,to,())=_ from y];simp only[FJ,iH];have u:=qb h.cast (ce (aa.cast n));cases (aT (aa.table n) to).2.2.1==2 with
 |false=>rfl
 |true =>
  simp only[cond_true];rw[wZ K _ _ (cf u) u.2 r];rfl
def cQ (n:aa)(k:Nat):Int:=GJ (n.2.2.2.2.2.2.2.1+(k:Int)) 8
def iK (n:aa)(k:Nat):Prop:=cQ n k≠n.1/\eZ (aT (aa.table n) (cQ n k))=true
def D9 (n:aa)(to:Int):aa :=
 let m:=jz n
 (m.1,m.2.1,m.2.2.1,m.2.2.2.1,m.2.2.2.2.1,m.2.2.2.2.2.1,m.2.2.2.2.2.2.1+1,to+1,m.2.2.2.2.2.2.2.2.1,m.2.2.2.2.2.2.2.2.2.1,(to,m.2.2.2.2.2.1,m.2.2.2.2.2.2.1+1,false),m.2.2.2.2.2.2.2.2.2.2.2)
def Ec (n:aa)(to:Int):aj:=(1,1,n.1,to,n.2.2.2.2.2.2.1+1,n.1,aa.coord n,iH n to)
theorem BI (K:Nat)(n:aa)(h:cH n)(a0:0<=n.2.2.2.2.2.2.2.1)(a1:n.2.2.2.2.2.2.2.1<=8)(X:1048577<K) :
  ∃ to:Int,Q226.f K (n,())=some ((to,()),())/\((to=-1/\∀ k,k<8->¬ iK n k)\/∃ k,k<8/\iK n k/\(∀ j,j<k->¬ iK n j)/\to=cQ n k):=by
 have u:∀ k:Nat,k<8->wr .i64 (n.2.2.2.2.2.2.2.1+(k:Int))=n.2.2.2.2.2.2.2.1+(k:Int):=λk M=>aC (by omega) (by omega)
 have:=cG (step:=λrec a=>Q226.s0 K (n,()) rec a) 8 (λi=>(i:Int)) (iK n) (some ((-1,()),())) (λj=>some ((cQ n j,()),())) ?_ ?_ 8 K 0 (by omega) (by omega)
 ·rcases this with ⟨y,z⟩|⟨j,_,y,O,R,z⟩
  ·exact⟨-1,z,.inl ⟨rfl,λk M=>y k (FY _) M⟩⟩
  ·exact⟨_,z,.inr ⟨j,y,O,λm Z=>R m (FY _) Z,rfl⟩⟩
 ·intro rec i Y;simp only[Q226.s0];rw[decide_eq_true (by omega:(i:Int)<=7),u i Y,ar i (by omega)];simp only[cond_true];show (¬ iK n i/\(bif cQ n i != n.1 then ((Q222.f K (aa.table n,cQ n i,())).bind λJ=>bif J.1.1 then (some ((cQ n i,()),())) else (rec ((i+1:Nat):Int))) else (rec ((i+1:Nat):Int)))=rec ((i+1:Nat):Int))\/(iK n i/\(bif cQ n i != n.1 then ((Q222.f K (aa.table n,cQ n i,())).bind λJ=>bif J.1.1 then (some ((cQ n i,()),())) else (rec ((i+1:Nat):Int))) else (rec ((i+1:Nat):Int)))=some ((cQ n i,()),()));rw[uh K (aa.table n) (cQ n i) h.table h.lt X];by_cases r:cQ n i=n.1
  ·exact .inl ⟨λH=>H.1 r,by rw[show (cQ n i != n.1)=false by simpa using r];rfl⟩
  ·rw[show (cQ n i != n.1)=true by simpa using r];cases I:eZ (aT (aa.table n) (cQ n i)) with
   |true=>exact .inr ⟨⟨r,I⟩,rfl⟩
   |false=>exact .inl ⟨λH=>(by rw[H.2]at I;cases I),rfl⟩
 ·intro rec;simp only[Q226.s0];rfl
theorem Es (K:Nat)(n:aa)(h:cH n)(hp:(aa.probe n).1=-1)(a7:0<=n.2.2.2.2.2.2.1)(a8:n.2.2.2.2.2.2.1<=1000000)(a3:0<=n.2.2.2.2.2.2.2.1)(a4:n.2.2.2.2.2.2.2.1<=8)(X:1048577<K) :
  ∃ (y:aa) (ws:List aj),Q227.f K (n,())=some ((y,ws,()),())/\Q129.f K (n,())=some ((ws,()),(y,()))/\((y=n/\ws=[])\/∃ to,y=D9 n to/\ws=[Ec n to]):=by
 have z:∀ k:Nat,k<8->wr .i64 (n.2.2.2.2.2.2.2.1+(k:Int))=n.2.2.2.2.2.2.2.1+(k:Int):=λk Z=>aC (by omega) (by omega)
 have H:∀ k:Nat,k<8->0<=cQ n k/\cQ n k<8:=λk Z=>⟨HB _ (by omega),Gz _ (by omega)⟩
 obtain⟨to,es,a5⟩:=BI K n h a3 a4 X;simp only[Q227.f,zcp4,Q129.f,Q129.pre];rw[es,show (n.2.2.2.2.2.2.2.2.2.2.1.1 != -1)=false by show ((aa.probe n).1 != -1)=false;rw[hp];rfl];simp only[FJ,cond_false];by_cases u:n.2.2.2.2.2.2.1>=999999
 ·rw[decide_eq_true u];refine⟨n,[],?_,rfl,.inl ⟨rfl,rfl⟩⟩;cases decide (to<0) <;> rfl
 ·rw[decide_eq_false u];simp only[cond_false];have O:wr .i64 (n.2.2.2.2.2.2.1+1)=n.2.2.2.2.2.2.1+1:=aC (by omega) (by omega);have J:=cG (step:=λrec a=>Q129.s0 K (n,()) rec a) 8 (λi=>(i:Int)) (iK n) (some (([],()),(n,()))) (λj=>some (([Ec n (cQ n j)],()),(D9 n (cQ n j),()))) ?_ ?_ 8 K 0 (by omega) (by omega)
  ·rcases a5 with ⟨rfl,a2⟩|⟨k,Z,M,a0,rfl⟩
   ·rcases J with ⟨_,h2⟩|⟨j,_,R,h3,_,_⟩
    ·exact⟨n,[],rfl,h2,.inl ⟨rfl,rfl⟩⟩
    ·exact absurd h3 (a2 j R)
   ·have a6:=H k Z;rcases J with ⟨R,_⟩|⟨j,_,R,h3,h4,h2⟩
    ·exact absurd M (R k (FY _) Z)
    ·have:j=k:=by
      rcases Ge j k with I|I|I
      ·exact absurd h3 (a0 j I)
      ·exact I
      ·exact absurd M (h4 k (FY _) I)
     subst this;refine⟨D9 n (cQ n j),[Ec n (cQ n j)],?_,h2,.inr ⟨_,rfl,rfl⟩⟩;rw[decide_eq_false (by omega:¬ cQ n j<0)];simp only[cond_false];rw[wo K n _ h X];simp only[FJ];rw[show wr .i64 ((jz n).2.2.2.2.2.2.1+1)=n.2.2.2.2.2.2.1+1 from O,aC (n:=cQ n j+1) (by omega) (by omega)];simp only[Q161.f];rw[szb _ _ _ (by omega) (by have:=cf (o6 h (cQ n j));simp;omega)];rfl
  ·intro rec i J;have Y:=H i J;simp only[Q129.s0,zcp4];rw[decide_eq_true (by omega:(i:Int)<8),z i J,ar i (by omega)];simp only[cond_true];have a1:=Ed K n (cQ n i) h.table h.lt X;rw[show GJ (n.2.2.2.2.2.2.2.1+(i:Int)) 8=cQ n i from rfl];by_cases r:cQ n i=n.1
   ·exact .inl ⟨λY=>Y.1 r,by rw[show (cQ n i==n.1)=true by simpa using r];rfl⟩
   ·rw[show (cQ n i==n.1)=false by simpa using r];simp only[cond_false];rw[a1];simp only[FJ];cases hl:eZ (aT (aa.table n) (cQ n i)) with
    |false=>exact .inl ⟨λY=>(by rw[Y.2]at hl;cases hl),rfl⟩
    |true =>
     refine .inr ⟨⟨r,hl⟩,?_⟩;simp only[FS,cond_false];rw[xi K n _ h X];simp only[FJ,Q65.f];rw[show wr .i64 ((jz n).2.2.2.2.2.2.1+1)=n.2.2.2.2.2.2.1+1 from O,aC (n:=cQ n i+1) (by omega) (by omega)];rfl
  ·intro rec;simp only[Q129.s0,zcp4];rfl
abbrev mr:=Int×ByteArray×Bool
abbrev bY:=List aa×List mr×List Int×List ah
abbrev bY.radio (w:bY):List mr:=w.2.1
abbrev bY.sides (w:bY):List Int:=w.2.2.1
abbrev bY.born (w:bY):List ah:=w.2.2.2
theorem jO {n:Int}(h:InP n 0 7):ak n=n / 4:=by
 obtain⟨r,u⟩:=h;unfold ak;rw[GD r,aC (by omega) (by omega)]
theorem BJ {α:Type}{k:α->Int}{xs:List α}(h:Asc k xs):∀ i (r:i<xs.length),k (xs[0]'(by omega))+i<=k xs[i]:=by
 rw[it]at h;intro i;induction i with
 |zero=>intro r;simp
 |succ i y =>
  intro r;have z:=y (by omega);have u:=h (i+1) r (by omega);simp only[Nat.add_sub_cancel]at u;omega
theorem vK {t:List ah}{s:Int}(u:aE t)(z:cn t s):t.length<=4:=by
 cases h:t.length with
 |zero=>omega
 |succ m =>
  have r:m<t.length:=by omega
  have y:0<t.length:=by omega
  have O:=BJ u.2 m r;have H:=z _ (FL r);have I:=z _ (FL y);have J:=(u.1 _ (FL r)).1;have M:=(u.1 _ (FL y)).1;rw[jO J]at H;rw[jO M]at I;omega
theorem uq {z:Int}{l:List ch}(u:InP z 0 7)(h:dn z l):l=[]\/∃ x,l=[x]:=by
 match l,h with
 |[],_=>exact .inl rfl
 |[x],_=>exact .inr ⟨x,rfl⟩
 |x::y::r,h =>
  exfalso;have J:=h.1 x (by simp);have M:=h.1 y (by simp);have Z:x.1<y.1:=by
   have:=h.2;unfold Asc at this;rw[F3]at this;exact this.1 y (by simp)
  have e:=jO u;obtain⟨⟨O,R⟩,H,_⟩:=J;obtain⟨⟨X,Y⟩,I,_⟩:=M;obtain⟨m1,m2⟩:=u;rw[e]at H I;omega
theorem mt {a:Int}{m:Nat}(u:m<4611686018427387904):0<=bz .i64 a (m:Int)/\bz .i64 a (m:Int)<=m:=by
 have h:(BitVec.ofInt 64 a &&& BitVec.ofInt 64 (m:Int)).toNat<=m:=by
  rw[BitVec.toNat_and];refine F1 Nat.and_le_right ?_;rw[BitVec.toNat_ofInt];omega
 show 0<=IntKind.i64.wrap (((BitVec.ofInt 64 a &&& BitVec.ofInt 64 (m:Int)).toNat:Nat):Int)/\IntKind.i64.wrap (((BitVec.ofInt 64 a &&& BitVec.ofInt 64 (m:Int)).toNat:Nat):Int)<=m;generalize (BitVec.ofInt 64 a &&& BitVec.ofInt 64 (m:Int)).toNat=r at h ⊢;rw[HQ];omega
def iu (g:List Int)(d:Int):Int:=g.getD (FM (GJ (bz .i64 d 255) (g.length:Int))) 0
theorem iY {g:List Int}{d:Int}(h:g≠[]):idx g (GJ (bz .i64 d 255) (g.length:Int))=some (iu g d)/\idx g ((FM (GJ (bz .i64 d 255) (g.length:Int)):Nat):Int)=some (iu g d)/\iu g d∈g:=by
 have I:0<g.length:=GW.2 h;have u:=(mt (a:=d) (m:=255) (by omega)).1;have y:0<=GJ (bz .i64 d 255) (g.length:Int):=HB _ u;have z:GJ (bz .i64 d 255) (g.length:Int)<g.length:=Gz _ (by omega);unfold iu;obtain⟨v,H⟩:=FO y;rw[H]at z ⊢;have r:v<g.length:=by omega
 rw[FN,af r,List.getD_eq_getElem?_getD,FV r];exact⟨rfl,rfl,FL r⟩
def m7 (n:aa)(r d:Int):Int :=
 bif decide (gr (fg (aa.others n) r)≠[])&&bz .i64 d 4==0 then iu (gr (fg (aa.others n) r)) (F5 d (2 ^ 3)) else r*4+bz .i64 (F5 d (2 ^ 3)) 3
structure o7 (n:aa):Prop where
 short:(aa.others n).length<=1
 table:∀ x∈aa.others n,aE x.2/\x.2.length<=1048576
theorem CA {r d:Int}(z:0<=r)(H:r<=1):wr .i64 (wr .i64 (r*4)+bz .i64 (F5 d (2 ^ 3)) 3)=r*4+bz .i64 (F5 d (2 ^ 3)) 3:=by
 obtain⟨u,y⟩:=mt (a:=F5 d (2 ^ 3)) (m:=3) (by omega);have u:0<=bz .i64 (F5 d (2 ^ 3)) 3:=u;have y:bz .i64 (F5 d (2 ^ 3)) 3<=3:=y;rw[aC (n:=r*4) (by omega) (by omega),aC (by omega) (by omega)]
theorem far_s (K:Nat)(n:aa)(r d:Int)(h:o7 n)(J:0<=r)(M:r<=1)(O:1048577<K):Q231.f K (n,r,d,())=some ((m7 n r d,()),()):=by
 obtain⟨k,rfl⟩:∃ k,K=k+2:=⟨K-2,by omega⟩;show Q231.s0 (k+2) (n,r,d,()) (ae (λrec a=>Q231.s0 (k+2) (n,r,d,()) rec a) (k+1)) 0=_;have y:∀ (rec:Int->Option ((Int×Unit)×Unit)) (a:Int),¬ a<(aa.others n).length->Q231.s0 (k+2) (n,r,d,()) rec a=some ((r*4+bz .i64 (F5 d (2 ^ 3)) 3,()),()):=by
  intro rec a R;simp only[Q231.s0];rw[show decide (a<(FK n.2.2.2.2.2.2.2.2.2.2.2.2.2.2:Int))=false from decide_eq_false R,CA J M];rfl
 match z:aa.others n with
 |[] =>
  rw[y _ _ (by rw[z];simp),m7,z];rfl
 |[x] =>
  have X:=h.table x (by rw[z];simp);have u:ae (λrec a=>Q231.s0 (k+2) (n,r,d,()) rec a) (k+1) 1=some ((r*4+bz .i64 (F5 d (2 ^ 3)) 3,()),()):=y _ _ (by rw[z];simp);generalize ae (λrec a=>Q231.s0 (k+2) (n,r,d,()) rec a) (k+1)=rec at u ⊢;simp only[Q231.s0];rw[show decide ((0:Int)<(FK n.2.2.2.2.2.2.2.2.2.2.2.2.2.2:Int))=true from decide_eq_true (by show (0:Int)<((aa.others n).length:Int);rw[z];simp),show idx n.2.2.2.2.2.2.2.2.2.2.2.2.2.2 (0:Int)=some x by show idx (aa.others n) (0:Int)=some x;rw[z];rfl,show wr .i64 ((0:Int)+1)=1 from rfl];simp only[cond_true,FJ,u];rw[m7,z];cases I:x.1==r with
  |false =>
   simp only[cond_false,fg,G8,I,List.find?_nil];rfl
  |true =>
   simp only[cond_true,fg,G8,I,HS,HP];rw[wh (k+2) x.2 X.2 O];simp only[FJ];by_cases H:gr x.2=[]
   ·rw[H];rfl
   ·have Y:0<(gr x.2).length:=GW.2 H;rw[decide_eq_true H,decide_eq_true (by omega:((gr x.2).length:Int)>0)];simp only[cond_true,GU];cases bz .i64 d 4==0 with
    |false=>rfl
    |true =>
     simp only[cond_true];rw[decide_eq_false (by omega:¬ ((gr x.2).length:Int)=0),(iY H).1,(iY H).2.1];rfl
 |_::_::_=>exact absurd h.short (by rw[z];simp)
def mu (n:aa):Bool:=decide (n.1∈gr (aa.table n))
theorem Al (K:Nat)(n:aa)(R:(aa.table n).length<=1048576)(J:1048577<K):Q230.f K (n,())=rb (mu n):=by
 simp only[Q230.f,Q230.pre];rw[show Q229.f K (n.2.2.2.2.2.2.2.2.1,2,())=_ from wh K (aa.table n) R J];simp only[FJ];have M:=yu (aa.table n);unfold mu;generalize gr (aa.table n)=g at M ⊢;have:=cG (step:=λrec a=>Q230.s0 K (n,()) rec a) g.length (λi=>(g,(i:Int))) (λj=>∃ h:j<g.length,g[j]=n.1) (rb false) (λ_=>rb true) ?_ ?_ g.length K 0 (by omega) (by omega)
 ·rcases this with ⟨y,u⟩|⟨j,_,y,⟨H,I⟩,_,u⟩
  ·rw[decide_eq_false (λO=>by
    obtain⟨i,r,e⟩:=FR O;exact y i (FY _) r ⟨r,e⟩)]
   exact u
  ·rw[decide_eq_true (I ▸ FL H:n.1∈g)];exact u
 ·intro rec i r;simp only[Q230.s0];rw[bt (by omega:(i:Int)<(FK g:Int)),af r,ar i (by omega),FN,af r];simp only[cond_true,FJ];by_cases h:g[i]=n.1
  ·exact .inr ⟨⟨r,h⟩,by rw[show (g[i]==n.1)=true by simpa using h];rfl⟩
  ·exact .inl ⟨λ⟨_,z⟩=>h z,by rw[show (g[i]==n.1)=false by simpa using h];rfl⟩
 ·intro rec;simp only[Q230.s0,aS];rfl
theorem Et (K:Nat)(g:List Int)(v:Int)(R:g.length<=1048576)(O:1048577<K):Q132.f K (g,v,())=rb (decide (v∈g)):=by
 have:=cG (step:=λrec a=>Q131.s0 K (g,v,()) rec a) g.length (λi=>(i:Int)) (λj=>∃ h:j<g.length,v=g[j]) (some ((-1,()),())) (λj=>some ((((j:Nat):Int),()),())) ?_ ?_ g.length K 0 (by omega) (by omega)
 ·simp only[Q132.f];rcases this with ⟨y,u⟩|⟨j,_,y,⟨I,J⟩,_,u⟩
  ·have e:Q131.f K (g,v,())=some ((-1,()),()):=u;rw[e,decide_eq_false (λM=>by
    obtain⟨i,r,z⟩:=FR M;exact y i (FY _) r ⟨r,z.symm⟩)]
   rfl
  ·have e:Q131.f K (g,v,())=some ((((j:Nat):Int),()),()):=u;rw[e,decide_eq_true (J ▸ FL I:v∈g)];simp only[FJ];rw[decide_eq_true (by omega:((j:Nat):Int)>=0)]
 ·intro rec i r;simp only[Q131.s0];rw[bt (by omega:(i:Int)<(FK g:Int)),af r,ar i (by omega)];simp only[cond_true,FJ];by_cases h:v=g[i]
  ·exact .inr ⟨⟨r,h⟩,by rw[show (v==g[i])=true by simpa using h];rfl⟩
  ·exact .inl ⟨λ⟨_,H⟩=>h H,by rw[show (v==g[i])=false by simpa using h];rfl⟩
 ·intro rec;simp only[Q131.s0,aS];rfl
def wanW (n:aa)(d r:Int):aj:=(2,(oY 6 n (m7 n r d)).2)
def m8 (n:aa)(d:Int):List aj:=bif mu n then (([0,1]:List Int).filter (λs=>s != ak n.1)).map (wanW n d) else []
theorem wan_s (K:Nat)(n:aa)(d:Int)(h:o7 n)(y:(aa.table n).length<=1048576)(u:1048577<K):Q232.f K (n,d,())=some ((m8 n d,()),()):=by
 simp only[Q232.f,Q232.pre];rw[Al K n y u];simp only[FJ,m8];cases mu n with
 |false=>rfl
 |true =>
  simp only[FS,cond_false,cond_true];refine rH (step:=λrec a=>Q232.s0 K (n,d,()) rec a) ([0,1]:List Int) (λs=>s != ak n.1) (wanW n d) (λr i=>(r,(i:Int))) (λM=>some ((M,()),())) ?_ ?_ (by simp;omega)
  ·intro rec r i H z;have I:i<2:=H;have J:([0,1]:List Int)[i]=(i:Int):=by
    have:i=0\/i=1:=by omega
    rcases this with rfl|rfl <;> rfl
   simp only[Q232.s0,J];rw[decide_eq_true (by omega:(i:Int)<=1),ar i (by omega),de K n.1];simp only[cond_true,FJ];cases (i:Int) != ak n.1 with
   |false=>rfl
   |true =>
    simp only[cond_true];rw[far_s K n (i:Int) d h (by omega) (by omega) u];simp only[FJ];refine (congrArg (λo=>GL o _) (oZ K n 6 (m7 n (i:Int) d) y)).trans ?_;simp only[FJ];rw[szw _ _ _ (by omega) (by simp;omega)];rfl
  ·intro rec r z;simp only[Q232.s0];rfl
theorem Eu (K:Nat)(n:aa)(d:Int)(M:NB n)(h:o7 n)(X:aE (aa.table n))(I:1048577<K):Q135.f K (n,d,())=some ((m8 n d,()),()):=by
 have O:=M.table;simp only[Q135.f,Q135.pre];rw[show Q134.f K (n.2.2.2.2.2.2.2.2.1,2,())=_ from Eh K (aa.table n) O I X];simp only[FJ];rw[Et K (gr (aa.table n)) n.1 (F1 (yu _) (by decide)) I];simp only[FJ,m8];show (bif !(mu n) then _ else _)=_;cases mu n with
 |false=>rfl
 |true =>
  simp only[FS,cond_false,cond_true];rw[ml K 7];simp only[FJ,show wr .i64 (ak 7+1)=2 from rfl];refine rH (step:=λrec a=>Q135.s0 K (n,d,()) rec a) ([0,1]:List Int) (λs=>s != ak n.1) (wanW n d) (λr i=>(r,(2:Int),(i:Int))) (λws=>some ((ws,()),())) ?_ ?_ (by simp;omega)
  ·intro rec r i Z Y;have a0:i<2:=Z;have hv:([0,1]:List Int)[i]=(i:Int):=by
    have:i=0\/i=1:=by omega
    rcases this with rfl|rfl <;> rfl
   simp only[Q135.s0,hv];rw[decide_eq_true (by omega:(i:Int)<2),ar i (by omega),mm K n];simp only[cond_true,FJ];rw[show ((i:Int) != ak n.1)=!((i:Int)==ak n.1) from rfl];cases (i:Int)==ak n.1 with
   |true=>rfl
   |false =>
    simp only[cond_false,F9,cond_true];rw[Bw K n (i:Int) M I];simp only[FJ];have H:aE (fg (aa.others n) (i:Int))/\(fg (aa.others n) (i:Int)).length<=1048576:=by
     rcases sn (l:=aa.others n) (s:=(i:Int)) with e|⟨x,hx,_,e⟩
     ·rw[e];exact⟨⟨by simp,List.Pairwise.nil⟩,by simp⟩
     ·rw[e];exact h.table x hx
    rw[Eh K _ H.2 I H.1];simp only[FJ];rw[CA (by omega) (by omega)];have hw:=λto=>BB K n 6 to O
    have u:∀ to,to=m7 n (i:Int) d->((Q66.f K (n,6,to,())).bind λR=>bif decide ((FK r+FK ([(2,R.1.1.2)]))*104<=am) then (rec (r++([(2,R.1.1.2)]),(2:Int),((i+1:Nat):Int))) else none)=rec (r++[wanW n d (i:Int)],(2:Int),((i+1:Nat):Int)):=by
     intro to J;rw[hw to,J];simp only[FJ];rw[szw _ _ _ (by omega) (by simp;omega)];rfl
    by_cases y:gr (fg (aa.others n) (i:Int))=[]
    ·rw[y];refine u _ ?_;rw[m7,y];rfl
    ·have hl:0<(gr (fg (aa.others n) (i:Int))).length:=GW.2 y;rw[decide_eq_true (by omega:((gr (fg (aa.others n) (i:Int))).length:Int)>0)];simp only[cond_true];cases z:bz .i64 d 4==0 with
     |false =>
      refine u _ ?_;rw[m7,z,HE];rfl
     |true =>
      simp only[cond_true];rw[decide_eq_false (by omega:¬ ((gr (fg (aa.others n) (i:Int))).length:Int)=0),(iY y).1,(iY y).2.1];simp only[cond_false,FJ];refine u _ ?_;rw[m7,z,decide_eq_true y];rfl
  ·intro rec r Y;simp only[Q135.s0];rfl
def ur (n:aa)(f:ah):Bool:=f.2.2.1 != 4&&f.1 != n.1
def fW (n:aa):List Int:=((aa.table n).filter (ur n)).map (·.1)
def ut (n:aa)(to:Int):List aj:=match aa.others n with
 |[]=>[]
 |x::_=>[(1,6,n.1,to,0,n.1,aa.coord n,x.2)]
def kR (n:aa)(r:Int):List aj :=
 bif bz .i64 r 3==1 then m8 n (F5 r (2 ^ 2)) else
 bif bz .i64 r 3==3||decide (fW n=[]) then [] else
 bif bz .i64 r 3==0 then [oY 4 n (iu (fW n) (F5 r (2 ^ 2)))] else ut n (iu (fW n) (F5 r (2 ^ 2)))
theorem and3 (a:Int):bz .i64 a 3=0\/bz .i64 a 3=1\/bz .i64 a 3=2\/bz .i64 a 3=3:=by
 obtain⟨r,u⟩:=mt (a:=a) (m:=3) (by omega);have r:0<=bz .i64 a 3:=r;have u:bz .i64 a 3<=3:=u;omega
theorem yJ {n:aa}(r:aE (aa.table n)){v:Int}(y:v∈fW n):0<=v:=by
 obtain⟨f,u,rfl⟩:=F2.1 y;exact (r.1 f (FQ.1 u).1).1.1
theorem CB (K:Nat)(n:aa)(d:Int)(M:(aa.table n).length<=1048576)(H:1048577<K):Q228.f K (n,d,())=some ((bif decide (fW n=[]) then -1 else iu (fW n) d,()),()):=by
 refine (wY (step:=λrec a=>Q228.s0 K (n,d,()) rec a) (aa.table n) (ur n) (λf=>f.1) (λy=>some ((bif decide (y=[]) then -1 else iu y d,()),())) ?_ ?_ (by omega)).trans rfl
 ·intro rec r i z I;simp only[Q228.s0];rw[show decide ((i:Int)<(FK n.2.2.2.2.2.2.2.2.1:Int))=true from bt (by omega:(i:Int)<(FK (aa.table n):Int)),show idx n.2.2.2.2.2.2.2.2.1 (i:Int)=some (aa.table n)[i] from af z,ar i (by omega)];simp only[cond_true,FJ,ur];rw[szb _ _ _ (by omega) (by simp;omega)];cases (aa.table n)[i].1 != n.1 <;> cases (aa.table n)[i].2.2.1 != 4 <;> rfl
 ·intro rec r _;simp only[Q228.s0];rw[show decide ((FK (aa.table n):Int)<(FK n.2.2.2.2.2.2.2.2.1:Int))=false from aS _];simp only[cond_false];by_cases u:r=[]
  ·subst u;rfl
  ·have J:0<r.length:=GW.2 u;rw[show ((r.length:Int)==0)=false by simp;exact u,decide_eq_false (by omega:¬ (r.length:Int)=0),decide_eq_false u,(iY u).1,(iY u).2.1];rfl
theorem CC (K:Nat)(n:aa)(r:Int)(h:o7 n)(J:aE (aa.table n))(H:(aa.table n).length<=1048576)(I:1048577<K):Q233.f K (n,r,())=some ((kR n r,()),()):=by
 simp only[Q233.f];rw[CB K n _ H I];simp only[FJ];rw[wan_s K n _ h H I];simp only[FJ,kR];by_cases u:fW n=[]
 ·rw[decide_eq_true u];simp only[cond_true,HV,show decide ((-1:Int)>=0)=false from rfl,cond_false];rcases and3 r with e|e|e|e <;> rw[e] <;> rfl
 ·have O:=yJ J (iY (d:=F5 r (2 ^ 2)) u).2.2;rw[decide_eq_false u];simp only[cond_false,Bool.or_false];rw[decide_eq_true (by omega:iu (fW n) (F5 r (2 ^ 2))>=0)];simp only[cond_true];rw[show Q161.f K (n,4,iu (fW n) (F5 r (2 ^ 2)),0,n.1,n.2.2.2.2.2.2.2.2.1,())=_ from oZ K n 4 _ H];simp only[FJ];rcases and3 r with e|e|e|e
  ·rw[e];rfl
  ·rw[e];rfl
  ·rw[e];simp only[show ((2:Int)==0)=false from rfl,show ((2:Int)==1)=false from rfl,show ((2:Int)==2)=true from rfl,show ((2:Int)==3)=false from rfl,cond_false,cond_true];unfold ut
   match y:aa.others n with
   |[] =>
    rw[show decide ((FK n.2.2.2.2.2.2.2.2.2.2.2.2.2.2:Int)>0)=false by show decide (((aa.others n).length:Int)>0)=false;rw[y];rfl];rfl
   |[x] =>
    have M:=h.table x (by rw[y];simp);have z:(aa.others n).length=1:=by rw[y];rfl
    rw[show decide ((FK n.2.2.2.2.2.2.2.2.2.2.2.2.2.2:Int)>0)=true by show decide (((aa.others n).length:Int)>0)=true;rw[z];rfl,show decide ((FK n.2.2.2.2.2.2.2.2.2.2.2.2.2.2:Int)=0)=false by show decide (((aa.others n).length:Int)=0)=false;rw[z];rfl];simp only[cond_true,cond_false];rw[show idx n.2.2.2.2.2.2.2.2.2.2.2.2.2.2 (GJ (bz .i64 (F5 r (2 ^ 10)) 255) (FK n.2.2.2.2.2.2.2.2.2.2.2.2.2.2:Int))=some x by
     show idx (aa.others n) (GJ (bz .i64 (F5 r (2 ^ 10)) 255) ((aa.others n).length:Int))=some x;rw[z,y,show ((1:Nat):Int)=1 from rfl,Int.tmod_one];rfl]
    simp only[FJ,Q161.f];rw[szb _ _ _ (by omega) (by have:=M.2;simp;omega)];rfl
   |_::_::_=>exact absurd h.short (by rw[y];simp)
  ·rw[e];rfl
theorem EA (K:Nat)(n:aa)(r:Int)(J:NB n)(h:o7 n)(O:aE (aa.table n))(I:1048577<K):Q137.f K (n,r,())=some ((kR n r,()),()):=by
 have M:=J.table;simp only[Q137.f,zcp4];rw[Eu K n _ J h O I];simp only[FJ,kR];cases bz .i64 r 3==1 with
 |true=>rfl
 |false =>
  simp only[cond_false];rw[show Q116.f K (n.2.2.2.2.2.2.2.2.1,(λX=>(Q136.f K (X.1,n,())).map λy=>y.1.1),())=_ from D8 K (aa.table n) _ (ur n) M I (λf _=>by
   simp only[Q136.f,ur];cases f.2.2.1 != 4 <;> cases f.1 != n.1 <;> rfl)]
  simp only[FJ];show (bif bz .i64 r 3==3 then some (([],()),()) else (bif ((fW n).length:Int)==0 then _ else _))=_;cases bz .i64 r 3==3 with
  |true=>rfl
  |false =>
   simp only[cond_false,Gu];by_cases u:fW n=[]
   ·rw[decide_eq_true u,show (((fW n).length:Int)==0)=true by rw[u];rfl];rfl
   ·have Y:0<(fW n).length:=GW.2 u;rw[decide_eq_false u,show (((fW n).length:Int)==0)=false by simp;exact u];simp only[cond_false];show (bif decide (((fW n).length:Int)=0) then none else ((idx (fW n) (GJ (bz .i64 (F5 r (2 ^ 2)) 255) ((fW n).length:Int))).bind λ_=>(idx (fW n) ((FM (GJ (bz .i64 (F5 r (2 ^ 2)) 255) ((fW n).length:Int)):Nat):Int)).bind λZ=>_))=_;rw[decide_eq_false (by omega:¬ ((fW n).length:Int)=0),(iY u).1,(iY u).2.1];simp only[cond_false,FJ];cases bz .i64 r 3==0 with
    |true =>
     simp only[cond_true];rw[BB K n 4 _ M];rfl
    |false =>
     simp only[cond_false,Q65.f,FJ,Q0.f];unfold ut
     match H:aa.others n with
     |[] =>
      rw[show ((FK n.2.2.2.2.2.2.2.2.2.2.2.2.2.2:Int)==0)=true by show (((aa.others n).length:Int)==0)=true;rw[H];rfl];rfl
     |[x] =>
      have R:=h.table x (by rw[H];simp);have z:(aa.others n).length=1:=by rw[H];rfl
      rw[show ((FK n.2.2.2.2.2.2.2.2.2.2.2.2.2.2:Int)==0)=false by show (((aa.others n).length:Int)==0)=false;rw[z];rfl,show decide ((FK n.2.2.2.2.2.2.2.2.2.2.2.2.2.2:Int)=0)=false by show decide (((aa.others n).length:Int)=0)=false;rw[z];rfl];simp only[cond_false];rw[show idx n.2.2.2.2.2.2.2.2.2.2.2.2.2.2 (GJ (bz .i64 (F5 (F5 r (2 ^ 2)) (2 ^ 10)) 255) (FK n.2.2.2.2.2.2.2.2.2.2.2.2.2.2:Int))=some x by
       show idx (aa.others n) (GJ (bz .i64 (F5 (F5 r (2 ^ 2)) (2 ^ 10)) 255) ((aa.others n).length:Int))=some x;rw[z,H,show ((1:Nat):Int)=1 from rfl,Int.tmod_one];rfl]
      simp only[FJ];rw[dR (by have:=R.2;omega)];rfl
     |_::_::_=>exact absurd h.short (by rw[H];simp)
def rk (f:ah):Int:=f.2.1*16+f.2.2.1*2+(if f.2.2.2=true then 1 else 0)
theorem rM {f g:ah}(r:bw f)(u:bw g):bP f g<->rk g<rk f:=by
 obtain⟨_,_,y,z⟩:=r;obtain⟨_,_,H,I⟩:=u;unfold bP rk;by_cases a:f.2.1=g.2.1
 ·rw[if_neg (by simpa using a)];by_cases c:f.2.2.1=g.2.2.1
  ·rw[if_neg (by simpa using c),a,c];cases f.2.2.2 <;> cases g.2.2.2 <;> simp <;> omega
  ·rw[if_pos c];cases f.2.2.2 <;> cases g.2.2.2 <;> simp <;> omega
 ·rw[if_pos a];cases f.2.2.2 <;> cases g.2.2.2 <;> simp <;> omega
theorem pt {t:List ah}(H:Asc (λg:ah=>g.1) t)(f:ah):bZ t f=(t,false)\/(bZ t f=(bD (λg=>g.1) f t,true)/\∀ g∈t,g.1=f.1->bP f g):=by
 by_cases h:∃ g∈t,g.1=f.1
 ·obtain⟨g,r,e⟩:=h;obtain⟨i,J,rfl⟩:=FR r;rw[k7 H J e];by_cases y:bP f t[i]
  ·rw[if_pos y];refine .inr ⟨rfl,λM u I=>?_⟩;rw[iT H u r (by rw[e,I])];exact y
  ·rw[if_neg y];exact .inl rfl
 ·have z:∀ g∈t,g.1≠f.1:=λg r e=>h ⟨g,r,e⟩
  exact .inr ⟨iU z,λg r e=>absurd e (z g r)⟩
theorem pu {n:aa}(R:aE (aa.table n)):jj n<->(∀ d∈aa.doubts n,mn n d)/\Asc (λd:bV=>d.1) (aa.doubts n)/\∀ f∈aa.table n,f.2.2.1=2->∃ d∈aa.doubts n,d.1=f.1:=by
 have M:((aW (aa.table n)).map (λf:ah=>f.1)).Pairwise (·<·):=by
  rw[F7];exact Gg _ R.2
 constructor
 ·rintro⟨h1,h2,h3⟩;refine⟨h1,h2,λf H u=>?_⟩;have r:((aa.doubts n).map (λd:bV=>d.1)).Pairwise (·<·):=by rw[F7];exact h2
  have:=(jL _ _ r M (λx y=>by
   obtain⟨d,r,rfl⟩:=F2.1 y;obtain⟨⟨g,J,e,z,_⟩,_⟩:=h1 d r;exact F2.2 ⟨g,FQ.2 ⟨J,by simpa using z⟩,e⟩)).2 (by rw[FW,FW,h3])
  have O:f.1∈(aW (aa.table n)).map (λf:ah=>f.1):=F2.2 ⟨f,FQ.2 ⟨H,by simpa using u⟩,rfl⟩;rw[<- this]at O;obtain⟨d,r,e⟩:=F2.1 O;exact⟨d,r,e⟩
 ·rintro⟨h1,h2,h3⟩;refine⟨h1,h2,?_⟩;have r:((aa.doubts n).map (λd:bV=>d.1)).Pairwise (·<·):=by rw[F7];exact h2
  have X:=(jL _ _ r M (λx y=>by
   obtain⟨d,r,rfl⟩:=F2.1 y;obtain⟨⟨g,J,e,z,_⟩,_⟩:=h1 d r;exact F2.2 ⟨g,FQ.2 ⟨J,by simpa using z⟩,e⟩)).1
  have Y:=(jL _ _ M r (λx y=>by
   obtain⟨f,H,rfl⟩:=F2.1 y;obtain⟨I,u⟩:=FQ.1 H;obtain⟨d,r,e⟩:=h3 f I (by simpa using u);exact F2.2 ⟨d,r,e⟩)).1
  rw[FW,FW]at X Y;omega
def cg (n:aa):Int:=n.2.2.2.2.2.1
def fX (n:aa)(b:Int):Prop:=InP b 0 7/\ak b=ak n.1
theorem pv {n:aa}(r:Asc (λg:ah=>g.1) (aa.table n))(f:ah)(b:Int):sayOf n f b=n \/
  (sayOf n f b=gG n (bD (λg=>g.1) f (aa.table n)) (dF (aa.cast n) f) (bif kI n f then aa.doubts n else cZ (cg n) (aa.doubts n) f b)/\∀ g∈aa.table n,g.1=f.1->bP f g):=by
 rcases pt r f with h|⟨h,u⟩
 ·left;unfold sayOf;rw[h];rfl
 ·right;refine⟨?_,u⟩;unfold sayOf;rw[h];rfl
theorem xj {n:aa}{f:ah}{b:Int}(Y:aE (aa.table n))(hD:jj n)(hf:bw f)(hb:fX n b)(hn:0<=cg n)(c:List aO) :
  jj (gG n (bD (λg=>g.1) f (aa.table n)) c (bif kI n f then aa.doubts n else cZ (cg n) (aa.doubts n) f b)):=by
 obtain⟨h1,h2,h3⟩:=(pu Y).1 hD;have a0:aE (bD (λg:ah=>g.1) f (aa.table n)):=⟨λg y=>by
  rcases bd.1 y with rfl|⟨y,_⟩
  ·exact hf
  ·exact Y.1 g y,fI Y.2⟩
 refine (pu (n:=gG n _ c _) a0).2 ?_;have J:∀ d∈aa.doubts n,d.1≠f.1->∀ ds,mn (gG n (bD (λg:ah=>g.1) f (aa.table n)) c ds) d:=λd z u ds=>by
  obtain⟨⟨g,y,O,R,X⟩,r⟩:=h1 d z;exact⟨⟨g,bd.2 (.inr ⟨y,by rw[O];exact u⟩),O,R,X⟩,r⟩
 have I:∀ g∈bD (λg:ah=>g.1) f (aa.table n),g.1≠f.1->g.2.2.1=2->∃ d∈aa.doubts n,d.1=g.1:=λg y u h=>by
  rcases bd.1 y with rfl|⟨y,_⟩
  ·exact absurd rfl u
  ·exact h3 g y h
 cases hs:kI n f with
 |true =>
  obtain⟨g0,M,s1,s2,s3⟩:=of_decide_eq_true hs;refine⟨λd z=>?_,h2,λg y h=>?_⟩
  ·by_cases u:d.1=f.1
   ·obtain⟨⟨g,y,O,R,X⟩,r⟩:=h1 d z;rw[iT Y.2 y M (by rw[O,s1,u])]at R X;exact⟨⟨f,bd.2 (.inl rfl),u.symm,by rw[<- s3];exact R,by rw[<- s2];exact X⟩,r⟩
   ·exact J d z u _
  ·by_cases u:g.1=f.1
   ·have a1:g=f:=by
     rcases bd.1 y with h|⟨_,h⟩
     ·exact h
     ·exact absurd u h
    rw[a1]at h ⊢;obtain⟨d,z,e⟩:=h3 g0 M (by rw[s3];exact h);exact⟨d,z,by rw[e,s1]⟩
   ·exact I g y u h
 |false =>
  by_cases H:f.2.2.1=2
  ·have e:cZ (cg n) (aa.doubts n) f b=bD (λd=>d.1) (mkD (cg n) f b) (aa.doubts n):=by unfold cZ;rw[if_pos H]
   simp only[cond_false];rw[e];refine⟨λd z=>?_,fI h2,λg y h=>?_⟩
   ·rcases bd.1 z with rfl|⟨z,u⟩
    ·exact⟨⟨f,bd.2 (.inl rfl),rfl,H,rfl⟩,⟨hn,GY _⟩,List.cons_ne_nil _ _,λx hx=>by rw[GF.1 hx];exact hb,G5 _ _⟩
    ·exact J d z u _
   ·by_cases u:g.1=f.1
    ·exact⟨mkD (cg n) f b,bd.2 (.inl rfl),u.symm⟩
    ·obtain⟨d,z,e⟩:=I g y u h;exact⟨d,bd.2 (.inr ⟨z,λe'=>u (e.symm.trans e')⟩),e⟩
  ·have e:cZ (cg n) (aa.doubts n) f b=(aa.doubts n).filter (λd=>!(d.1==f.1)):=by unfold cZ;rw[if_neg H]
   simp only[cond_false];rw[e];refine⟨λd z=>?_,mU h2 _,λg y h=>?_⟩
   ·obtain⟨z,u⟩:=FQ.1 z;exact J d z (by simpa using u) _
   ·have u:g.1≠f.1:=λu=>by
     rcases bd.1 y with Z|⟨_,Z⟩
     ·rw[Z]at h;exact H h
     ·exact Z u
    obtain⟨d,z,e⟩:=I g y u h;exact⟨d,FQ.2 ⟨z,by rw[e];simpa using u⟩,e⟩
theorem xk {n:aa}{f:ah}(R:aE (aa.table n))(O:da (aa.cast n))(X:iD (aa.table n) (aa.cast n))(M:bw f)(Y:∀ g∈aa.table n,g.1=f.1->bP f g) :
  iD (bD (λg=>g.1) f (aa.table n)) (dF (aa.cast n) f):=by
 have I:∀ x∈aa.cast n,∃ g∈bD (λg:ah=>g.1) f (aa.table n),g.1=x.1.1/\¬ bP x.1 g:=λx r=>by
  obtain⟨g,J,e,z⟩:=X x r;by_cases u:g.1=f.1
  ·refine⟨f,bd.2 (.inl rfl),by rw[<- e,u],λh=>z ?_⟩;have H:=(O.1 x r).1;have y:=R.1 g J;have:=Y g J u;rw[rM M y]at this;rw[rM H M]at h;rw[rM H y];omega
  ·exact⟨g,bd.2 (.inr ⟨J,u⟩),e,z⟩
 intro x r;unfold dF at r;split at r
 ·exact I x r
 ·rcases bd.1 r with rfl|⟨r,_⟩
  ·exact⟨f,bd.2 (.inl rfl),rfl,yI f⟩
  ·exact I x r
structure UpX (n:aa):Prop where
 me:InP n.1 0 7
 now0:0<=cg n
 table:aE (aa.table n)
 site:cn (aa.table n) (ak n.1)
 cast:da (aa.cast n)
 vs:iD (aa.table n) (aa.cast n)
 probe:dm n
 doubts:jj n
 coord:bX (aa.coord n)
 places:eT n.1 (aa.places n)
 others:dn n.1 (aa.others n)
theorem UpX.of {n:aa}(h:UpP n)(X:InP n.1 0 7)(z:0<=cg n):UpX n:=by
 obtain⟨O,M,_,⟨H,R⟩,J,I,r,y,u⟩:=h;exact⟨X,z,O,M,H,R,J,I,r,y,u⟩
theorem UpX.up {n:aa}(h:UpX n)(r:dt n):UpP n:=⟨h.table,h.site,r,⟨h.cast,h.vs⟩,h.probe,h.doubts,h.coord,h.places,h.others⟩
theorem UpX.say {n:aa}(h:UpX n):cH n:=by
 refine cH.mk' h.table h.cast h.doubts.2.1 λd r=>?_
 obtain⟨f,u,e,_⟩:=(h.doubts.1 d r).1;rw[<- e];exact (h.table.1 f u).1
theorem fX.me {n:aa}(h:InP n.1 0 7):fX n n.1:=⟨h,rfl⟩
theorem sw {n m:aa}(h:dm n)(J:m.1=n.1)(O:aa.probe m=aa.probe n)(X:∀ g∈aa.table n,∃ r∈aa.table m,r.1=g.1)(M:cg n<=cg m)(R:n.2.2.2.2.2.2.1<=m.2.2.2.2.2.2.1):dm m:=by
 unfold dm at h ⊢;rw[O,J];split at h
 ·rename_i u;rw[if_pos u];exact h
 ·rename_i u;rw[if_neg u];obtain⟨Y,⟨g,I,H⟩,⟨Z,p3⟩,⟨p4,p5⟩⟩:=h;obtain⟨r,y,z⟩:=X g I;exact⟨Y,⟨r,y,z.trans H⟩,⟨Z,Gw p3 M⟩,⟨p4,Gw p5 R⟩⟩
theorem UpX.said {n:aa}{f:ah}{b:Int}(h:UpX n)(u:bw f)(I:ak f.1=ak n.1)(z:fX n b):UpX (sayOf n f b):=by
 rcases pv h.table.2 f b with e|⟨e,H⟩
 ·rw[e];exact h
 ·have y:=λg r=>kk (n:=n) (f:=f) (b:=b) (g:=g) r
  rw[e]at y ⊢;refine⟨h.me,h.now0,⟨λg r=>?_,fI h.table.2⟩,λg r=>?_,qK h.cast u,xk h.table h.cast h.vs u H,sw h.probe rfl rfl y (GY _) (GY _),xj h.table h.doubts u z h.now0 _,h.coord,h.places,h.others⟩
  ·rcases bd.1 r with rfl|⟨r,_⟩
   ·exact u
   ·exact h.table.1 g r
  ·rcases bd.1 r with rfl|⟨r,_⟩
   ·exact I
   ·exact h.site g r
theorem yK {n:aa}(u:Asc (λg:ah=>g.1) (aa.table n)){f g:ah}{b:Int}(r:g.1≠f.1):g∈aa.table (sayOf n f b)<->g∈aa.table n:=by
 rcases pv u f b with e|⟨e,_⟩
 ·rw[e]
 ·rw[e];exact bd.trans ⟨λh=>h.elim (λh=>absurd (by rw[h]) r) (·.1),λh=>.inr ⟨h,r⟩⟩
theorem sx {n:aa}(y:Asc (λg:ah=>g.1) (aa.table n)){f:ah}{b:Int}(h:∀ g∈aa.table n,g.1=f.1->bP f g):f∈aa.table (sayOf n f b):=by
 have I:bZ (aa.table n) f=(bD (λg=>g.1) f (aa.table n),true):=by
  rcases pt y f with e|⟨e,_⟩
  ·by_cases z:∃ g∈aa.table n,g.1=f.1
   ·obtain⟨g,r,u⟩:=z;obtain⟨i,H,rfl⟩:=FR r;rw[k7 y H u,if_pos (h _ r u)]
   ·exact iU λg r e=>z ⟨g,r,e⟩
  ·exact e
 unfold Go.Proofs.YtmibehbhnkeaiaaGreatEv.sayOf;rw[I];exact bd.2 (.inl rfl)
def OnN (n m:aa):Prop:=∃ t c r,m=gG n t c r
theorem OnN.refl (n:aa):OnN n n:=⟨_,_,_,rfl⟩
theorem OnN.say {n m:aa}(h:OnN n m)(f:ah)(b:Int):OnN n (Go.Proofs.YtmibehbhnkeaiaaGreatEv.sayOf m f b):=by
 obtain⟨t,c,y,rfl⟩:=h;obtain⟨z,u,r,e,_⟩:=jm (gG n t c y) f b;exact⟨z,u,r,e⟩
def m9 (n:aa):ah:=(n.1,n.2.2.2.2.1,(if n.2.2.1=true then 4 else 1),n.2.2.2.1)
theorem qc {n m:aa}(J:Asc (λg:ah=>g.1) (aa.table m))(y:OnN n m){f:ah}{b:Int}(r:f.1≠n.1)(h:dt m):dt (sayOf m f b):=by
 obtain⟨t,c,O,e⟩:=y.say f b;obtain⟨R,M,z,H⟩:=y;have I:m9 n∈aa.table m:=by rw[H]at h ⊢;exact h
 have u:=(yK J (f:=f) (b:=b) (g:=m9 n) (λh=>r h.symm)).2 I;rw[e]at u ⊢;exact u
theorem Am {n:aa}(h:UpX n)(I:dt n){d:bV}(y:d∈aa.doubts n):d.1≠n.1:=by
 obtain⟨⟨g,z,e,r,_⟩,_⟩:=h.doubts.1 d y;intro H;have u:m9 n∈aa.table n:=I;have:=iT h.table.2 z u (by rw[e,H];rfl);rw[this]at r;revert r;show (if n.2.2.1=true then (4:Int) else 1)=2->False;split <;> omega
theorem nZ {n:aa}(h:UpX n)(hs:dt n):UpX (la n)/\dt (la n)/\OnN n (la n):=by
 have:=mW (st:=iW) (Inv:=λm=>(UpX m/\dt m/\OnN n m)/\∀ g∈aa.table n,∃ z∈aa.table m,z.1=g.1) (ds:=aa.doubts n) (n:=n) ⟨⟨h,hs,OnN.refl n⟩,λg u=>⟨g,u,rfl⟩⟩ ?_
 ·exact this.1
 ·rintro m d Z ⟨⟨r,y,X⟩,M⟩;have R:=Am h hs Z;unfold iW;cases rI m.2.2.2.2.2.1 d.2.2.1 d.2.2.2.length with
  |false=>exact⟨⟨r,y,X⟩,M⟩
  |true =>
   obtain⟨⟨g,u,e,_⟩,_⟩:=h.doubts.1 d Z;obtain⟨z,H,e'⟩:=M g u;obtain⟨h1,h2,h3⟩:=eP r.table ⟨z,H,e'.trans e⟩;have Y:ak (lx (aT (aa.table m) d.1)).1=ak m.1:=by
    show ak (aT (aa.table m) d.1).1=ak m.1;exact r.site _ h3
   have O:(lx (aT (aa.table m) d.1)).1≠n.1:=by rw[show (lx (aT (aa.table m) d.1)).1=_ from h2];exact R
   refine⟨⟨r.said (wk h1) Y (fX.me r.me),qc r.table.2 X O y,X.say _ _⟩,λg u=>?_⟩;obtain⟨g1,I,e1⟩:=M g u;obtain⟨g2,J,e2⟩:=kk (f:=lx (aT (aa.table m) d.1)) (b:=m.1) I;exact⟨g2,J,e2.trans e1⟩
theorem UpX.setProbe {n:aa}(h:UpX n){p:ah}(r:dm (setP n p)):UpX (setP n p):=⟨h.me,h.now0,h.table,h.site,h.cast,h.vs,r,h.doubts,h.coord,h.places,h.others⟩
theorem yL (n:aa):dm (setP n noP):=by
 unfold dm;exact (if_pos rfl).mpr rfl
theorem yM {n:aa}(h:UpX n)(H:dt n):UpX (dA n).1/\dt (dA n).1/\∃ p,OnN (setP n p) (dA n).1:=by
 have r:UpX n/\dt n/\∃ p,OnN (setP n p) n:=⟨h,H,aa.probe n,OnN.refl n⟩;have y:UpX (setP n noP):=h.setProbe (yL n);unfold dA;cases X:(aa.probe n).1==-1 with
 |true=>exact r
 |false =>
  have z:(aa.probe n).1≠-1:=by simpa using X
  have u:=h.probe;unfold dm at u;rw[if_neg z]at u;simp only[cond_false];cases R:eZ (aT (aa.table n) (aa.probe n).1) with
  |false=>exact⟨y,H,_,OnN.refl _⟩
  |true =>
   obtain⟨J,M,O⟩:=eP h.table (iG R);simp only[FS,cond_false];cases decide (n.2.2.2.2.2.1-(aa.probe n).2.1>=4) with
   |true =>
    simp only[cond_true];cases (aT (aa.table n) (aa.probe n).1).2.2.1==1 with
    |true =>
     have I:ak (qM (aT (aa.table n) (aa.probe n).1)).1=ak (setP n noP).1:=by
      show ak (aT (aa.table n) (aa.probe n).1).1=ak n.1;exact h.site _ O
     refine⟨y.said (BD J) I (fX.me (n:=setP n noP) h.me),qc (n:=setP n noP) (m:=setP n noP) h.table.2 (OnN.refl (setP n noP)) ?_ H,noP,(OnN.refl (setP n noP)).say _ _⟩;rw[show (qM (aT (aa.table n) (aa.probe n).1)).1=_ from M];exact u.1
    |false=>exact⟨y,H,_,OnN.refl _⟩
   |false =>
    simp only[cond_false];cases decide (n.2.2.2.2.2.1-(aa.probe n).2.1>=2) with
    |false=>exact r
    |true =>
     simp only[cond_true];cases (aa.probe n).2.2.2 with
     |true=>exact r
     |false =>
      refine⟨h.setProbe ?_,H,_,OnN.refl _⟩;show dm (mq n);unfold dm;rw[if_neg (show ¬ (aa.probe (mq n)).1=-1 from z)];exact u
def jA (n:aa):Option Int:=((List.range 8).map (cQ n)).find? λx=>x != n.1&&eZ (aT (aa.table n) x)
def kt (n:aa):Int:=n.2.2.2.2.2.2.1
def d9 (n:aa):aa×List aj:=bif decide (kt n>=999999) then (n,[]) else match jA n with
 |some to=>(D9 n to,[Ec n to])
 |none=>(n,[])
theorem sA {n:aa}{to:Int}(h:jA n=some to):to≠n.1/\eZ (aT (aa.table n) to)=true:=by
 have:=G9 h;simpa using this
theorem yN {l:List aO}{T:List Int}{x:aO}(h:x∈dM l T l.length):∃ y∈l,x.1=y.1:=by
 unfold dM at h;obtain⟨u,_⟩:=FQ.1 h;obtain⟨i,r,rfl⟩:=FR u;rw[e9]at r;rw[fJ l T r];refine⟨l[i],FL r,?_⟩;unfold dY;rw[cJ r];cases decide ((i:Int)∈T) <;> rfl
theorem UpX.way {n:aa}(h:UpX n):UpX (jz n):=⟨h.me,h.now0,h.table,h.site,Ak h.cast _,λx H=>by
 obtain⟨y,I,e⟩:=yN H;obtain⟨g,z,r,u⟩:=h.vs y I;exact⟨g,z,by rw[e,r],by rw[e];exact u⟩,h.probe,h.doubts,h.coord,h.places,h.others⟩
structure uu (n:aa):Prop where
 seq:InP (kt n) 0 999999
 turn:InP n.2.2.2.2.2.2.2.1 0 8
theorem CD {n:aa}(h:UpX n)(z:dt n)(y:uu n):UpX (d9 n).1/\dt (d9 n).1/\uu (d9 n).1/\(d9 n).1.1=n.1/\cg (d9 n).1=cg n/\(d9 n).1.2.2.2.2.1=n.2.2.2.2.1:=by
 unfold d9;by_cases I:kt n>=999999
 ·rw[decide_eq_true I];exact⟨h,z,y,rfl,rfl,rfl⟩
 ·rw[decide_eq_false I];simp only[cond_false];cases X:jA n with
  |none=>exact⟨h,z,y,rfl,rfl,rfl⟩
  |some to =>
   obtain⟨u,R⟩:=sA X;obtain⟨M,H,O⟩:=eP h.table (iG R);obtain⟨⟨Y,Z⟩,_⟩:=y;have r:InP to 0 7:=H ▸ M.1;have J:=h.way;refine⟨⟨h.me,h.now0,h.table,h.site,J.cast,J.vs,?_,h.doubts,h.coord,h.places,h.others⟩,z,⟨⟨show 0<=kt n+1 by omega,show kt n+1<=999999 by omega⟩,show 0<=to+1 by have:=r.1;omega,show to+1<=8 by have:=r.2;omega⟩,rfl,rfl,rfl⟩;show dm (D9 n to);unfold dm;rw[if_neg (show ¬ (aa.probe (D9 n to)).1=-1 by have:=r.1;show ¬ to=-1;omega)];exact⟨u,⟨_,O,H⟩,⟨h.now0,GY _⟩,show 1<=kt n+1 by omega,GY _⟩
def eE (n:aa):aa:=(n.1,n.2.1,n.2.2.1,n.2.2.2.1,n.2.2.2.2.1,n.2.2.2.2.2.1+1,n.2.2.2.2.2.2)
def fY (m:aa):aa×List aj:=bif (aa.probe m).1==-1 then d9 m else (m,[])
def fZ (n:aa):aa×List aj:=dA (la (eE n))
def ly (n:aa):aa:=(fY (fZ n).1).1
def qP (n:aa)(r:Int):List aj:=(fZ n).2++(fY (fZ n).1).2++kR (ly n) r
theorem UpX.later {n:aa}(h:UpX n):UpX (eE n):=by
 have J:cg (eE n)=cg n+1:=rfl;have M:=h.now0;refine⟨h.me,by omega,h.table,h.site,h.cast,h.vs,sw h.probe rfl rfl (λg I=>⟨g,I,rfl⟩) (by omega) (GY _),⟨λd H=>?_,h.doubts.2⟩,h.coord,h.places,h.others⟩;obtain⟨r,⟨u,y⟩,z⟩:=h.doubts.1 d H;exact⟨r,⟨u,Gw y (show cg n<=cg (eE n) by omega)⟩,z⟩
structure UpN (n:aa):Prop where
 x:UpX n
 self:dt n
 now1:cg n<=999999
 seq:uu n
 inc:InP n.2.2.2.2.1 0 999
 up:n.2.1=true
theorem UpN.of {n:aa}(h:ff n)(y:n.2.1=true):UpN n:=by
 obtain⟨z,u,H,I,J,r⟩:=h;rw[if_pos y]at r;exact⟨UpX.of r z u.1,r.2.2.1,u.2,⟨H,I⟩,J,y⟩
theorem UpN.ok {n:aa}(h:UpN n):ff n:=⟨h.x.me,⟨h.x.now0,h.now1⟩,h.seq.seq,h.seq.turn,h.inc,by rw[if_pos h.up];exact h.x.up h.self⟩
theorem qQ {n:aa}(h:UpN n)(Z:cg n<999999):UpN (fZ n).1/\(fZ n).1.1=n.1/\(fZ n).1.2.2.1=n.2.2.1:=by
 have R:dt (eE n):=h.self;obtain⟨r,u,y⟩:=nZ h.x.later R;obtain⟨J,M,p,O⟩:=yM r u;obtain⟨t,c,Y,H⟩:=y;obtain⟨t',X,z,I⟩:=O;have e:(fZ n).1=_:=I;rw[H]at e;refine⟨⟨J,M,?_,⟨?_,?_⟩,?_,?_⟩,?_,?_⟩
 ·show cg (fZ n).1<=999999;rw[e];show cg n+1<=999999;omega
 ·show InP (kt (fZ n).1) 0 999999;rw[e];exact h.seq.seq
 ·show InP (fZ n).1.2.2.2.2.2.2.2.1 0 8;rw[e];exact h.seq.turn
 ·show InP (fZ n).1.2.2.2.2.1 0 999;rw[e];exact h.inc
 ·show (fZ n).1.2.1=true;rw[e];exact h.up
 ·rw[e];rfl
 ·rw[e];rfl
theorem uv {m:aa}:(d9 m).1.2.1=m.2.1/\(d9 m).1.2.2.1=m.2.2.1:=by
 unfold d9;cases decide (kt m>=999999) with
 |true=>exact⟨rfl,rfl⟩
 |false =>
  cases jA m with
  |none=>exact⟨rfl,rfl⟩
  |some to=>exact⟨rfl,rfl⟩
theorem xm {m:aa}(h:UpN m):UpN (fY m).1/\(fY m).1.1=m.1/\(fY m).1.2.2.1=m.2.2.1:=by
 unfold fY;cases (aa.probe m).1==-1 with
 |false=>exact⟨h,rfl,rfl⟩
 |true =>
  obtain⟨r,u,y,z,H,I⟩:=CD h.x h.self h.seq;refine⟨⟨r,u,?_,y,?_,?_⟩,z,uv.2⟩
  ·show cg (d9 m).1<=999999;rw[H];exact h.now1
  ·show InP (d9 m).1.2.2.2.2.1 0 999;rw[I];exact h.inc
  ·show (d9 m).1.2.1=true;rw[uv.1];exact h.up
theorem rN {n:aa}(h:UpN n)(J:cg n<999999):UpN (ly n)/\(ly n).1=n.1/\(ly n).2.2.1=n.2.2.1:=by
 obtain⟨r,u,y⟩:=qQ h J;obtain⟨z,H,I⟩:=xm r;exact⟨z,H.trans u,I.trans y⟩
theorem An {f g:ah}(h:g.2.1<f.2.1):bP f g:=by
 unfold bP;rw[if_pos (by omega)];exact h
theorem BK {f g:ah}(h:bP f g):g.2.1<=f.2.1:=by
 unfold bP at h;split at h <;> omega
theorem UpX.inc {n:aa}(h:UpX n)(i:Int):UpX (gZ n i):=⟨h.me,h.now0,h.table,h.site,h.cast,h.vs,h.probe,h.doubts,h.coord,h.places,h.others⟩
theorem sC {n:aa}(h:UpX n)(u:dt n){g:ah}(r:g∈aa.table n)(e:g.1=n.1):g=m9 n:=iT h.table.2 r u (by rw[e];rfl)
theorem yO {n:aa}(h:UpX n)(r:dt n):aT (aa.table n) n.1=m9 n:=ki h.table.2 (f:=m9 n) r
theorem Ao {n:aa}(h:UpN n)(H:n.2.2.1=false):UpN (nT n)/\(nT n).1=n.1:=by
 have z:bw (n.1,n.2.2.2.2.1,4,n.2.2.2.1):=⟨h.x.me,h.inc,show (1:Int)<=4 by omega,show (4:Int)<=4 by omega⟩;have r:=h.x.said z rfl (fX.me h.x.me);have y:(n.1,n.2.2.2.2.1,(4:Int),n.2.2.2.1)∈aa.table (sayOf n (n.1,n.2.2.2.2.1,4,n.2.2.2.1) n.1):=sx h.x.table.2 λg u e=>by
  rw[sC h.x h.self u e];unfold bP m9;rw[H];simp
 obtain⟨t,c,I,e⟩:=(OnN.refl n).say (n.1,n.2.2.2.2.1,4,n.2.2.2.1) n.1;unfold nT;rw[e]at r y ⊢;exact⟨⟨⟨r.me,r.now0,r.table,r.site,r.cast,r.vs,r.probe,r.doubts,r.coord,r.places,r.others⟩,y,h.now1,⟨h.seq.seq,h.seq.turn⟩,h.inc,h.up⟩,rfl⟩
theorem yP {n:aa}{f:ah}(h:UpN n)(u:n.2.2.1=false)(M:bw f):UpN (e8 n f)/\(e8 n f).1=n.1/\(e8 n f).2.2.1=false:=by
 unfold e8;cases z:decide (bP f (aT (aa.table n) n.1))&&decide (f.2.1<999) with
 |false=>exact⟨h,rfl,u⟩
 |true =>
  rw[Gr,decide_eq_true_eq,decide_eq_true_eq,yO h.x h.self]at z;obtain⟨X,O⟩:=z;have R:n.2.2.2.2.1<=f.2.1:=BK X;have r:=rJ (n:=n) h.x.me M O;have I:UpX (sayOf (gZ n (f.2.1+1)) (n.1,f.2.1+1,1,n.2.2.2.1) n.1):=(h.x.inc (f.2.1+1)).said r rfl (fX.me (n:=gZ n (f.2.1+1)) h.x.me);have H:(n.1,f.2.1+1,(1:Int),n.2.2.2.1)∈aa.table (sayOf (gZ n (f.2.1+1)) (n.1,f.2.1+1,1,n.2.2.2.1) n.1):=sx (n:=gZ n (f.2.1+1)) h.x.table.2 λg y e=>by
   rw[sC h.x h.self y e];exact An (show n.2.2.2.2.1<f.2.1+1 by omega)
  obtain⟨t,c,J,e⟩:=(OnN.refl (gZ n (f.2.1+1))).say (n.1,f.2.1+1,1,n.2.2.2.1) n.1;simp only[cond_true];rw[show sayOf (gZ n (f.2.1+1)) (n.1,f.2.1+1,1,n.2.2.2.1) n.1=gG (gZ n (f.2.1+1)) t c J from e]at I H ⊢;refine⟨⟨I,?_,h.now1,⟨h.seq.seq,h.seq.turn⟩,r.2.1,h.up⟩,rfl,u⟩;show (n.1,f.2.1+1,(if n.2.2.1=true then (4:Int) else 1),n.2.2.2.1)∈_;rw[u];exact H
theorem n9 (f:ah)(b:Int)(d:bV):(dW f b d).1=d.1/\(dW f b d).2.1=d.2.1/\(dW f b d).2.2.1=d.2.2.1:=by
 unfold dW;cases d.1==f.1&&d.2.1==f.2.1&&f.2.2.1==2 <;> exact⟨rfl,rfl,rfl⟩
theorem UpX.conf {n:aa}(h:UpX n)(f:ah){b:Int}(R:fX n b):UpX (kl n f b):=by
 refine⟨h.me,h.now0,h.table,h.site,h.cast,h.vs,h.probe,⟨λd X=>?_,?_,?_⟩,h.coord,h.places,h.others⟩
 ·obtain⟨r,y,rfl⟩:=F2.1 X;obtain⟨Z,k2,k3⟩:=n9 f b r;obtain⟨⟨g,Y,H,I,J⟩,M,O,u⟩:=h.doubts.1 r y;refine⟨⟨g,Y,by rw[Z];exact H,I,by rw[k2];exact J⟩,by rw[k3];exact M,?_⟩;unfold dW;cases r.1==f.1&&r.2.1==f.2.1&&f.2.2.1==2 with
  |false=>exact⟨O,u⟩
  |true =>
   refine⟨List.ne_nil_of_mem (bd.2 (.inl rfl)),λx z=>?_,fI u.2⟩;rcases bd.1 z with rfl|⟨z,_⟩
   ·exact R
   ·exact u.1 x z
 ·show Asc _ ((aa.doubts n).map (dW f b));unfold Asc;rw[F7];exact h.doubts.2.1.imp λ {a c} h=>by show (dW f b a).1<(dW f b c).1;rw[(n9 f b a).1,(n9 f b c).1];exact h
 ·show _=((aa.doubts n).map (dW f b)).length;rw[FW];exact h.doubts.2.2
theorem uw {n:aa}{f:ah}{b:Int}(h:UpN n)(H:n.2.2.1=false)(z:bw f)(M:ak f.1=ak n.1)(y:fX n b):UpN (dI b n f)/\(dI b n f).1=n.1/\(dI b n f).2.2.1=false:=by
 unfold dI;by_cases r:f.1=n.1
 ·rw[show (f.1==n.1)=true by simpa using r];exact yP h H z
 ·rw[show (f.1==n.1)=false by simpa using r];have I:=h.x.said z M y;have u:=qc h.x.table.2 (OnN.refl n) (b:=b) r h.self;obtain⟨t,c,J,e⟩:=(OnN.refl n).say f b;simp only[cond_false];rw[show sayOf n f b=gG n t c J from e]at I u ⊢;exact⟨⟨I.conf f y,u,h.now1,⟨h.seq.seq,h.seq.turn⟩,h.inc,h.up⟩,rfl,H⟩
theorem jP {n:aa}{t:List ah}{b:Int}(h:UpN n)(I:n.2.2.1=false)(M:aE t)(J:cn t (ak n.1))(u:fX n b):UpN (gB n t b)/\(gB n t b).1=n.1/\(gB n t b).2.2.1=false:=by
 refine mW (st:=dI b) (Inv:=λm=>UpN m/\m.1=n.1/\m.2.2.1=false) (ds:=t) (n:=n) ⟨h,rfl,I⟩ λm f y ⟨z,r,H⟩=>?_
 have:=uw (b:=b) z H (M.1 f y) (by rw[r];exact J f y) ⟨u.1,by rw[r];exact u.2⟩;exact⟨this.1,this.2.1.trans r,this.2.2⟩
theorem UpN.learns {n:aa}(h:UpN n):dG n:=⟨h.x.say,h.x.me,⟨_,h.self,rfl⟩,λd u=>by
 obtain⟨_,_,_,r⟩:=h.x.doubts.1 d u;exact⟨r.2,λx y=>(r.1 x y).1⟩⟩
def oa (n:aa)(o:List ch):aa:=(n.1,n.2.1,n.2.2.1,n.2.2.2.1,n.2.2.2.2.1,n.2.2.2.2.2.1,n.2.2.2.2.2.2.1,n.2.2.2.2.2.2.2.1,n.2.2.2.2.2.2.2.2.1,n.2.2.2.2.2.2.2.2.2.1,n.2.2.2.2.2.2.2.2.2.2.1,n.2.2.2.2.2.2.2.2.2.2.2.1,n.2.2.2.2.2.2.2.2.2.2.2.2.1,n.2.2.2.2.2.2.2.2.2.2.2.2.2.1,o)
theorem UpN.setOthers {n:aa}(h:UpN n){o:List ch}(r:dn n.1 o):UpN (oa n o):=⟨⟨h.x.me,h.x.now0,h.x.table,h.x.site,h.x.cast,h.x.vs,h.x.probe,h.x.doubts,h.x.coord,h.x.places,r⟩,h.self,h.now1,⟨h.seq.seq,h.seq.turn⟩,h.inc,h.up⟩
theorem xn {H s:Int}{r:List ah}{o:List ch}(I:dn H o)(M:InP s 0 1)(u:s≠ak H)(J:r≠[])(O:aE r)(y:cn r s):dn H (bD (λx:ch=>x.1) (s,r) o) :=
 ⟨λx z=>by
  rcases bd.1 z with rfl|⟨z,_⟩
  ·exact⟨M,u,J,O,y⟩
  ·exact I.1 x z,fI I.2⟩
def dC (l:List Int)(t:Int):List Int:=(l++[t]).drop ((l++[t]).length-3)
def ci (l:List cm)(r:Int):List Int:=((l.find? λp=>p.1==r).map (·.2.2)).getD []
def jQ (l:List cm)(r:Int)(c:cW)(t:Int):List cm:=bD (λp=>p.1) (r,c,dC (ci l r) t) l
def oc (n:aa)(c:cW)(p:List cm):aa:=(n.1,n.2.1,n.2.2.1,n.2.2.2.1,n.2.2.2.2.1,n.2.2.2.2.2.1,n.2.2.2.2.2.2.1,n.2.2.2.2.2.2.2.1,n.2.2.2.2.2.2.2.2.1,n.2.2.2.2.2.2.2.2.2.1,noP,n.2.2.2.2.2.2.2.2.2.2.2.1,c,p,n.2.2.2.2.2.2.2.2.2.2.2.2.2.2)
theorem vL {l:List cm}{r:Int}{t:Int}(h:t∈ci l r):∃ p∈l,t∈p.2.2:=by
 unfold ci at h;cases u:l.find? λp=>p.1==r with
 |none=>rw[u]at h;simp at h
 |some p =>
  rw[u]at h;exact⟨p,Gj u,h⟩
theorem yQ {l:List Int}{t:Int}(r:∀ x∈l,InP x 1 60000)(u:InP t 1 60000):InP ((dC l t).length:Int) 1 3/\∀ x∈dC l t,InP x 1 60000:=by
 unfold dC;constructor
 ·simp only[GX,F0,FP,FT];constructor <;> omega
 ·intro x y;have:=List.mem_of_mem_drop y;rcases GP.1 this with h|h
  ·exact r x h
  ·rw[GF.1 h];exact u
theorem xo {y r:Int}{l:List cm}{c:cW}{t:Int}(h:eT y l)(I:InP r 0 7)(J:ak r=ak y)(M:r≠y)(O:bX c)(R:InP t 1 60000):eT y (jQ l r c t):=by
 have H:=yQ (l:=ci l r) (t:=t) (λx z=>by
  obtain⟨p,u,z⟩:=vL z;exact (h.1 p u).2.2.2.2.2 x z) R
 exact⟨λp u=>by
  rcases bd.1 u with rfl|⟨u,_⟩
  ·exact⟨I,J,M,O,H.1,H.2⟩
  ·exact h.1 p u,fI h.2⟩
theorem UpN.heard {n:aa}(h:UpN n){c:cW}{p:List cm}(r:bX c)(u:eT n.1 p):UpN (oc n c p):=⟨⟨h.x.me,h.x.now0,h.x.table,h.x.site,h.x.cast,h.x.vs,yL n,h.x.doubts,r,u,h.x.others⟩,h.self,h.now1,⟨h.seq.seq,h.seq.turn⟩,h.inc,h.up⟩
theorem UpN.way {n:aa}(h:UpN n):UpN (jz n):=⟨h.x.way,h.self,h.now1,⟨h.seq.seq,h.seq.turn⟩,h.inc,h.up⟩
def Tot {α:Type}(o:Option α)(P:α->Prop):Prop:=∃ v,o=some v/\P v
section
variable {α β:Type} {P:α->Prop} {Q:β->Prop}
theorem Tot.ret {v:α}(h:P v):Tot (some v) P:=⟨v,rfl,h⟩
theorem Tot.eq {o:Option α}{v:α}(e:o=some v)(h:P v):Tot o P:=⟨v,e,h⟩
theorem Tot.mono {o:Option α}{r:α->Prop}(h:Tot o P)(k:∀ v,P v->r v):Tot o r:=by obtain⟨v,e,u⟩:=h;exact⟨v,e,k v u⟩
theorem Tot.bind {o:Option α}{g:α->Option β}(h:Tot o P)(k:∀ v,P v->Tot (g v) Q):Tot (o.bind g) Q:=by obtain⟨v,e,r⟩:=h;rw[e];exact k v r
theorem Tot.vl {o:Option α}{v:α}{g:α->Option β}(e:o=some v)(k:Tot (g v) Q):Tot (o.bind g) Q:=by rw[e];exact k
theorem Tot.cnd {b:Bool}{x y:Option α}(r:b=true->Tot x P)(u:b=false->Tot y P):Tot (bif b then x else y) P:=by
 cases b
 ·exact u rfl
 ·exact r rfl
theorem Tot.must {b:Bool}{x y:Option α}(r:b=true)(h:Tot x P):Tot (bif b then x else y) P:=by rw[r];exact h
theorem Tot.not {b:Bool}{x y:Option α}(r:b=false)(h:Tot x P):Tot (bif b then y else x) P:=by rw[r];exact h
theorem Tot.ix {xs:List α}{i:Int}{g:α->Option β}(u:0<=i)(z:i<xs.length)(k:∀ y∈xs,idx xs i=some y->Tot (g y) Q):Tot ((idx xs i).bind g) Q:=by
 obtain⟨n,rfl⟩:=FO u;have r:n<xs.length:=by omega
 have:=af r;rw[this];exact k _ (FL r) this
theorem Tot.iter {A:Type}{step:(A->Option β)->A->Option β}(Inv:A->Prop)(m:A->Nat)(h:∀ (rec:A->Option β) (a:A),Inv a->(∀ r,Inv r->m r<m a->Tot (rec r) Q)->Tot (step rec a) Q):∀ (k:Nat) (a:A),m a<k->Inv a->Tot (ae step k a) Q:=by
 intro k;induction k with
 |zero=>intro a z;omega
 |succ k I =>
  intro a z y;exact h (ae step k) a y λr u H=>I r (by omega) u
end
theorem Ret.tot {o:Option RB}{P:Prop}(h:Ret o P):Tot o λv=>(v.1.1=true<->P):=by
 obtain⟨b,e,r⟩:=h;exact⟨_,e,r⟩
section
variable {α β:Type} {Q:β->Prop}
theorem Tot.cat {x y:ByteArray}{k:ByteArray->Option β}{a b:Nat}(u:x.size<=a)(H:y.size<=b)(h:∀ z:ByteArray,z.size<=a+b->Tot (k z) Q)(r:a+b<=4611686018427387904:=by omega):Tot (aX x y k) Q:=by
 unfold aX;rw[decide_eq_true (by omega)];exact h _ (by rw[ByteArray.size_append];omega)
theorem Tot.fit {a b c:Nat}{x y:Option β}(h:Tot x Q)(u:c<=1000:=by omega)(r:a+b<=2097152:=by omega):Tot (bif decide ((a+b)*c<=am) then x else y) Q:=by
 have:=GN r u;rw[decide_eq_true (by unfold am;omega)];exact h
theorem Tot.ix2 {xs:List α}{i:Int}{g:α->Option β}(r:0<=i)(u:i<xs.length)(k:∀ y∈xs,idx xs i=some y->Tot (g y) Q):Tot ((idx xs i).bind λ_=>(idx xs ((FM i:Nat):Int)).bind g) Q :=
 Tot.ix r u λy z e=>by rw[Int.toNat_of_nonneg r,e];exact k y z e
end
theorem gw (s:ByteArray):s.data.toList.length=s.size:=Array.length_toList
theorem jB (xs:List Int):(ip xs).size=xs.length:=by
 unfold ip;show (List.toArray _).size=_;rw[List.size_toArray,FW]
theorem sD (s:ByteArray):(eS s).length=s.size:=by
 unfold eS;rw[FW];exact gw s
theorem dec_t:∀ (d k:Nat) (n:Int),0<=n->n<10 ^ (d+1)->n<=1000000000->d<=100->d<k->Tot (Q12.f k (n,())) λr=>r.1.1.size<=d+1:=by
 intro d;induction d with
 |zero =>
  intro k n H y I J M;obtain⟨k,rfl⟩:∃ m,k=m+1:=⟨k-1,by omega⟩;show Tot (Q12.step (Q12.f k) (n,())) _;simp only[Q12.step];refine Tot.not (decide_eq_false (show ¬ n< -9223372036854775807 by omega)) (Tot.not (decide_eq_false (show ¬ n<0 by omega)) (Tot.must (decide_eq_true (show n<10 by exact y)) (Tot.ret ?_)));show (ip _).size<=1;rw[jB];exact FX _
 |succ d Y =>
  intro k n H y I J M;obtain⟨k,rfl⟩:∃ m,k=m+1:=⟨k-1,by omega⟩;show Tot (Q12.step (Q12.f k) (n,())) _;simp only[Q12.step];refine Tot.not (decide_eq_false (show ¬ n< -9223372036854775807 by omega)) (Tot.not (decide_eq_false (show ¬ n<0 by omega)) (Tot.cnd (λ_=>Tot.ret ?_) λh=>?_))
  ·show (ip _).size<=_;rw[jB];exact Nat.succ_le_succ (FY _)
  ·have h:¬ n<10:=of_decide_eq_false h;have e:Gn n 10=n / 10:=by rw[GD H]
   have u:(10:Int) ^ (d+1+1)=10 ^ (d+1)*10:=Int.pow_succ ..;have O:n / 10<10 ^ (d+1):=Int.ediv_lt_of_lt_mul (by omega) (by rw[<- u];exact y);rw[e,aC (by omega) (by omega)];refine Tot.bind (Y k (n / 10) (by omega) O (by omega) (by omega) (by omega)) λv R=>Tot.cat R (b:=1) (by rw[jB];exact FX _) (λz X=>Tot.ret X) (by omega)
theorem lQ (K:Nat)(n:Int)(u:0<=n)(y:n<=999999)(z:1048577<K):Tot (Q12.f K (n,())) λr=>r.1.1.size<=6 :=
 dec_t 5 K n u (by show n<1000000;omega) (by omega) (by omega) (by omega)
theorem ux (K:Nat)(i:Int)(u:0<=i)(y:i<=4):Tot (Q197.f K (i,())) λr=>r.1.1.size<=7:=by
 have:i=0\/i=1\/i=2\/i=3\/i=4:=by omega
 rcases this with rfl|rfl|rfl|rfl|rfl <;> exact⟨_,rfl,by decide⟩
theorem uy (K:Nat)(i:Int)(u:0<=i)(y:i<=6):Tot (Q194.f K (i,())) λr=>r.1.1.size<=4:=by
 have:i=0\/i=1\/i=2\/i=3\/i=4\/i=5\/i=6:=by omega
 rcases this with rfl|rfl|rfl|rfl|rfl|rfl|rfl <;> exact⟨_,rfl,by decide⟩
theorem Ap (K:Nat)(t:List ah)(y:aE t)(hK:1048577<K):Tot (Q200.f K (t,())) λr=>r.1.1.size<=240:=by
 have hl:=jx y.2 (λg hg=>(y.1 g hg).1);refine Tot.iter (step:=λrec a=>Q200.s0 K (t,()) rec a) (λa=>0<=a.2/\a.2<=t.length/\(a.1.size:Int)<=30*a.2) (λa=>t.length-a.2.toNat) ?_ K _ (by show t.length-FM 0<K;omega) ⟨by show (0:Int)<=0;omega,by show (0:Int)<=_;omega,by show (0:Int)<=30*0;omega⟩;rintro rec ⟨s,i⟩ ⟨h0,h1,h2⟩ ih;simp only at h0 h1 h2 ih ⊢;simp only[Q200.s0];refine Tot.cnd (λh=>?_) λh=>?_
 ·have h:=of_decide_eq_true h;obtain⟨n,rfl⟩:=FO h0;have hn:n<t.length:=by omega
  obtain⟨⟨f1,f2⟩,⟨f3,f4⟩,f5,f6⟩:=y.1 t[n] (FL hn);rw[af hn,ar n (by omega)];simp only[FJ];have go:∀ z:ByteArray,z.size<=s.size+29->Tot (rec (z,((n+1:Nat):Int))) λr=>r.1.1.size<=240:=λz hz=>ih _ ⟨by show (0:Int)<=((n+1:Nat):Int);omega,by show ((n+1:Nat):Int)<=_;omega,by show (z.size:Int)<=30*((n+1:Nat):Int);omega⟩ (by show t.length-FM ((n+1:Nat):Int)<t.length-FM (n:Int);omega)
  have body:∀ Z:ByteArray,Z.size<=s.size+1->Tot ((Q12.f K (t[n].1,())).bind λy3=>aX Z y3.1.1 λy4=>aX y4 (ByteArray.mk #[58]) λy5=>(Q12.f K (t[n].2.1,())).bind λy7=>aX y5 y7.1.1 λy8=>aX y8 (ByteArray.mk #[58]) λy9=>(Q197.f K (t[n].2.2.1,())).bind λX=>aX y9 X.1.1 λu=>bif t[n].2.2.2 then (aX u (ByteArray.mk #[42]) λY=>rec (Y,((n+1:Nat):Int))) else (rec (u,((n+1:Nat):Int)))) λr=>r.1.1.size<=240:=λZ H =>
   Tot.bind (lQ K _ f1 (by omega) hK) λv1 s1=>Tot.cat H s1 λz1 I=>Tot.cat I (b:=1) (by decide) λz2 J =>
   Tot.bind (lQ K _ f3 (by omega) hK) λv2 s2=>Tot.cat J s2 λz3 M=>Tot.cat M (b:=1) (by decide) λz4 O =>
   Tot.bind (ux K _ (by omega) f6) λv3 s3=>Tot.cat O s3 λz5 R =>
   Tot.cnd (λ_=>Tot.cat R (b:=1) (by decide) λz6 a0=>go z6 (by omega)) λ_=>go z5 (by omega)
  exact Tot.cnd (λ_=>Tot.cat (FX _) (b:=1) (by decide) λz hz=>body z hz) λ_=>body s (by omega)
 ·have h:=of_decide_eq_false h;exact Tot.ret (by show s.size<=240;omega)
theorem pw (K:Nat)(t:List ah)(z:t.length<=1048576)(u:1048577<K):Tot (Q201.f K (t,())) λr=>r.1.1.size<=240:=by
 simp only[Q201.f];refine Tot.bind (gW K t z u).tot λv H=>Tot.cnd (λ_=>Tot.ret (by show (0:Nat)<=240;omega)) λh=>?_
 have y:=H.1 (by simpa using h);exact Tot.cnd (λ_=>Tot.ret (by show (1:Nat)<=240;omega)) λ_=>Tot.bind (Ap K t y u) λv h=>Tot.ret h
theorem qR (K:Nat)(n:Int)(H:-999999<=n)(I:n<=999999)(y:1048577<K):Tot (Q203.f K (n,())) λr=>r.1.1.size<=7:=by
 simp only[Q203.f];refine Tot.cnd (λh=>?_) λh=>?_
 ·have h:n<0:=of_decide_eq_true h;rw[aC (by omega) (by omega)];exact Tot.bind (lQ K _ (by omega) (by omega) y) λv s=>Tot.cat (a:=1) (by decide) s λz u=>Tot.ret u
 ·have h:¬ n<0:=of_decide_eq_false h;exact Tot.bind (lQ K _ (by omega) (by omega) y) λv s=>Tot.cat (a:=1) (by decide) s λz u=>Tot.ret u
theorem Aq (K:Nat)(w:aj)(X:dz w)(y:1048577<K):Tot (Q204.f K (w,())) λr=>r.1.1.size<=400:=by
 obtain⟨_,⟨Z,z⟩,⟨H,b2⟩,⟨I,c2⟩,⟨J,d2⟩,⟨M,e2⟩,⟨⟨x1,x2⟩,⟨y1,y2⟩,⟨Y,z2⟩,⟨u1,u2⟩⟩,O,_⟩:=X;have R:=cf O;simp only[Q204.f];have u:(ByteArray.mk #[32]).size<=1:=by decide
 refine Tot.cnd (λ_=>?_) λ_=>?_ <;>
 exact Tot.cat (a:=3) (by decide) u λ_ h=>Tot.bind (uy K _ (by omega) z) λ_ s=>Tot.cat h s λ_ h=>Tot.cat h u λ_ h =>
  Tot.bind (lQ K _ H (by omega) y) λ_ s=>Tot.cat h s λ_ h=>Tot.cat h u λ_ h =>
  Tot.bind (lQ K _ I (by omega) y) λ_ s=>Tot.cat h s λ_ h=>Tot.cat h u λ_ h =>
  Tot.bind (lQ K _ J (by omega) y) λ_ s=>Tot.cat h s λ_ h=>Tot.cat h u λ_ h =>
  Tot.bind (lQ K _ M (by omega) y) λ_ s=>Tot.cat h s λ_ h=>Tot.cat h u λ_ h =>
  Tot.bind (qR K _ (by show -999999<=(aj.coord w).1;omega) (by show (aj.coord w).1<=999999;omega) y) λ_ s=>Tot.cat h s λ_ h=>Tot.cat h u λ_ h =>
  Tot.bind (qR K _ (by show -999999<=(aj.coord w).2.1;omega) (by show (aj.coord w).2.1<=999999;omega) y) λ_ s=>Tot.cat h s λ_ h=>Tot.cat h u λ_ h =>
  Tot.bind (lQ K _ Y (by show (aj.coord w).2.2.1<=999999;omega) y) λ_ s=>Tot.cat h s λ_ h=>Tot.cat h u λ_ h =>
  Tot.bind (lQ K _ (by show 0<=(aj.coord w).2.2.2;omega) (by show (aj.coord w).2.2.2<=999999;omega) y) λ_ s=>Tot.cat h s λ_ h=>Tot.cat h u λ_ h =>
  Tot.bind (pw K _ R y) λ_ s=>Tot.cat h s λ_ h=>Tot.ret (F1 h (by decide))
theorem Ar (K:Nat)(n:Int)(I:1048577<K):Tot (Q206.f K (n,())) λ_=>True:=by
 refine Tot.iter (step:=λrec a=>Q206.s0 K (n,()) rec a) (λa=>0<=a.2/\a.2<=8) (λa=>8-a.2.toNat) ?_ K _ (by show 8-FM 0<K;omega) ⟨by show (0:Int)<=0;omega,by show (0:Int)<=8;omega⟩;rintro rec ⟨s,i⟩ ⟨u,H⟩ y;simp only at u H y ⊢;simp only[Q206.s0];obtain⟨i,rfl⟩:=FO u;refine Tot.cnd (λh=>?_) λ_=>Tot.ret trivial
 have h:=of_decide_eq_true h;rw[ar i (by omega)];have r:∀ z:Int,Tot (rec (z,((i+1:Nat):Int))) λ_=>True:=λz=>y _ ⟨by show (0:Int)<=((i+1:Nat):Int);omega,by show ((i+1:Nat):Int)<=8;omega⟩ (by show 8-FM ((i+1:Nat):Int)<8-FM (i:Int);omega)
 exact Tot.cnd (λ_=>r _) λ_=>r _
theorem BL (K:Nat)(s:ByteArray)(J:s.size<=1000000)(I:1048577<K):Tot (Q207.f K (s,())) λ_=>True:=by
 refine Tot.iter (step:=λrec a=>Q207.s0 K (s,()) rec a) (λa=>0<=a.2/\a.2<=s.size) (λa=>s.size-a.2.toNat) ?_ K _ (by show s.size-FM 0<K;omega) ⟨by show (0:Int)<=0;omega,by show (0:Int)<=_;omega⟩;rintro rec ⟨z,i⟩ ⟨r,H⟩ u;simp only at r H u ⊢;simp only[Q207.s0];obtain⟨i,rfl⟩:=FO r;refine Tot.cnd (λh=>?_) λ_=>Tot.ret trivial
 have h:=of_decide_eq_true h;rw[ar i (by omega)];exact Tot.ix r (by rw[gw];exact h) λy _ _=>Tot.bind (Ar K _ I) λv _=>u _ ⟨by show (0:Int)<=((i+1:Nat):Int);omega,by show ((i+1:Nat):Int)<=_;omega⟩ (by show s.size-FM ((i+1:Nat):Int)<s.size-FM (i:Int);omega)
theorem hex_t (K:Nat)(n:Int)(R:1048577<K):Tot (Q205.f K (n,())) λr=>r.1.1.size<=8:=by
 refine Tot.iter (step:=λrec a=>Q205.s0 K (n,()) rec a) (λa=>-1<=a.2/\a.2<=7/\a.1.length=7-a.2) (λa=>(a.2+1).toNat) ?_ K _ (by show FM 8<K;omega) ⟨by show (-1:Int)<=7;omega,by show (7:Int)<=7;omega,by show (0:Int)=7-7;omega⟩;rintro rec ⟨z,i⟩ ⟨J,M,O⟩ u;simp only at J M O u ⊢;simp only[Q205.s0];refine Tot.cnd (λh=>?_) λh=>?_
 ·have h:=of_decide_eq_true h;rw[aC (n:=4*i) (by omega) (by omega),aC (n:=i-1) (by omega) (by omega)];obtain⟨H,I⟩:=mt (a:=F5 n (2 ^ min (FM (4*i)) 64)) (m:=15) (by omega);refine Tot.not (decide_eq_false (by omega)) (Tot.ix H (Int.lt_of_le_of_lt I (by decide)) λy _ _=>Tot.fit ?_ (by omega) (by simp only[FP,FT];omega));exact u _ ⟨by show -1<=i-1;omega,by show i-1<=7;omega,by show ((z++[_]).length:Int)=7-(i-1);rw[F0,Gd];omega⟩ (by show FM (i-1+1)<FM (i+1);omega)
 ·have h:=of_decide_eq_false h;refine Tot.ret ?_;show (ip z).size<=8;rw[jB];omega
theorem pz (K:Nat)(w:aj)(M:(aj.table w).length<=1048576)(u:1048577<K):Tot (Q208.f K (w,())) λr=>r.1.1.size<=409/\(¬ dz w->r.1.1=ByteArray.mk #[]):=by
 simp only[Q208.f];refine Tot.bind (mT K w M u).tot λv J=>Tot.cnd (λ_=>Tot.ret ⟨by show (0:Nat)<=409;omega,λ_=>rfl⟩) λh=>?_
 have H:=J.1 (by simpa using h);exact Tot.bind (Aq K w H u) λb I=>Tot.cat I (b:=1) (by decide) λz y=>Tot.bind (BL K _ (by omega) u) λs _=>Tot.bind (hex_t K _ u) λx O=>Tot.cat y O λz y=>Tot.ret ⟨y,λh=>absurd H h⟩
theorem xp (K:Nat)(s:ByteArray)(c:Int)(hs:s.size<=100000)(hK:1048577<K):Tot (Q193.f K (s,c,())) λr=>r.1.1.length<=s.size+1/\∀ p∈r.1.1,p.size<=s.size:=by
 have I:∀ i j:Nat,(s.extract i j).size<=s.size:=λi j=>by rw[Gp];omega
 refine Tot.iter (step:=λrec a=>Q193.s0 K (s,c,()) rec a) (λa=>0<=a.2.1/\a.2.1<=a.2.2/\a.2.2<=s.size/\a.1.length<=a.2.2/\∀ p∈a.1,p.size<=s.size) (λa=>s.size-a.2.2.toNat) ?_ K _ (by show s.size-FM 0<K;omega) ⟨by show (0:Int)<=0;omega,by show (0:Int)<=0;omega,by show (0:Int)<=_;omega,by show (0:Int)<=0;omega,λp O=>by cases O⟩;rintro rec ⟨u,from_,i⟩ ⟨z,J,X,Y,M⟩ R;simp only at z J X Y M R ⊢;simp only[Q193.s0];obtain⟨i,rfl⟩:=FO (Gw z J);have H:∀ x:ByteArray,x.size<=s.size->∀ p∈u++[x],p.size<=s.size:=λx Z p O=>by
  rcases GP.1 O with h|h
  ·exact M p h
  ·rw[GF.1 h];exact Z
 refine Tot.cnd (λh=>?_) λh=>?_
 ·have h:=of_decide_eq_true h;rw[ar i (by omega)];refine Tot.ix (Gw z J) (by rw[gw];exact h) λy _ _=>Tot.cnd (λ_=>Tot.must (by rw[decide_eq_true z,decide_eq_true J,decide_eq_true X];rfl) (Tot.fit (R _ ⟨?_,?_,?_,?_,H _ (I _ _)⟩ ?_) (by omega) (by simp only[FP,FT];omega))) λ_=>R _ ⟨z,?_,?_,?_,M⟩ ?_
  ·show (0:Int)<=((i+1:Nat):Int);omega
  ·show ((i+1:Nat):Int)<=((i+1:Nat):Int);omega
  ·show ((i+1:Nat):Int)<=s.size;omega
  ·show ((u++[_]).length:Int)<=((i+1:Nat):Int);rw[F0,Gd];omega
  ·show s.size-FM ((i+1:Nat):Int)<s.size-FM (i:Int);omega
  ·show from_<=((i+1:Nat):Int);omega
  ·show ((i+1:Nat):Int)<=s.size;omega
  ·show (u.length:Int)<=((i+1:Nat):Int);omega
  ·show s.size-FM ((i+1:Nat):Int)<s.size-FM (i:Int);omega
 ·refine Tot.must (by rw[decide_eq_true z,decide_eq_true (by omega),decide_eq_true (GY _)];rfl) (Tot.fit (Tot.ret ⟨?_,H _ (I _ _)⟩) (by omega) (by simp only[FP,FT];omega));show (u++[_]).length<=_;rw[F0,Gd];omega
theorem kK (K:Nat)(s:ByteArray)(Y:s.size<=100000)(X:1048577<K):Tot (Q195.f K (s,())) λ_=>True:=by
 simp only[Q195.f,Q195.pre];have r:((s.size:Int)<=6)->Tot (Q195.l0 K (s,()) (0,0)) λ_=>True:=λR=>by
  refine Tot.iter (step:=λrec a=>Q195.s0 K (s,()) rec a) (λa=>0<=a.2/\a.2<=s.size) (λa=>s.size-a.2.toNat) ?_ K _ (by show s.size-FM 0<K;omega) ⟨by show (0:Int)<=0;omega,by show (0:Int)<=_;omega⟩;rintro rec ⟨z,i⟩ ⟨u,M⟩ J;simp only at u M J ⊢;simp only[Q195.s0];obtain⟨i,rfl⟩:=FO u;refine Tot.cnd (λh=>?_) λ_=>Tot.ret trivial
  have h:=of_decide_eq_true h;have I:((i:Nat):Int)<s.data.toList.length:=by rw[gw];exact h
  rw[ar i (by omega)];exact Tot.ix u I λy _ _=>Tot.cnd (λ_=>Tot.ret trivial) λ_=>Tot.ix u I λy _ _=>Tot.cnd (λ_=>Tot.ret trivial) λ_=>Tot.ix u I λy _ _=>J _ ⟨by show (0:Int)<=((i+1:Nat):Int);omega,by show ((i+1:Nat):Int)<=_;omega⟩ (by show s.size-FM ((i+1:Nat):Int)<s.size-FM (i:Int);omega)
 refine Tot.bind (cK K _ _ _).tot λv O=>Tot.cnd (λ_=>Tot.ret trivial) λh=>?_
 have H:=O.1 (by simpa using h);exact Tot.cnd (λh=>Tot.ix (by omega) (by rw[gw];have:=of_decide_eq_true h;omega) λy _ _=>Tot.cnd (λ_=>Tot.ret trivial) λ_=>r H.2) λ_=>r H.2
theorem wq (K:Nat)(s:ByteArray)(J:s.size<=100000)(H:1048577<K):Tot (Q196.f K (s,())) λ_=>True:=by
 simp only[Q196.f];refine Tot.cnd (λ_=>Tot.ret trivial) λh=>?_
 have h:=of_decide_eq_false h;have u:(0:Int)<s.data.toList.length:=by rw[gw];omega
 have r:Tot (bif decide ((0:Int)<=1)&&decide ((1:Int)<=(s.size:Int))&&decide ((s.size:Int)<=(s.size:Int)) then ((Q195.f K (s.extract (FM 1) (FM (s.size:Int)),())).bind λz=>bif decide (z.1.1<0) then (some (((-1),false,()),())) else (bif s.toList==(ByteArray.mk #[45,48]).toList then (some (((-1),false,()),())) else ((idx s.data.toList 0).bind λI=>bif (I.toNat:Int)==45 then (some ((wr .i64 (0-z.1.1),true,()),())) else (some ((z.1.1,true,()),()))))) else none) λ (_:(Int×Bool×Unit)×Unit)=>True :=
  Tot.must (by rw[decide_eq_true (by omega:(0:Int)<=1),decide_eq_true (by omega:(1:Int)<=s.size),decide_eq_true (GY _)];rfl) (Tot.bind (kK K _ (by rw[Gp];omega) H) λv _=>Tot.cnd (λ_=>Tot.ret trivial) λ_=>Tot.cnd (λ_=>Tot.ret trivial) λ_=>Tot.ix (by omega) u λy _ _=>Tot.cnd (λ_=>Tot.ret trivial) λ_=>Tot.ret trivial)
 exact Tot.ix (by omega) u λy _ _=>Tot.cnd (λ_=>Tot.ix (by omega) u λy _ _=>Tot.cnd (λ_=>Tot.ret trivial) λ_=>r) λ_=>r
theorem BM (K:Nat)(s:ByteArray)(hs:s.size<=100000)(I:1048577<K):Tot (Q198.f K (s,())) λ_=>True:=by
 simp only[Q198.f,Q198.pre];have H:∀ (M:List ByteArray) (n1 n2:Int) (b:Bool),M.length=3->Tot (Q198.l0 K (s,()) (M,1,n1,n2,0,b)) λ_=>True:=λM n1 n2 b hx=>by
  refine Tot.iter (step:=λrec a=>Q198.s0 K (s,()) rec a) (λa=>a.1.length=3/\1<=a.2.1/\a.2.1<=5) (λa=>5-a.2.1.toNat) ?_ K _ (by show 5-FM 1<K;omega) ⟨hx,by show (1:Int)<=1;omega,by show (1:Int)<=5;omega⟩;rintro rec ⟨ys,i,m1,m2,m3,m4⟩ ⟨h0,h1,h2⟩ ih;simp only at h0 h1 h2 ih ⊢;simp only[Q198.s0];refine Tot.cnd (λh=>?_) λ_=>Tot.bind (pX K _).tot λ_ _=>Tot.ret trivial
  have h:=of_decide_eq_true h;rw[aC (n:=i+1) (by omega) (by omega)];have Z:∀ m:Int,Tot (rec (ys,i+1,m1,m2,m,m4)) λ_=>True:=λm=>ih _ ⟨h0,by show 1<=i+1;omega,by show i+1<=5;omega⟩ (by show 5-FM (i+1)<5-FM i;omega)
  exact Tot.bind (ux K i (by omega) h) λv _=>Tot.ix2 (by omega) (by omega) λy _ _=>Tot.cnd (λ_=>Z _) λ_=>Z _
 have u:∀ (z:ByteArray) (b:Bool),z.size<=s.size->Tot ((Q193.f K (z,58,())).bind λr=>bif (FK r.1.1:Int) != 3 then (some (((0,(0,(0,b))),false,()),())) else ((idx r.1.1 0).bind λ_=>(idx r.1.1 (FM 0:Nat)).bind λO=>(Q195.f K (O,())).bind λR=>(idx r.1.1 1).bind λ_=>(idx r.1.1 (FM 1:Nat)).bind λX=>(Q195.f K (X,())).bind λY=>Q198.l0 K (s,()) (r.1.1,1,R.1.1,Y.1.1,0,b))) λ_=>True:=λz b hz =>
  Tot.bind (xp K z 58 (by omega) I) λv ⟨_,hp⟩=>Tot.cnd (λ_=>Tot.ret trivial) λh=>by
   have h3:(v.1.1.length:Int)=3:=by simpa using h
   exact Tot.ix2 (by omega) (by omega) λy J _=>Tot.bind (kK K y (by have:=hp y J;omega) I) λ_ _=>Tot.ix2 (by omega) (by omega) λy J _=>Tot.bind (kK K y (by have:=hp y J;omega) I) λ_ _=>H _ _ _ _ (by omega)
 refine Tot.cnd (λh=>?_) λ_=>u s false (FX _)
 have h:=of_decide_eq_true h;rw[aC (n:=(s.size:Int)-1) (by omega) (by omega)];exact Tot.ix (by omega) (by rw[gw];omega) λy _ _=>Tot.cnd (λ_=>Tot.must (by simp only[Gr,decide_eq_true_eq];omega) (u _ true (by rw[Gp];omega))) λ_=>u s false (FX _)
theorem BN (K:Nat)(s:ByteArray)(R:s.size<=100000)(H:1048577<K):Tot (Q199.f K (s,())) λr=>r.1.1.length<=100001:=by
 simp only[Q199.f,Q199.pre];refine Tot.cnd (λ_=>Tot.ret (by show (0:Nat)<=_;omega)) λ_=>Tot.bind (xp K s 44 R H) ?_
 rintro⟨⟨xs,⟨⟩⟩,⟨⟩⟩ ⟨hl,hp⟩;dsimp only at hl hp ⊢;refine Tot.iter (step:=λrec a=>Q199.s0 K (s,()) rec a) (λa=>a.2.1=xs/\0<=a.2.2/\a.2.2<=xs.length/\(a.1.length:Int)<=a.2.2) (λa=>xs.length-a.2.2.toNat) ?_ K _ (by show xs.length-FM 0<K;omega) ⟨rfl,by show (0:Int)<=0;omega,by show (0:Int)<=_;omega,by show (0:Int)<=0;omega⟩;rintro rec ⟨u,J,i⟩ ⟨rfl,z,M,O⟩ I;simp only at z M O hl hp I ⊢;simp only[Q199.s0];obtain⟨i,rfl⟩:=FO z;refine Tot.cnd (λh=>?_) λ_=>Tot.ret (by show u.length<=_;omega)
 have h:=of_decide_eq_true h;rw[ar i (by omega)];exact Tot.ix2 z h λy X _=>Tot.bind (BM K y (by have:=hp y X;omega) H) λv _=>Tot.cnd (λ_=>Tot.ret (by show (0:Nat)<=_;omega)) λ_=>Tot.fit (I _ ⟨rfl,by show (0:Int)<=((i+1:Nat):Int);omega,by show ((i+1:Nat):Int)<=_;omega,by show ((u++[_]).length:Int)<=((i+1:Nat):Int);rw[F0,Gd];omega⟩ (by show J.length-FM ((i+1:Nat):Int)<J.length-FM (i:Int);omega)) (by omega) (by simp only[FP,FT];omega)
theorem BO (K:Nat)(s:ByteArray)(y:s.size<=100000)(u:1048577<K):Tot (Q202.f K (s,())) λr=>r.1.1.length<=100001:=by
 simp only[Q202.f];exact Tot.bind (BN K s y u) λv z=>Tot.cnd (λ_=>Tot.ret (by show (0:Nat)<=_;omega)) λ_=>Tot.bind (pw K _ (by omega) u) λx _=>Tot.cnd (λ_=>Tot.ret (by show (0:Nat)<=_;omega)) λ_=>Tot.ret z
theorem na (K:Nat)(s:ByteArray)(Y:s.size<=100000)(H:1048577<K):Tot (Q209.f K (s,())) λr=>r.1.2.1=true->dz r.1.1:=by
 simp only[Q209.f,Q209.pre];refine Tot.bind (xp K s 32 Y H) ?_;rintro⟨⟨xs,⟨⟩⟩,⟨⟩⟩ ⟨hl,hp⟩;dsimp only at hl hp ⊢;refine Tot.cnd (λ_=>Tot.ret λh=>by cases h) λ_=>Tot.cnd (λ_=>Tot.ret λh=>by cases h) λh=>?_
 have M:(xs.length:Int)=12:=by simpa using h
 have u:∀ y∈xs,y.size<=100000:=λy z=>F1 (hp y z) Y
 have I:∀ p:Int,Tot (Q209.l0 K (s,()) (xs,1,p,0)) λr=>r.1.2.1=true->dz r.1.1:=λp=>by
  refine Tot.iter (step:=λrec a=>Q209.s0 K (s,()) rec a) (λa=>a.1=xs/\1<=a.2.1/\a.2.1<=7) (λa=>7-a.2.1.toNat) ?_ K _ (by show 7-FM 1<K;omega) ⟨rfl,by show (1:Int)<=1;omega,by show (1:Int)<=7;omega⟩;rintro rec ⟨ys,i,p,k⟩ ⟨rfl,R,h2⟩ Z;simp only at R h2 hl M u Z ⊢;simp only[Q209.s0];refine Tot.cnd (λh=>?_) λ_=>?_
  ·have h:=of_decide_eq_true h;rw[aC (n:=i+1) (by omega) (by omega)];have O:∀ m:Int,Tot (rec (ys,i+1,p,m)) λr=>r.1.2.1=true->dz r.1.1:=λm=>Z _ ⟨rfl,by show 1<=i+1;omega,by show i+1<=7;omega⟩ (by show 7-FM (i+1)<7-FM i;omega)
   exact Tot.bind (uy K i (by omega) h) λv _=>Tot.ix2 (by omega) (by omega) λy _ _=>Tot.cnd (λ_=>O _) λ_=>O _
  ·refine Tot.ix2 (by omega) (by omega) λy z _=>Tot.bind (kK K y (u y z) H) λ_ _=>Tot.ix2 (by omega) (by omega) λy z _=>Tot.bind (kK K y (u y z) H) λ_ _=>Tot.ix2 (by omega) (by omega) λy z _=>Tot.bind (kK K y (u y z) H) λ_ _=>Tot.ix2 (by omega) (by omega) λy z _=>Tot.bind (kK K y (u y z) H) λ_ _ =>
    Tot.ix2 (by omega) (by omega) λy z _=>Tot.bind (wq K y (u y z) H) λ_ _=>Tot.ix2 (by omega) (by omega) λy z _=>Tot.bind (wq K y (u y z) H) λ_ _=>Tot.ix2 (by omega) (by omega) λy z _=>Tot.bind (BO K y (u y z) H) λt ht=>Tot.ix2 (by omega) (by omega) λy z _=>Tot.bind (kK K y (u y z) H) λ_ _=>Tot.ix2 (by omega) (by omega) λy z _=>Tot.bind (kK K y (u y z) H) λ_ _ =>
    Tot.cnd (λ_=>Tot.ret λh=>by cases h) λ_=>Tot.cnd (λ_=>Tot.ret λh=>by cases h) λ_=>Tot.cnd (λ_=>Tot.ret λh=>by cases h) λ_=>Tot.bind (pz K _ (by show t.1.1.length<=1048576;omega) H) λx ⟨_,hx⟩=>Tot.cnd (λ_=>Tot.ret λh=>by cases h) λJ=>Tot.ret λ_=>?_
   refine Classical.byContradiction λhn=>?_
   rw[hx hn]at J;have X:(ByteArray.mk #[]).toList=s.toList:=by
    have:((ByteArray.mk #[]).toList != s.toList)=false:=J;simpa using this
   rw[HG,HG]at X;have h0:=congrArg FK X;rw[gw,gw]at h0;have R:(ByteArray.mk #[]).size=0:=rfl;omega
 exact Tot.ix2 (by omega) (by omega) λy _ _=>Tot.cnd (λ_=>I 2) λ_=>I 1
def Rt (v r:Nat):Prop:=r*r<=v/\v<(r+1)*(r+1)
theorem Rt.eq {v r s:Nat}(u:Rt v r)(y:Rt v s):r=s:=by
 obtain⟨z,H⟩:=u;obtain⟨I,J⟩:=y;rcases Ge r s with h|h|h
 ·have:=GN (show r+1<=s by omega) (show r+1<=s by omega);omega
 ·exact h
 ·have:=GN (show s+1<=r by omega) (show s+1<=r by omega);omega
theorem yR (K:Nat)(v:Nat)(hv:v<1500000001*1500000001)(hK:1048577<K):∃ r,Rt v r/\Q181.f K ((v:Int),())=some (((r:Int),()),()):=by
 have I:∀ (e k l h:Nat),h-l<2 ^ e->e<k->l<=h->h<=1500000000->l*l<=v->v<(h+1)*(h+1)->∃ r,Rt v r/\ae (λrec a=>Q181.s0 K ((v:Int),()) rec a) k ((l:Int),(h:Int))=some (((r:Int),()),()):=by
  intro e;induction e with
  |zero =>
   intro k l h J hk z O u y;obtain⟨k,rfl⟩:∃ H,k=H+1:=⟨k-1,by omega⟩;have:l=h:=by omega
   subst this;refine⟨l,⟨u,y⟩,?_⟩;show Q181.s0 K _ _ _=_;simp only[Q181.s0];rw[decide_eq_false (by omega)];rfl
  |succ e Y =>
   intro k l h J hk z O u y;obtain⟨k,rfl⟩:∃ H,k=H+1:=⟨k-1,by omega⟩;show ∃ r,Rt v r/\Q181.s0 K _ _ _=_;simp only[Q181.s0];by_cases hl:l<h
   ·rw[decide_eq_true (show (l:Int)<(h:Int) by omega)];have Z:wr .i64 ((l:Int)+(h:Int))=(l:Int)+h:=aC (by omega) (by omega);have e2:wr .i64 ((l:Int)+(h:Int)+1)=((l+h+1:Nat):Int):=(aC (by omega) (by omega)).trans (by omega);have e3:Gn ((l+h+1:Nat):Int) 2=(((l+h+1) / 2:Nat):Int):=by
     rw[GD (by omega)];omega
    rw[Z,e2,e3];have hm:l<(l+h+1) / 2/\(l+h+1) / 2<=h:=by omega
    have X:h-(l+h+1) / 2<2 ^ e/\(l+h+1) / 2-1-l<2 ^ e:=by
     rw[Nat.pow_succ]at J;omega
    generalize (l+h+1) / 2=m at *;have e4:wr .i64 (m:Int)=m:=aC (by omega) (by omega);have e5:Gn (v:Int) (m:Int)=((v / m:Nat):Int):=by
     rw[GD (by omega)];rfl
    have a1:v / m<=v:=Nat.div_le_self _ _;have R:m<=v / m<->m*m<=v:=Nat.le_div_iff_mul_le (by omega);generalize v / m=q at *;have e6:wr .i64 (q:Int)=(q:Int):=aC (by omega) (by omega);rw[e4,e5,e6,decide_eq_false (show ¬ (m:Int)=0 by omega)];simp only[cond_true,cond_false];by_cases M:m<=q
    ·rw[decide_eq_true (by omega)];exact Y k m h X.1 (by omega) (by omega) O (R.1 M) y
    ·rw[decide_eq_false (by omega)];have a0:¬ m*m<=v:=λh4=>M (R.2 h4)
     have e7:wr .i64 ((m:Int)-1)=((m-1:Nat):Int):=ft m (by omega) (by omega);rw[e7];exact Y k l (m-1) X.2 (by omega) (by omega) (by omega) u (by rw[show m-1+1=m by omega];omega)
   ·have:l=h:=by omega
    subst this;refine⟨l,⟨u,y⟩,?_⟩;rw[decide_eq_false (by omega)];rfl
 exact I 31 K 0 1500000000 (by decide) (by omega) (by omega) (by omega) (by omega) hv
theorem CE (K:Nat)(v:Nat)(hv:v<1500000001*1500000001)(hK:1048577<K):∃ r,Rt v r/\Q71.f K ((v:Int),())=some (((r:Int),()),()):=by
 have J:∀ (e k l h:Nat),h-l<=2 ^ e->e<k->l<h->h<=2147483648->l*l<=v->v<h*h->∃ r,Rt v r/\ae (λrec a=>Q71.s0 K ((v:Int),()) rec a) k ((l:Int),(h:Int))=some (((r:Int),()),()):=by
  intro e;induction e with
  |zero =>
   intro k l h M hk H O u y;obtain⟨k,rfl⟩:∃ I,k=I+1:=⟨k-1,by omega⟩;have:h=l+1:=by omega
   subst this;refine⟨l,⟨u,y⟩,?_⟩;show Q71.s0 K _ _ _=_;simp only[Q71.s0];have z:wr .i64 (((l+1:Nat):Int)-(l:Int))=((l+1:Nat):Int)-(l:Int):=aC (by omega) (by omega);rw[z,decide_eq_false (by omega)];rfl
  |succ e X =>
   intro k l h M hk H O u y;obtain⟨k,rfl⟩:∃ I,k=I+1:=⟨k-1,by omega⟩;show ∃ r,Rt v r/\Q71.s0 K _ _ _=_;simp only[Q71.s0];have z:wr .i64 ((h:Int)-(l:Int))=(h:Int)-(l:Int):=aC (by omega) (by omega);rw[z];by_cases hl:l+1<h
   ·rw[decide_eq_true (show (h:Int)-(l:Int)>1 by omega)];have Y:wr .i64 ((l:Int)+(h:Int))=((l+h:Nat):Int):=(aC (by omega) (by omega)).trans (by omega);have Z:Gn ((l+h:Nat):Int) 2=(((l+h) / 2:Nat):Int):=by
     rw[GD (by omega)];omega
    rw[Y,Z];have hm:l<(l+h) / 2/\(l+h) / 2<h:=by omega
    have R:h-(l+h) / 2<=2 ^ e/\(l+h) / 2-l<=2 ^ e:=by
     rw[Nat.pow_succ]at M;omega
    generalize (l+h) / 2=m at *;have e4:wr .i64 (m:Int)=m:=aC (by omega) (by omega);have a0:m*m<=2147483648*2147483648:=GN (by omega) (by omega);have e5:(m:Int)*(m:Int)=((m*m:Nat):Int):=(Int.natCast_mul m m).symm;have e6:wr .i64 ((m*m:Nat):Int)=((m*m:Nat):Int):=aC (by omega) (by omega);rw[e4,e5,e6];simp only[cond_true];by_cases hc:m*m<=v
    ·rw[decide_eq_true (by omega)];exact X k m h R.1 (by omega) (by omega) O hc y
    ·rw[decide_eq_false (by omega)];exact X k l m R.2 (by omega) (by omega) (by omega) u (by omega)
   ·have:h=l+1:=by omega
    subst this;refine⟨l,⟨u,y⟩,?_⟩;rw[decide_eq_false (by omega)];rfl
 exact J 31 K 0 2147483648 (by decide) (by omega) (by omega) (by omega) (by omega) (by omega)
def gb (x:Int):Int:=if x< -1000000000 then -1000000000 else if x>1000000000 then 1000000000 else x
theorem kS (K:Nat)(x:Int):Q180.f K (x,())=some ((gb x,()),()):=by
 simp only[Q180.f,Q177.f,gb];by_cases h:x< -1000000000
 ·rw[decide_eq_true h,if_pos h];rfl
 ·rw[decide_eq_false h,if_neg h];by_cases r:x>1000000000
  ·rw[decide_eq_true r,if_pos r];rfl
  ·rw[decide_eq_false r,if_neg r];rfl
theorem rO (K:Nat)(x:Int):Q70.f K (x,())=some ((gb x,()),()):=by
 simp only[Q70.f,Q69.f,gb,FJ];by_cases r:x>1000000000
 ·rw[decide_eq_true (show (1000000000:Int)<x by omega),if_neg (by omega:¬ x< -1000000000),if_pos r];rfl
 ·rw[decide_eq_false (show ¬ (1000000000:Int)<x by omega)];simp only[cond_false];by_cases h:x< -1000000000
  ·rw[decide_eq_false (show ¬ -1000000000<x by omega),if_pos h];rfl
  ·rw[if_neg h,if_neg r];by_cases u:-1000000000<x
   ·rw[decide_eq_true u];rfl
   ·rw[decide_eq_false u];have:x=-1000000000:=by omega
    rw[this];rfl
theorem uz (x:Int):-1000000000<=gb x/\gb x<=1000000000:=by
 unfold gb;split
 ·omega
 ·split <;> omega
theorem Bb {a:Int}(h:-1000000000<=a/\a<=1000000000):0<=a*a/\a*a<=1000000000000000000:=by
 have e:∃ b:Nat,b<=1000000000/\a*a=((b*b:Nat):Int):=by
  refine⟨a.natAbs,by omega,?_⟩;exact (Int.natAbs_mul_self).symm
 obtain⟨b,r,u⟩:=e;have:=GN r r;omega
end Go.Proofs.YtmibehbhnkeaiaaGreatEv
