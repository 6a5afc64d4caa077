/- The marks that a law writes into what was answered, and the look whether they still stand. -/
import Derived.Test.YtmibehbhnkeaiaaGreatP1
import Derived.Test.YtmibehbhnkeaiaaGreatE0
import Derived.Laws.Strings
set_option linter.unusedVariables false
set_option linter.unusedSimpArgs false
open Bool renaming not_true->FO,not_false->F4,and_eq_true->GK,true_and->GL,eq_iff_iff->GT,false_and->GX,and_self->Gb,false_or->Gw,and_true->Gx,true_or->G0,not_eq_true'->HF,not_eq_true->HK,and_false->HP,or_true->HR
open ByteArray renaming size_extract->Gj
open Classical renaming not_not->GN
open Eq renaming trans->G5
open Go.ByteArray renaming toList_eq->G7
open Go.IntKind renaming wrap_i64->HI
open Int renaming toNat->FL,toNat_natCast->FN,eq_ofNat_of_zero_le->FP,le_refl->GE,tdiv_eq_ediv_of_nonneg->GG,fdiv->GM,tmod->GZ,toNat_zero->Gf,tdiv->Gh,le_trans->Gi,le_of_lt->Gr,tmod_eq_emod_of_nonneg->Gs,tmod_lt_of_pos->HA,tdiv_le_self->HJ,tmod_nonneg->HN,tdiv_nonneg->HO
open List renaming length->FK,getElem_mem->FM,mem_filter->FR,getElem_of_mem->FS,length_cons->FT,drop_eq_getElem_cons->FU,getElem?_eq_getElem->FV,length_nil->FW,nil_append->FX,append_nil->FY,length_append->FZ,filter_eq_self->F1,length_map->F2,filter_cons->F3,filter_eq_nil_iff->F6,pairwise_cons->F7,mem_map->F8,mem_singleton->F9,drop_zero->GB,length_take->GC,pairwise_map->GD,length_drop->GF,length_filter_le->GI,filter_append->GJ,mem_append->GO,mem_of_find?_eq_some->GQ,take_length->GR,take_of_length_le->GS,getElem?_eq_none->GU,length_singleton->GV,pairwise_append->GW,pairwise_iff_getElem->Ga,append_assoc->Gc,take_succ_eq_append_getElem->Gd,reverse_cons->Gg,take_append_drop->Gk,drop_length->Gl,not_mem_nil->Gm,mem_cons->Gn,reverse_reverse->Gp,length_pos_iff->Gq,mem_take_iff_getElem->Gt,getElem_take->Gu,pairwise_singleton->Gy,ext_getElem->Gz,find?_cons->G1,find?_some->G3,map_append->G4,length_take_le->G6,map_cons->G8,find?_eq_none->G9,ne_nil_of_mem->HB,getElem_drop->HC,filter_congr->HD,take_add_one->HE,perm_middle->HG,length_set->HM,mem_range->HQ
open List.Pairwise renaming filter->GY
open Nat renaming le_refl->F0,zero_le->F5,le_trans->GA,lt_or_eq_of_le->GP,mul_le_mul->Ge,lt_trichotomy->Gv
open Option renaming bind_some->FJ,bind->FQ,getD_some->HH,map_some->HL
namespace Go.Proofs.YtmibehbhnkeaiaaGreatEv
open Go
theorem lM {α β R:Type}(t:List α)(p:α->Bool)(g:α->β)(n:Nat)(u:List β->Option R){step:(List β×Int->Option R)->List β×Int->Option R}
  (h:∀ (rec:List β×Int->Option R) (r:List β) (i:Nat) (J:i<t.length),r.length<=i->r.length<n->step rec (r,(i:Int))=rec (bif p t[i] then r++[g t[i]] else r,((i+1:Nat):Int)))
  (hn:∀ (rec:List β×Int->Option R) (r:List β) (i:Nat),i<t.length->r.length<=i->n<=r.length->step rec (r,(i:Int))=u r)
  (z:∀ (rec:List β×Int->Option R) (r:List β),r.length<=t.length->step rec (r,(t.length:Int))=u r) :
  ∀ (d i k:Nat) (r:List β),i+d=t.length->d<k->r.length<=i->r.length<=n->ae step k (r,(i:Int))=u (r++(((t.drop i).filter p).map g).take (n-r.length)):=by
 intro d;induction d with
 |zero =>
  intro i k r J X H _;obtain⟨k,rfl⟩:∃ I,k=I+1:=⟨k-1,by omega⟩;have:i=t.length:=by omega
  subst this;show step (ae step k) _=_;rw[z _ _ H];simp
 |succ d M =>
  intro i k r J X H Y;obtain⟨k,rfl⟩:∃ I,k=I+1:=⟨k-1,by omega⟩;have y:i<t.length:=by omega
  show step (ae step k) _=_;by_cases O:r.length<n
  ·rw[h _ _ _ y H O,FU y,F3];cases hp:p t[i] with
   |true =>
    simp only[cond_true,if_true,G8];rw[M (i+1) k _ (by omega) (by omega) (by simp;omega) (by simp;omega)];congr 1;obtain⟨m,Z⟩:∃ m,n-r.length=m+1:=⟨n-r.length-1,by omega⟩;rw[Z,List.take_succ_cons,Gc];simp only[FZ,FT,FW];rw[show n-(r.length+(0+1))=m by omega];rfl
   |false =>
    simp only[cond_false];rw[M (i+1) k _ (by omega) (by omega) (by omega) (by omega)];rfl
  ·rw[hn _ _ _ y H (by omega)];rw[show n-r.length=0 by omega];simp
theorem wY {α β R:Type}(t:List α)(p:α->Bool)(g:α->β)(u:List β->Option R){step:(List β×Int->Option R)->List β×Int->Option R}
  (h:∀ (rec:List β×Int->Option R) (r:List β) (i:Nat) (z:i<t.length),r.length<=i->step rec (r,(i:Int))=rec (bif p t[i] then r++[g t[i]] else r,((i+1:Nat):Int)))
  (y:∀ (rec:List β×Int->Option R) (r:List β),r.length<=t.length->step rec (r,(t.length:Int))=u r) {k:Nat} (I:t.length<k) :
  ae step k ([],0)=u ((t.filter p).map g):=by
 have:=lM t p g (t.length+1) u (λrec r i z H _=>h rec r i z H) (λrec r i z H J=>by omega) y t.length 0 k [] (by omega) I (F0 _) (by simp);refine this.trans ?_;congr 1;simp only[FX,FW,GB];exact GS (by have:=GI p t;simp;omega)
theorem dR {e:Ty}{b:Nat}{xs:List e.den}(h:xs.length*b<=140737488355328):gx e b xs=some ((xs,()),()):=by
 unfold gx;rw[decide_eq_true (by simpa[am]using h)];rfl
theorem Cs {α β:Type}{xs r:List α}{b:Nat}{x y:β}(h:(xs.length+r.length)*b<=140737488355328):(bif decide ((FK xs+FK r)*b<=am) then x else y)=x:=by
 rw[decide_eq_true (by simpa[am]using h)];rfl
theorem D8 (K:Nat)(t:List ah)(u:ah×Unit->Option Bool)(p:ah->Bool)(J:t.length<=1048576)(H:1048577<K)(hφ:∀ f∈t,u (f,())=some (p f)) :
  Q202.f K (t,u,())=some (((t.filter p).map (·.1),()),()):=by
 refine wY (step:=λrec a=>Q202.s0 K (t,u,()) rec a) t p (λf=>f.1) (λz=>some ((z,()),())) ?_ ?_ (by omega)
 ·intro rec r i y I;simp only[Q202.s0];rw[bt (by omega:(i:Int)<(FK t:Int)),af y,ar i (by omega)];simp only[cond_true,FJ];rw[hφ _ (FM y)];simp only[FJ];cases p t[i] with
  |true=>simp only[cond_true];rw[Cs (by simp;omega)]
  |false=>rfl
 ·intro rec r _;simp only[Q202.s0,aS];rfl
def nR (f:ah):Bool:=f.2.2.2&&f.2.2.1==1
def gr (t:List ah):List Int:=((t.filter nR).map (·.1)).take 2
theorem wh (K:Nat)(t:List ah)(J:t.length<=1048576)(I:1048577<K):Q93.f K (t,2,())=some ((gr t,()),()):=by
 have:=lM (step:=λrec a=>Q93.s0 K (t,2,()) rec a) t nR (λf=>f.1) 2 (λH=>some ((H,()),())) ?_ ?_ ?_ t.length 0 K [] (by omega) (by omega) (F0 _) (by simp)
 ·exact this
 ·intro rec r i u y z;simp only[Q93.s0];rw[bt (by omega:(i:Int)<(FK t:Int)),af u,ar i (by omega),decide_eq_true (by omega:(FK r:Int)<2)];simp only[cond_true,FJ,nR];cases t[i].2.2.2 with
  |true =>
   simp only[cond_true,GL];cases t[i].2.2.1==1 with
   |true=>simp only[cond_true];rw[Cs (by simp;omega)]
   |false=>rfl
  |false=>rfl
 ·intro rec r i u y z;simp only[Q93.s0];rw[bt (by omega:(i:Int)<(FK t:Int)),decide_eq_false (by omega:¬ (FK r:Int)<2)];rfl
 ·intro rec r _;simp only[Q93.s0,aS];rfl
theorem yu (t:List ah):(gr t).length<=2:=by
 unfold gr;exact G6 _ _
def fg (l:List ch)(s:Int):List ah:=((l.find? λx=>x.1==s).map (·.2)).getD []
theorem qG {R:Type}(l:List ch)(s:Int)(r:List ah->Option R){step:(Int->Option R)->Int->Option R}
  (h:∀ (rec:Int->Option R) (i:Nat) (H:i<l.length),step rec (i:Int)=bif l[i].1==s then r l[i].2 else rec ((i+1:Nat):Int))
  (u:∀ rec:Int->Option R,step rec (l.length:Int)=r []) :
  ∀ (d i k:Nat),i+d=l.length->d<k->ae step k (i:Int)=r (fg (l.drop i) s):=by
 intro d;induction d with
 |zero =>
  intro i k H I;obtain⟨k,rfl⟩:∃ z,k=z+1:=⟨k-1,by omega⟩;have:i=l.length:=by omega
  subst this;show step (ae step k) _=_;rw[u];simp[fg]
 |succ d J =>
  intro i k H I;obtain⟨k,rfl⟩:∃ z,k=z+1:=⟨k-1,by omega⟩;have y:i<l.length:=by omega
  show step (ae step k) _=_;rw[h _ _ y,FU y];simp only[fg,G1];cases l[i].1==s with
  |true=>rfl
  |false=>exact J (i+1) k (by omega) (by omega)
theorem sn {l:List ch}{s:Int}:fg l s=[]\/∃ x∈l,x.1=s/\fg l s=x.2:=by
 unfold fg;cases h:l.find? λx=>x.1==s with
 |none=>exact .inl rfl
 |some x=>exact .inr ⟨x,GQ h,by simpa using G3 h,rfl⟩
def bD {α:Type}(k:α->Int)(x:α)(xs:List α):List α:=xs.filter (λy=>decide (k y<k x))++x::xs.filter (λy=>decide (k x<k y))
theorem so {α:Type}{k:α->Int}{xs:List α}{v:Int}{m:Nat}(J:m<=xs.length)(I:∀ i,(z:i<xs.length)->i<m->k xs[i]<v)(z:∀ i,(h:i<xs.length)->m<=i->v<=k xs[i]):xs.filter (λy=>decide (k y<v))=xs.take m:=by
 conv=>lhs;rw[<- Gk m xs]
 rw[GJ];have r:(xs.take m).filter (λy=>decide (k y<v))=xs.take m:=by
  rw[F1];intro y u;obtain⟨i,r,rfl⟩:=FS u;rw[GC]at r;rw[Gu];exact decide_eq_true (I i (by omega) (by omega))
 have H:(xs.drop m).filter (λy=>decide (k y<v))=[]:=by
  rw[F6];intro y u;obtain⟨i,r,rfl⟩:=FS u;rw[GF]at r;rw[HC];have:=z (m+i) (by omega) (by omega);simp only[decide_eq_true_eq];omega
 rw[r,H,FY]
theorem sq {α:Type}{k:α->Int}{xs:List α}{v:Int}{m:Nat}(J:m<=xs.length)(I:∀ i,(z:i<xs.length)->i<m->k xs[i]<=v)(z:∀ i,(h:i<xs.length)->m<=i->v<k xs[i]):xs.filter (λy=>decide (v<k y))=xs.drop m:=by
 conv=>lhs;rw[<- Gk m xs]
 rw[GJ];have r:(xs.take m).filter (λy=>decide (v<k y))=[]:=by
  rw[F6];intro y u;obtain⟨i,r,rfl⟩:=FS u;rw[GC]at r;rw[Gu];have:=I i (by omega) (by omega);simp only[decide_eq_true_eq];omega
 have H:(xs.drop m).filter (λy=>decide (v<k y))=xs.drop m:=by
  rw[F1];intro y u;obtain⟨i,r,rfl⟩:=FS u;rw[GF]at r;rw[HC];exact decide_eq_true (z (m+i) (by omega) (by omega))
 rw[r,H,FX]
theorem gY {α:Type}{k:α->Int}{xs:List α}{x:α}{m:Nat}(h:Asc k xs)(H:m<xs.length)(e:k xs[m]=k x):xs.set m x=bD k x xs:=by
 have J:=ct.1 h;have M:∀ i,(r:i<xs.length)->i<m->k xs[i]<k x:=λi r z=>by rw[<- e];exact J i m r H z
 have I:∀ i,(r:i<xs.length)->m<i->k x<k xs[i]:=λi r z=>by rw[<- e];exact J m i H r z
 rw[bD,so (m:=m) (by omega) M (λi r u=>by
   rcases GP u with y|y
   ·exact Gr (I i r y)
   ·subst y;omega),
  sq (m:=m+1) (by omega) (λi r u=>by
   rcases GP (Nat.le_of_lt_succ u) with y|y
   ·exact Gr (M i r y)
   ·subst y;omega) (λi r u=>I i r u),
  List.set_eq_take_append_cons_drop,if_pos H]
theorem gu {α:Type}{k:α->Int}{xs:List α}{x:α}{m:Nat}(z:m<=xs.length)(H:∀ i,(y:i<xs.length)->i<m->k xs[i]<k x)(y:∀ i,(h:i<xs.length)->m<=i->k x<k xs[i]):xs.take m++[x]++xs.drop m=bD k x xs:=by
 rw[bD,so z H (λi r u=>Gr (y i r u)),sq z (λi r u=>Gr (H i r u)) y,Gc];rfl
theorem bd {α:Type}{k:α->Int}{xs:List α}{x y:α}:y∈bD k x xs<->y=x\/(y∈xs/\k y≠k x):=by
 simp only[bD,GO,Gn,FR,decide_eq_true_eq];constructor
 ·rintro (⟨r,u⟩|rfl|⟨r,u⟩)
  ·exact .inr ⟨r,by omega⟩
  ·exact .inl rfl
  ·exact .inr ⟨r,by omega⟩
 ·rintro (rfl|⟨r,u⟩)
  ·exact .inr (.inl rfl)
  ·rcases Int.lt_or_gt_of_ne u with z|z
   ·exact .inl ⟨r,z⟩
   ·exact .inr (.inr ⟨r,z⟩)
theorem fI {α:Type}{k:α->Int}{xs:List α}{x:α}(h:Asc k xs):Asc k (bD k x xs):=by
 unfold Asc bD;rw[GW,F7];refine⟨h.filter _,⟨λy r=>?_,h.filter _⟩,λy r z u=>?_⟩
 ·simpa using (FR.1 r).2
 ·have H:k y<k x:=by simpa using (FR.1 r).2
  rcases Gn.1 u with rfl|u
  ·exact H
  ·have I:k x<k z:=by simpa using (FR.1 u).2
   omega
theorem z9 {α:Type}{k:α->Int}{xs:List α}{x:α}:(bD k x xs).length<=xs.length+1:=by
 have:∀ l:List α,(l.filter (λy=>decide (k y<k x))).length+(l.filter (λy=>decide (k x<k y))).length<=l.length:=by
  intro l;induction l with
  |nil=>simp
  |cons y l u =>
   simp only[F3,FT];by_cases r:k y<k x
   ·rw[if_pos (decide_eq_true r),if_neg (by simp;omega)];simp only[FT];omega
   ·rw[if_neg (by simpa using r)];split <;> (try simp only[FT]) <;> omega
 have:=this xs;simp only[bD,FZ,FT];omega
theorem mR {α:Type}{k:α->Int}{xs:List α}(h:Asc k xs){i:Nat}(u:i<xs.length){v:Int}(e:k xs[i]=v):xs.find? (λy=>k y==v)=some xs[i]:=by
 cases r:xs.find? (λy=>k y==v) with
 |none =>
  have:=G9.1 r xs[i] (FM u);simp[e]at this
 |some y =>
  have z:k y=v:=by simpa using G3 r
  obtain⟨j,H,rfl⟩:=FS (GQ r);have:=pW h H u (by rw[z,e]);subst this;rfl
theorem mo {α:Type}{k:α->Int}{xs:List α}{v:Int}(h:∀ y∈xs,k y≠v):xs.find? (λy=>k y==v)=none:=by
 rw[G9];intro y r;simpa using h y r
def kH {α:Type}(k:α->Int)(x:α):Bool->List α->List α
 |d,[]=>bif d then [] else [x]
 |d,y::r=>(bif !d&&decide (k x<=k y) then [x] else [])++((bif k y != k x then [y] else [])++kH k x (d||decide (k x<=k y)) r)
theorem qH {α:Type}{k:α->Int}{x:α}:∀ {r:List α},(∀ y∈r,k x<k y)->kH k x true r=r
 |[],_=>rfl
 |y::r,h=>by
  have H:=h y (by simp);simp only[kH,FO,GX,cond_false,G0,FX];rw[qH (λz u=>h z (by simp[u])),show (k y != k x)=true by simp;omega];rfl
theorem lN {α:Type}{k:α->Int}{x:α}:∀ {xs:List α},Asc k xs->kH k x false xs=bD k x xs
 |[],_=>rfl
 |y::u,h=>by
  have R:Asc k u:=(F7.1 h).2;have H:∀ z∈u,k y<k z:=(F7.1 h).1;simp only[kH,F4,GL,Gw];by_cases J:k x<=k y
  ·rw[decide_eq_true J,qH (λz r=>by have:=H z r;omega)];simp only[cond_true,bD,F3];have M:u.filter (λz=>decide (k z<k x))=[]:=by
    rw[F6];intro z r;have:=H z r;simp;omega
   have O:u.filter (λz=>decide (k x<k z))=u:=by
    rw[F1];intro z r;have:=H z r;simp;omega
   rw[M,O,if_neg (by simp;omega)];by_cases I:k y=k x
   ·rw[if_neg (by simp;omega),show (k y != k x)=false by simpa using I];rfl
   ·rw[if_pos (by simp;omega),show (k y != k x)=true by simpa using I];rfl
  ·rw[decide_eq_false J,lN R,show (k y != k x)=true by simp;omega];simp only[cond_false,cond_true,bD,F3,FX];rw[if_pos (by simp;omega),if_neg (by simp;omega)];rfl
theorem ua {α A R:Type}(k:α->Int)(x:α)(t:List α)(q:α->Bool)(Y:Option R)(u:List α->Option R)(S:List α->Bool->Nat->A){step:(A->Option R)->A->Option R}
  (h:∀ (rec:A->Option R) (r:List α) (d:Bool) (i:Nat) (X:i<t.length),r.length<=i+1->(d=false->r.length<=i)->step rec (S r d i)=bif q t[i] then Y else rec (S ((r++(bif !d&&decide (k x<=k t[i]) then [x] else []))++(bif k t[i] != k x then [t[i]] else [])) (d||decide (k x<=k t[i])) (i+1)))
  (H:∀ (rec:A->Option R) (r:List α) (d:Bool),r.length<=t.length+1->(d=false->r.length<=t.length)->step rec (S r d t.length)=u (r++(bif d then [] else [x]))) :
  ∀ (n i K:Nat) (r:List α) (d:Bool),i+n=t.length->n<K->r.length<=i+1->(d=false->r.length<=i)->ae step K (S r d i)=bif (t.drop i).any q then Y else u (r++kH k x d (t.drop i)):=by
 intro n;induction n with
 |zero =>
  intro i K r d X Z J y;obtain⟨K,rfl⟩:∃ M,K=M+1:=⟨K-1,by omega⟩;have:i=t.length:=by omega
  subst this;show step (ae step K) _=_;rw[H _ _ _ J y,Gl];rfl
 |succ n ih =>
  intro i K r d X Z J y;obtain⟨K,rfl⟩:∃ M,K=M+1:=⟨K-1,by omega⟩;have I:i<t.length:=by omega
  show step (ae step K) _=_;rw[h _ _ _ _ I J y,FU I,List.any_cons];cases hq:q t[i] with
  |true=>rfl
  |false =>
   simp only[cond_false,Gw,kH];rw[ih (i+1) K _ _ (by omega) (by omega) ?_ ?_]
   ·simp only[Gc]
   ·cases d with
    |true =>
     simp only[FO,GX,cond_false,FY];cases k t[i] != k x <;> simp <;> omega
    |false =>
     have:=y rfl;cases O:decide (k x<=k t[i]) <;> cases k t[i] != k x <;> simp <;> omega
   ·intro z;rw[Bool.or_eq_false_iff]at z;obtain⟨rfl,O⟩:=z;have:=y rfl;rw[O];cases k t[i] != k x <;> simp <;> omega
theorem pm (K:Nat)(n:aa)(y:NB n)(u:1048577<K):∃ b,Q185.f K (n,())=rb b/\Q163.f K (n,())=rb b/\(b=true<->ff n):=by
 obtain⟨b,H,r⟩:=p7 K n y u;obtain⟨z,I,J⟩:=p8 K n y u;have:b=z:=by rw[GT,r,J]
 subst this;exact⟨b,H,I,r⟩
theorem ff.up {n:aa}(h:ff n)(r:n.2.1=true):UpP n:=by
 have:=h.2.2.2.2.2
 rwa [if_pos r]at this
abbrev aj:=Int×Int×Int×Int×Int×Int×cW×List ah
abbrev aj.table (w:aj):List ah:=w.2.2.2.2.2.2.2
abbrev aj.coord (w:aj):cW:=w.2.2.2.2.2.2.1
def mS:List ah->Prop
 |[]=>False
 |f::l=>cn (f::l) (ak f.1)
def dz (w:aj):Prop:=InP w.1 1 2/\InP w.2.1 1 6/\InP w.2.2.1 0 7/\InP w.2.2.2.1 0 7/\InP w.2.2.2.2.1 0 999999/\InP w.2.2.2.2.2.1 0 7/\bX (aj.coord w)/\aE (aj.table w) /\
 (if w.2.1=6 then mS (aj.table w) else cn (aj.table w) (ak w.2.2.1))
theorem mT (K:Nat)(w:aj)(u:(aj.table w).length<=1048576)(r:1048577<K):Ret (Q19.f K (w,())) (dz w):=by
 refine Ret.nx (cK K _ _ _) λ_=>Ret.nx (cK K _ _ _) λ_=>Ret.nx (cK K _ _ _) λ_=>Ret.nx (cK K _ _ _) λ_=>Ret.nx (cK K _ _ _) λ_=>Ret.nx (cK K _ _ _) λ_=>Ret.nx (fu K _) λ_=>Ret.nx (gW K _ u r) λ_=>?_
 dsimp only;by_cases h:w.2.1=6
 ·rw[show (w.2.1==6)=true by simpa using h,if_pos h];obtain⟨w1,w2,w3,w4,w5,y,z,t⟩:=w;cases t with
  |nil=>exact Ret.no (λh=>h)
  |cons f l =>
   rw[show decide ((FK (f::l):Int)>0)=true from decide_eq_true (by simp only[FT];omega)];simp only[cond_true];exact Ret.vl (af (xs:=f::l) (i:=0) (by simp)) (eo K _ _ u r).id
 ·rw[show (w.2.1==6)=false by simpa using h,if_neg h];exact (eo K _ _ u r).id
theorem ub (K:Nat)(w:aj)(u:(aj.table w).length<=1048576)(r:1048577<K):Ret (Q164.f K (w,())) (dz w):=by
 refine Ret.iff (Q:=dz w) (Ret.nx (eY K _ _ _) λ_=>Ret.nx (eY K _ _ _) λ_=>Ret.nx (jM K _) λ_=>Ret.nx (jM K _) λ_=>Ret.nx (jM K _) λ_=>Ret.nx (eY K _ _ _) λ_=>Ret.nx (ji K _) λ_=>Ret.nx (gX K _ u r)
  (Q:=if w.2.1=6 then mS (aj.table w) else cn (aj.table w) (ak w.2.2.1)) λ_=>?_) ?_
 ·dsimp only;by_cases h:w.2.1=6
  ·rw[show (w.2.1==6)=true by simpa using h,if_pos h];obtain⟨w1,w2,w3,w4,w5,y,z,t⟩:=w;cases t with
   |nil=>exact Ret.no (λh=>h)
   |cons f l =>
    rw[show decide ((FK (f::l):Int)>0)=true from decide_eq_true (by simp only[FT];omega)];simp only[cond_true];exact Ret.vl (af (xs:=f::l) (i:=0) (by simp)) (Ret.vl (ml K _) (gq K _ _ u r).id)
  ·rw[show (w.2.1==6)=false by simpa using h,if_neg h];simp only[cond_false];exact Ret.vl (ml K _) (gq K _ _ u r).id
 ·unfold dz;constructor
  ·rintro⟨h1,h2,h3,h4,h5,h6,h7,h8,h9⟩;exact⟨h1,h2,h3,h4,h6,h5,h7,h8,h9⟩
  ·rintro⟨h1,h2,h3,h4,h6,h5,h7,h8,h9⟩;exact⟨h1,h2,h3,h4,h5,h6,h7,h8,h9⟩
theorem jk {α A R:Type}(xs:List α)(S:List α->Nat->A)(r:Option R){step:(A->Option R)->A->Option R}
  (h:∀ (rec:A->Option R) (u:List α) (i:Nat) (z:i<xs.length),u.length=i->step rec (S u i)=rec (S (u++[xs[i]]) (i+1))) (y:∀ rec:A->Option R,step rec (S xs xs.length)=r) {k:Nat} (H:xs.length<k):ae step k (S [] 0)=r:=by
 refine fV (step:=step) xs.length (λi=>S (xs.take i) i) r ?_ ?_ H
 ·intro rec i z;show step rec (S (xs.take i) i)=rec (S (xs.take (i+1)) (i+1));rw[h rec (xs.take i) i z (by simp;omega),Gd z]
 ·intro rec;show step rec (S (xs.take xs.length) xs.length)=r;rw[GR];exact y rec
theorem szb (a b c:Nat)(r:c<=64)(h:a+b<=2097152):decide ((a+b)*c<=am)=true:=by
 have:=Ge h r;exact decide_eq_true (by unfold am;omega)
theorem nS (K:Nat)(n:aa)(y:NB n)(R:1048577<K):Q106.f K (n,())=some ((n,()),()):=by
 have H:=y.table;have I:=y.cast;have J:=y.doubts;have M:=y.places;have O:=y.others;simp only[Q106.f,Q106.pre];rw[szb _ _ _ (by omega) (by show (FK ([]:List ah))+(aa.table n).length<=_;simp;omega),szb _ _ _ (by omega) (by show (FK ([]:List aO))+(aa.cast n).length<=_;simp;omega)];simp only[cond_true];refine jk (aa.doubts n) (step:=λrec a=>Q106.s0 K (n,()) (Q106.l1 K (n,())) rec a) (λr i=>((i:Int),r)) _ ?_ ?_ (by omega)
 ·intro rec r i u z;have:=y.by_ _ (FM u);simp only[Q106.s0];rw[bt (by omega:(i:Int)<(FK (aa.doubts n):Int)),af u,ar i (by omega)];simp only[cond_true,FJ];rw[szb _ _ _ (by omega) (by simp;omega),szb _ _ _ (by omega) (by simp;omega)];rfl
 ·intro rec;simp only[Q106.s0,aS,cond_false];refine jk (aa.places n) (step:=λrec a=>Q106.s1 K (n,()) (Q106.l2 K (n,())) rec a) (λr i=>((i:Int),aa.doubts n,r)) _ ?_ ?_ (by omega)
  ·intro rec r i u z;have:=y.trips _ (FM u);simp only[Q106.s1];rw[bt (by omega:(i:Int)<(FK (aa.places n):Int)),af u,ar i (by omega)];simp only[cond_true,FJ];rw[szb _ _ _ (by omega) (by simp;omega),szb _ _ _ (by omega) (by simp;omega)];rfl
  ·intro rec;simp only[Q106.s1,aS,cond_false];refine jk (aa.others n) (step:=λrec a=>Q106.s2 K (n,()) rec a) (λr i=>((i:Int),aa.doubts n,aa.places n,r)) _ ?_ ?_ (by omega)
   ·intro rec r i u z;have:=y.facts _ (FM u);simp only[Q106.s2,zcp8];rw[bt (by omega:(i:Int)<(FK (aa.others n):Int)),af u,ar i (by omega)];simp only[cond_true,FJ];rw[szb _ _ _ (by omega) (by simp;omega),szb _ _ _ (by omega) (by simp;omega)];rfl
   ·intro rec;simp only[Q106.s2,zcp8,aS,cond_false];rfl
theorem Aa (K:Nat)(n:aa)(y:NB n)(R:1048577<K):Q168.f K (n,())=some ((n,()),()):=by
 have H:=y.table;have I:=y.cast;have J:=y.doubts;have M:=y.places;have O:=y.others;simp only[Q168.f,Q168.pre];refine jk (aa.doubts n) (step:=λrec a=>Q168.s0 K (n,()) (Q168.l1 K (n,())) rec a) (λr i=>(r,(i:Int))) _ ?_ ?_ (by omega)
 ·intro rec r i u z;have:=y.by_ _ (FM u);simp only[Q168.s0,Q2.f];rw[bt (by omega:(i:Int)<(FK (aa.doubts n):Int)),af u,ar i (by omega)];simp only[cond_true,FJ];rw[dR (by omega)];simp only[FJ];rw[szb _ _ _ (by omega) (by simp;omega)];rfl
 ·intro rec;simp only[Q168.s0,aS,cond_false];refine jk (aa.places n) (step:=λrec a=>Q168.s1 K (n,()) (Q168.l2 K (n,())) rec a) (λr i=>(aa.doubts n,r,(i:Int))) _ ?_ ?_ (by omega)
  ·intro rec r i u z;have:=y.trips _ (FM u);simp only[Q168.s1,Q2.f];rw[bt (by omega:(i:Int)<(FK (aa.places n):Int)),af u,ar i (by omega)];simp only[cond_true,FJ];rw[dR (by omega)];simp only[FJ];rw[szb _ _ _ (by omega) (by simp;omega)];rfl
  ·intro rec;simp only[Q168.s1,aS,cond_false];refine jk (aa.others n) (step:=λrec a=>Q168.s2 K (n,()) rec a) (λr i=>(aa.doubts n,aa.places n,r,(i:Int))) _ ?_ ?_ (by omega)
   ·intro rec r i u z;have:=y.facts _ (FM u);simp only[Q168.s2,zcp8,Q1.f];rw[bt (by omega:(i:Int)<(FK (aa.others n):Int)),af u,ar i (by omega)];simp only[cond_true,FJ];rw[dR (by omega)];simp only[FJ];rw[szb _ _ _ (by omega) (by simp;omega)];rfl
   ·intro rec;simp only[Q168.s2,zcp8,aS,cond_false,Q1.f,Q3.f];rw[dR (by show (aa.table n).length*_<=_;omega),dR (by show (aa.cast n).length*_<=_;omega)];rfl
instance (f g:ah):Decidable (bP f g):=by unfold bP;infer_instance
theorem qI (K:Nat)(f g:ah):Q24.f K (f,g,())=rb (decide (bP f g)):=by
 obtain⟨b,r,u⟩:=tZ K f g;rw[r,show b=decide (bP f g) by rw[GT,u];simp]
def bZ (t:List ah)(f:ah):List ah×Bool :=
 match t.find? (λg=>g.1==f.1) with
 |some g=>if bP f g then (bD (λg=>g.1) f t,true) else (t,false)
 |none=>(bD (λg=>g.1) f t,true)
theorem k7 {t:List ah}{f:ah}(r:Asc (λg:ah=>g.1) t){i:Nat}(u:i<t.length)(e:t[i].1=f.1):bZ t f=if bP f t[i] then (bD (λg=>g.1) f t,true) else (t,false):=by
 unfold bZ;rw[show t.find? (λg=>g.1==f.1)=some t[i] from mR r u e]
theorem iU {t:List ah}{f:ah}(h:∀ g∈t,g.1≠f.1):bZ t f=(bD (λg=>g.1) f t,true):=by
 unfold bZ;rw[show t.find? (λg=>g.1==f.1)=none from mo h]
theorem jl {e:Ty}{b:Nat}{xs:List e.den}{m:Nat}{v:e.den}(u:m<=xs.length)(r:b<=64)(y:xs.length<=1048576):fQ e b xs (m:Int) [v]=some ((xs.take m++[v]++xs.drop m,()),()):=by
 unfold fQ;have:(xs.length+[v].length)*b<=140737488355328:=GA (Ge (show xs.length+[v].length<=1048577 by simp;omega) r) (by decide);rw[if_pos ⟨by omega,by omega,by simp,by simpa only[am]using this⟩,FN]
theorem sr {e:Ty}{xs:List e.den}{u:e.den×Unit->Option Bool}(p:e.den->Bool)(z:xs.length<=1048576)(h:∀ x∈xs,u (x,())=some (p x)):ir e xs u=some ((xs.filter (λx=>!p x),()),()):=by
 have:∀ r:List e.den,(∀ x∈r,u (x,())=some (p x))->mK u r=some (r.filter (λx=>!p x)):=by
  intro r;induction r with
  |nil=>intro _;rfl
  |cons y r H =>
   intro h;simp only[mK,h y (by simp),FJ,H (λx z=>h x (by simp[z])),HL,F3];cases p y <;> rfl
 unfold ir;rw[if_pos z,this xs h];rfl
theorem put_s (K:Nat)(t:List ah)(f:ah)(ht:t.length<=1048576)(R:Asc (λg:ah=>g.1) t)(hK:1048577<K):Q25.f K (t,f,())=some (((bZ t f).1,(bZ t f).2,()),()):=by
 simp only[Q25.f,Q25.pre];obtain⟨o,H,M⟩:=fT K t f.1 ht hK;rw[M];simp only[FJ];cases H with
 |at_ i r e =>
  simp only;rw[k7 R r e,decide_eq_true (by omega:((i:Nat):Int)>=0),af r];simp only[cond_true,FJ];rw[show Q24.f K (f,t[i],())=_ from qI K f t[i]];simp only[FJ];by_cases H:bP f t[i]
  ·rw[decide_eq_true H,if_pos H];simp only[FO,cond_false];rw[szb _ _ _ (by omega) (by show (FK ([]:List ah))+t.length<=_;simp;omega)];simp only[cond_true,FX,af r,FJ,FN];rw[gY (k:=λg:ah=>g.1) R r e]
  ·rw[decide_eq_false H,if_neg H];rfl
 |no h =>
  simp only;rw[iU h,decide_eq_false (by omega:¬ (-1:Int)>=0)];simp only[cond_false];have J:∀ m:Nat,m<=t.length->(bif decide ((0:Int)<=0)&&decide ((0:Int)<=(m:Int))&&decide ((m:Int)<=(FK t:Int))&&true then (bif decide ((FK ([]:List ah)+FK ((t.take (FL (m:Int))).drop (FL 0)))*32<=am) then (bif decide ((FK ([]++((t.take (FL (m:Int))).drop (FL 0)))+FK ([f]))*32<=am) then (bif decide ((0:Int)<=(m:Int))&&decide ((m:Int)<=(FK t:Int))&&decide ((FK t:Int)<=(FK t:Int))&&true then (bif decide ((FK (([]++((t.take (FL (m:Int))).drop (FL 0)))++([f]))+FK ((t.take (FL (FK t:Int))).drop (FL (m:Int))))*32<=am) then (some (((([]++((t.take (FL (m:Int))).drop (FL 0)))++([f]))++((t.take (FL (FK t:Int))).drop (FL (m:Int))),true,()),())) else none) else none) else none) else none) else (none:Option ((List ah×Bool×Unit)×Unit)))=some ((t.take m++[f]++t.drop m,true,()),()):=by
   intro m X;rw[decide_eq_true (by omega:(0:Int)<=0),decide_eq_true (by omega:(0:Int)<=(m:Int)),decide_eq_true (by omega:(m:Int)<=(FK t:Int)),decide_eq_true (by omega:(FK t:Int)<=(FK t:Int))];simp only[FN,Gf,GB,FX,GR,Gb,cond_true];have M:(t.take m).length=m:=by rw[GC];omega
   have z:(t.drop m).length=t.length-m:=GF;rw[szb _ _ _ (by omega) (by simp only[FW];omega),szb _ _ _ (by omega) (by simp only[FT,FW];omega),szb _ _ _ (by omega) (by simp only[FZ,FT,FW];omega)];rfl
  have:=cG (step:=λrec a=>Q25.s0 K (t,f,()) rec a) t.length (λi=>(i:Int)) (λj=>∃ h:j<t.length,¬ t[j].1<f.1) (some ((t.take t.length++[f]++t.drop t.length,true,()),())) (λj=>some ((t.take j++[f]++t.drop j,true,()),())) ?_ ?_ t.length K 0 (by omega) (by omega)
  ·have I:∀ m,m<=t.length->(∀ i,(r:i<t.length)->i<m->t[i].1<f.1)->(∀ i,(r:i<t.length)->m<=i->f.1<t[i].1)->t.take m++[f]++t.drop m=bD (λg=>g.1) f t:=λm X lo r=>gu (k:=λg:ah=>g.1) X lo r
   rcases this with ⟨M,z⟩|⟨j,_,M,⟨Y,h4⟩,Z,z⟩
   ·rw[I t.length (F0 _) (λi r _=>by
     have:=M i (F5 _) r;exact GN.1 λh=>this ⟨r,h⟩) (λi r h=>by omega)]at z
    exact z
   ·rw[I j (by omega) (λi r y=>by
     have:=Z i (F5 _) y;exact GN.1 λh=>this ⟨r,h⟩) (λi r y=>by
     have a0:=h t[i] (FM r);rcases GP y with O|O
     ·have:=ct.1 R j i Y r O;omega
     ·subst O;omega)]at z
    exact z
  ·intro rec i r;simp only[Q25.s0];rw[bt (by omega:(i:Int)<(FK t:Int)),af r,ar i (by omega)];simp only[cond_true,FJ];by_cases u:t[i].1<f.1
   ·exact .inl ⟨λ⟨_,h⟩=>h u,by rw[decide_eq_true u];rfl⟩
   ·exact .inr ⟨⟨r,u⟩,by rw[decide_eq_false u];exact J i (by omega)⟩
  ·intro rec;simp only[Q25.s0,aS,cond_false];exact J t.length (F0 _)
theorem wZ (K:Nat)(t:List ah)(f:ah)(X:t.length<=1048576)(z:Asc (λg:ah=>g.1) t)(R:1048577<K):Q195.f K (t,f,())=some (((bZ t f).1,(bZ t f).2,()),()):=by
 simp only[Q195.f,Q1.f,Q4.f];rw[dR (by omega)];simp only[FJ];obtain⟨m,u,Y⟩:=tY K t f.1 X z R;rw[Y];simp only[FJ];by_cases M:∃ h:m<t.length,t[m].1=f.1
 ·obtain⟨I,y⟩:=M;rw[decide_eq_true ⟨I,y⟩,k7 z I y];simp only[FO,cond_false,af I,FJ,FN];rw[nP K f t[m] R];simp only[FJ];by_cases O:bP f t[m]
  ·rw[decide_eq_true ((kh y.symm).2 O),if_pos O,gY (k:=λg:ah=>g.1) z I y];rfl
  ·rw[decide_eq_false (λh=>O ((kh y.symm).1 h)),if_neg O];rfl
 ·rw[decide_eq_false M,iU (λg hg e=>by
   obtain⟨i,r,rfl⟩:=FS hg;rcases Gv i m with h|h|h
   ·have:=u.lo i r h;omega
   ·subst h;exact M ⟨r,e⟩
   ·have Z:=u.hi m (by omega) (F0 _);have J:=ct.1 z m i (by omega) r h;omega)]
  simp only[F4,cond_true];rw[jl u.le (by omega) X];simp only[FJ];rw[gu (k:=λg:ah=>g.1) u.le u.lo (λi r H=>by
   have:=u.hi i r H;rcases GP H with J|J
   ·have Z:=u.hi m (by omega) (F0 _);have h7:=ct.1 z m i (by omega) r J;omega
   ·subst J;have:t[m].1≠f.1:=λe=>M ⟨r,e⟩
    omega)]
def dF (l:List aO)(f:ah):List aO:=if ∃ x∈l,x.1.1=f.1/\¬ bP f x.1 then l else bD (λx=>x.1.1) (f,4) l
theorem vB {l:List aO}{f:ah}:dF l f=bif l.any (λx=>x.1.1==f.1&&!decide (bP f x.1)) then l else bD (λx=>x.1.1) (f,4) l:=by
 unfold dF;have:(∃ x∈l,x.1.1=f.1/\¬ bP f x.1)<->l.any (λx=>x.1.1==f.1&&!decide (bP f x.1))=true:=by
  rw[List.any_eq_true];simp
 by_cases h:∃ x∈l,x.1.1=f.1/\¬ bP f x.1
 ·rw[if_pos h,this.1 h];rfl
 ·rw[if_neg h,show l.any (λx=>x.1.1==f.1&&!decide (bP f x.1))=false by rw[Bool.eq_false_iff];exact λr=>h (this.2 r)];rfl
theorem Bx (K:Nat)(l:List aO)(f:ah)(Y:l.length<=1048576)(I:Asc (λx:aO=>x.1.1) l)(X:1048577<K):Q26.f K (l,f,())=some ((dF l f,()),()):=by
 have:=ua (step:=λrec a=>Q26.s0 K (l,f,()) rec a) (λx:aO=>x.1.1) (f,4) l (λx=>x.1.1==f.1&&!decide (bP f x.1)) (some ((l,()),())) (λO=>some ((O,()),())) (λr d i=>(r,d,(i:Int))) ?_ ?_ l.length 0 K [] false (by omega) (by omega) (by simp) (by simp)
 ·refine G5 (this:Q26.f K (l,f,())=_) ?_;rw[GB,vB,lN I];cases l.any (λx=>x.1.1==f.1&&!decide (bP f x.1)) <;> rfl
 ·intro rec r d i M J z;simp only[Q26.s0];rw[bt (by omega:(i:Int)<(FK l:Int)),af M,ar i (by omega)];simp only[cond_true,FJ];have y:decide ((r.length+[((f,4):ah×Nat)].length)*40<=am)=true:=szb _ _ _ (by omega) (by simp;omega);have R:decide (((r++[((f,4):aO)]).length+[l[i]].length)*40<=am)=true:=szb _ _ _ (by omega) (by simp;omega);have H:decide ((r.length+[l[i]].length)*40<=am)=true:=szb _ _ _ (by omega) (by simp;omega);by_cases u:l[i].1.1=f.1
  ·rw[show (l[i].1.1==f.1)=true by simpa using u,show (l[i].1.1 != f.1)=false by simpa using u,show decide (f.1<=l[i].1.1)=true from decide_eq_true (by omega)];simp only[cond_true,cond_false,GL,Gx,HR,FY];rw[show Q24.f K (f,l[i].1,())=_ from qI K f l[i].1];simp only[FJ];cases decide (bP f l[i].1) with
   |false=>rfl
   |true =>
    simp only[FO,cond_false];cases d with
    |true=>simp only[FO,cond_false,FY]
    |false =>
     simp only[F4,cond_true];rw[y];rfl
  ·rw[show (l[i].1.1==f.1)=false by simpa using u,show (l[i].1.1 != f.1)=true by simpa using u];simp only[cond_true,cond_false,GX];cases d with
   |true =>
    simp only[FO,cond_false,GX,FY,G0];rw[H];rfl
   |false =>
    simp only[F4,cond_true,GL,Gw];cases decide (f.1<=l[i].1.1) with
    |true =>
     simp only[cond_true];rw[y];simp only[cond_true];rw[R];rfl
    |false =>
     simp only[cond_false,FY];rw[H];rfl
 ·intro rec r d J z;simp only[Q26.s0,aS];cases d with
  |true=>simp only[FO,cond_false,cond_true,FY]
  |false =>
   have:=z rfl;have y:decide ((r.length+[((f,4):ah×Nat)].length)*40<=am)=true:=szb _ _ _ (by omega) (by simp;omega);simp only[F4,cond_true,cond_false];rw[y];rfl
theorem yw (K:Nat)(l:List aO)(f:ah)(Z:l.length<=1048576)(O:da l)(hf:bw f)(Y:1048577<K):Q196.f K (l,f,())=some ((dF l f,()),()):=by
 simp only[Q196.f,Q3.f,Q5.f];obtain⟨b1,e1,e2⟩:=pZ K l Z Y;have a0:=e2.2 O;subst a0;obtain⟨b2,e3,e4⟩:=mQ K f;have a1:=e4.2 hf;subst a1;rw[e1];simp only[FJ,FO,cond_false];rw[e3];simp only[FJ,FO,cond_false];rw[dR (by omega)];simp only[FJ];rw[wg K l Z Y];simp only[FJ];have hA:Asc (λg:ah=>g.1) (l.map (·.1)):=by
  have:=O.2;unfold Asc at this ⊢;rw[GD];exact this
 have r:(l.map (·.1)).length=l.length:=F2 _;obtain⟨m,hm,h1⟩:=tY K (l.map (·.1)) f.1 (by rw[r];exact Z) hA Y;rw[h1];simp only[FJ];have y:∀ i (h:i<l.length),(l.map (·.1))[i]'(by rw[r];exact h)=l[i].1:=λi h=>List.getElem_map _
 have J:=hm.le;rw[r]at J;have lo:∀ i,(u:i<l.length)->i<m->l[i].1.1<f.1:=λi u I=>by have:=hm.lo i (by rw[r];exact u) I;rwa [y i u]at this
 have R:∀ i,(u:i<l.length)->m<=i->f.1<=l[i].1.1:=λi u I=>by have:=hm.hi i (by rw[r];exact u) I;rwa [y i u]at this
 by_cases he:∃ h:m<l.length,l[m].1.1=f.1
 ·obtain⟨z,H⟩:=he;rw[decide_eq_true ⟨by rw[r];exact z,by rw[y m z];exact H⟩];simp only[FO,cond_false,af z,FJ,FN];rw[show Q149.f K (f,l[m].1,())=_ from nP K f l[m].1 Y];simp only[FJ];have a3:∀ x∈l,x.1.1=f.1->x=l[m]:=λx M e=>by
   obtain⟨i,u,rfl⟩:=FS M;have:=pW O.2 u z (by show l[i].1.1=l[m].1.1;rw[e,H]);subst this;rfl
  by_cases ho:bP f l[m].1
  ·rw[decide_eq_true ((kh H.symm).2 ho),dF,if_neg (λ⟨x,M,e,hn⟩=>hn (by rw[a3 x M e];exact ho)),gY (k:=λx:aO=>x.1.1) (x:=(f,4)) O.2 z H];rfl
  ·rw[decide_eq_false (λh=>ho ((kh H.symm).1 h)),dF,if_pos ⟨l[m],FM z,H,ho⟩];rfl
 ·have X:∀ x∈l,x.1.1≠f.1:=λx M e=>by
   obtain⟨i,u,rfl⟩:=FS M;rcases Gv i m with h|h|h
   ·have:=lo i u h;omega
   ·subst h;exact he ⟨u,e⟩
   ·have h5:=R m (by omega) (F0 _);have h6:l[m].1.1<l[i].1.1:=ct.1 O.2 m i (by omega) u h;omega
  rw[decide_eq_false (λ⟨z,H⟩=>he ⟨by rw[r]at z;exact z,by rw[y m (by rw[r]at z;exact z)]at H;exact H⟩),dF,if_neg (λ⟨x,M,e,_⟩=>X x M e)];simp only[F4,cond_true];rw[jl J (by omega) Z];simp only[FJ];rw[gu (k:=λx:aO=>x.1.1) (x:=(f,4)) J lo (λi u a2=>by
   have h1:=R i u a2;have z:=X l[i] (FM u);show f.1<l[i].1.1;omega)]
theorem pn {α:Type}{k:α->Int}{x:α}:∀ {r:List α},kH k x true r=r.filter (λy=>k y != k x)
 |[]=>rfl
 |y::r=>by
  simp only[kH,FO,GX,cond_false,G0,FX,F3];rw[pn];cases k y != k x <;> rfl
theorem vC {α:Type}{k:α->Int}{x:α}{xs:List α}:bD k x (xs.filter λy=>!(k y==k x))=bD k x xs:=by
 simp only[bD,List.filter_filter];congr 1
 ·refine HD λy _=>?_
  by_cases h:k y<k x
  ·rw[decide_eq_true h];simp;omega
  ·rw[decide_eq_false h];rfl
 ·congr 1;refine HD λy _=>?_
  by_cases h:k x<k y
  ·rw[decide_eq_true h];simp;omega
  ·rw[decide_eq_false h];rfl
def mkD (r:Int)(f:ah)(b:Int):bV:=(f.1,f.2.1,r,[b])
def cZ (r:Int)(ds:List bV)(f:ah)(b:Int):List bV:=if f.2.2.1=2 then bD (λd=>d.1) (mkD r f b) ds else ds.filter (λd=>!(d.1==f.1))
theorem By (K:Nat)(n:aa)(f:ah)(b:Int)(Y:(aa.doubts n).length<=1048576)(H:Asc (λd:bV=>d.1) (aa.doubts n))(X:1048577<K) :
  Q27.f K (n,f,b,())=some ((cZ n.2.2.2.2.2.1 (aa.doubts n) f b,()),()):=by
 have:=ua (step:=λrec a=>Q27.s0 K (n,f,b,()) rec a) (λd:bV=>d.1) (mkD n.2.2.2.2.2.1 f b) (aa.doubts n) (λ_=>false) none (λM=>some ((M,()),())) (λr d i=>(r,d,(i:Int))) ?_ ?_ (aa.doubts n).length 0 K [] (f.2.2.1 != 2) (by omega) (by omega) (by simp) (by simp)
 ·refine G5 (this:Q27.f K (n,f,b,())=_) ?_;rw[GB,show (aa.doubts n).any (λ_=>false)=false by simp,cZ];by_cases u:f.2.2.1=2
  ·rw[if_pos u,show (f.2.2.1 != 2)=false by simpa using u,lN H];rfl
  ·rw[if_neg u,show (f.2.2.1 != 2)=true by simpa using u,pn];rfl
 ·intro rec r d i J I z;simp only[Q27.s0];rw[bt (by omega:(i:Int)<(FK (aa.doubts n):Int)),af J,ar i (by omega)];simp only[cond_true,cond_false,FJ];have y:decide ((r.length+[mkD n.2.2.2.2.2.1 f b].length)*48<=am)=true:=szb _ _ _ (by omega) (by simp;omega);have O:decide (((r++[mkD n.2.2.2.2.2.1 f b]).length+[(aa.doubts n)[i]].length)*48<=am)=true:=szb _ _ _ (by omega) (by simp;omega);have R:decide ((r.length+[(aa.doubts n)[i]].length)*48<=am)=true:=szb _ _ _ (by omega) (by simp;omega);show (bif !d then (bif decide (f.1<=(aa.doubts n)[i].1) then (bif decide ((r.length+[mkD n.2.2.2.2.2.1 f b].length)*48<=am) then (bif (aa.doubts n)[i].1 != f.1 then (bif decide (((r++[mkD n.2.2.2.2.2.1 f b]).length+[(aa.doubts n)[i]].length)*48<=am) then (rec ((r++[mkD n.2.2.2.2.2.1 f b])++[(aa.doubts n)[i]],true,((i+1:Nat):Int))) else none) else (rec (r++[mkD n.2.2.2.2.2.1 f b],true,((i+1:Nat):Int)))) else none) else (bif (aa.doubts n)[i].1 != f.1 then (bif decide ((r.length+[(aa.doubts n)[i]].length)*48<=am) then (rec (r++[(aa.doubts n)[i]],d,((i+1:Nat):Int))) else none) else (rec (r,d,((i+1:Nat):Int))))) else (bif (aa.doubts n)[i].1 != f.1 then (bif decide ((r.length+[(aa.doubts n)[i]].length)*48<=am) then (rec (r++[(aa.doubts n)[i]],d,((i+1:Nat):Int))) else none) else (rec (r,d,((i+1:Nat):Int)))))=rec ((r++(bif !d&&decide (f.1<=(aa.doubts n)[i].1) then [mkD n.2.2.2.2.2.1 f b] else []))++(bif (aa.doubts n)[i].1 != f.1 then [(aa.doubts n)[i]] else []),d||decide (f.1<=(aa.doubts n)[i].1),((i+1:Nat):Int));rw[y,O,R];cases d <;> cases decide (f.1<=(aa.doubts n)[i].1) <;> cases (aa.doubts n)[i].1 != f.1 <;> simp only[FO,F4,GL,GX,G0,Gw,cond_true,cond_false,FY]
 ·intro rec r d I z;simp only[Q27.s0,aS];cases d with
  |true=>simp only[FO,cond_false,cond_true,FY]
  |false =>
   have:=z rfl;have y:decide ((r.length+[mkD n.2.2.2.2.2.1 f b].length)*48<=am)=true:=szb _ _ _ (by omega) (by simp;omega);show (bif decide ((r.length+[mkD n.2.2.2.2.2.1 f b].length)*48<=am) then some ((r++[mkD n.2.2.2.2.2.1 f b],()),()) else none)=some ((r++[mkD n.2.2.2.2.2.1 f b],()),());rw[y];rfl
theorem Bz (K:Nat)(t:List bV)(r:Int)(ht:t.length<=1048576)(H:Asc (λd:bV=>d.1) t)(h7:∀ d∈t,InP d.1 0 7)(X:InP r 0 7)(hK:1048577<K) :
  ∃ m,m<=t.length/\(∀ i,(h:i<t.length)->i<m->t[i].1<r)/\(∀ i,(h:i<t.length)->m<=i->r<=t[i].1)/\∃ b,Q199.f K (t,r,(λJ=>(Q200.f K (J.1,J.2.1,())).map λy=>y.1.1),())=some ((((m:Nat):Int),b,()),()):=by
 let ks:Nat->Int:=λi=>if h:i<t.length then t[i].1 else 0
 have u:∀ i (h:i<t.length),ks i=t[i].1:=λi h=>by simp[ks,h]
 let z:Nat->Option ((Int×Bool×Unit)×Unit):=λm=>some ((((m:Nat):Int),decide (∃ h:m<t.length,t[m].1=r),()),())
 have Y:∀ d∈t,((Q200.f K (d,r,())).map λy=>y.1.1)=some (d.1-r):=λd hd=>by
  obtain⟨a1,a2⟩:=h7 d hd;obtain⟨a3,a4⟩:=X;simp only[Q200.f];rw[aC (by omega) (by omega)];rfl
 have:=nO (step:=λrec a=>Q199.s0 K (t,r,(λJ=>(Q200.f K (J.1,J.2.1,())).map λy=>y.1.1),()) rec a) (ks:=ks) (n:=t.length) (t:=r) z ht
  (λi j M R=>by
   rw[u i (by omega),u j R];exact ct.1 H i j (by omega) R M) ?_ ?_ t.length K 0 t.length (by omega) (F5 _) (F0 _) (by omega) (λi I=>by omega) (λi I X=>by omega)
 ·obtain⟨m,h1,h2,h3,h4⟩:=this;exact⟨m,h1,λi h I=>by rw[<- u i h];exact h2 i I,λi h I=>by rw[<- u i h];exact h3 i I h,_,h4⟩
 ·intro rec a b a0 hb;have O:(a+b) / 2<t.length:=by omega
  simp only[Q199.s0];rw[decide_eq_true (by omega:(a:Int)<(b:Int)),mj (by omega)];simp only[cond_true];rw[af O];simp only[FJ,Y _ (FM O)];rw[u _ O,ar _ (by omega)];by_cases h:t[(a+b) / 2].1<r
  ·rw[if_pos h,decide_eq_true (by omega:t[(a+b) / 2].1-r<0)];rfl
  ·rw[if_neg h,decide_eq_false (by omega:¬ t[(a+b) / 2].1-r<0)];rfl
 ·intro rec a ha;simp only[Q199.s0];rw[decide_eq_false (by omega)];simp only[cond_false];by_cases h:a<t.length
  ·rw[decide_eq_true (by omega:(a:Int)<(FK t:Int)),af h];simp only[cond_true,FJ,Y _ (FM h)];have:(t[a].1-r==0)=decide (∃ h:a<t.length,t[a].1=r):=by
    rw[GT];simp only[beq_iff_eq,decide_eq_true_eq];exact⟨λe=>⟨h,by omega⟩,λ⟨_,e⟩=>by omega⟩
   rw[this]
  ·rw[decide_eq_false (by omega:¬ (a:Int)<(FK t:Int))];simp only[cond_false,z];rw[decide_eq_false (λ⟨Z,_⟩=>h Z)]
def gG (n:aa)(t:List ah)(c:List aO)(ds:List bV):aa :=
 (n.1,n.2.1,n.2.2.1,n.2.2.2.1,n.2.2.2.2.1,n.2.2.2.2.2.1,n.2.2.2.2.2.2.1,n.2.2.2.2.2.2.2.1,t,c,n.2.2.2.2.2.2.2.2.2.2.1,ds,n.2.2.2.2.2.2.2.2.2.2.2.2)
def kI (n:aa)(f:ah):Bool:=decide (∃ g∈aa.table n,g.1=f.1/\g.2.1=f.2.1/\g.2.2.1=f.2.2.1)
def sayOf (n:aa)(f:ah)(b:Int):aa :=
 bif (bZ (aa.table n) f).2 then gG n (bZ (aa.table n) f).1 (dF (aa.cast n) f) (bif kI n f then aa.doubts n else cZ n.2.2.2.2.2.1 (aa.doubts n) f b) else n
structure cH (n:aa):Prop where
 table:aE (aa.table n)
 cast:da (aa.cast n)
 asc:Asc (λd:bV=>d.1) (aa.doubts n)
 inp:∀ d∈aa.doubts n,InP d.1 0 7
 lt:(aa.table n).length<=1048576
 lc:(aa.cast n).length<=1048576
 ld:(aa.doubts n).length<=1048576
theorem uc {n:aa}{f g:ah}(u:Asc (λg:ah=>g.1) (aa.table n))(r:g∈aa.table n)(e:g.1=f.1):kI n f=(g.2.1==f.2.1&&g.2.2.1==f.2.2.1):=by
 rw[GT,kI,decide_eq_true_eq,GK,beq_iff_eq,beq_iff_eq];constructor
 ·rintro⟨x,hx,h1,h2,h3⟩;have:=iT u hx r (by rw[h1,e]);subst this;exact⟨h2,h3⟩
 ·rintro⟨h1,h2⟩;exact⟨g,r,e,h1,h2⟩
theorem ud {n:aa}{f:ah}(h:∀ g∈aa.table n,g.1≠f.1):kI n f=false :=
 decide_eq_false λ⟨g,r,e,_⟩=>h g r e
theorem qJ (K:Nat)(n:aa)(f:ah)(b:Int)(h:cH n)(r:1048577<K):Q83.f K (n,f,b,())=some ((sayOf n f b,()),()):=by
 simp only[Q83.f,zcp8];rw[show Q25.f K (n.2.2.2.2.2.2.2.2.1,f,())=_ from put_s K (aa.table n) f h.lt h.table.2 r];simp only[FJ];cases I:(bZ (aa.table n) f).2 with
 |false =>
  simp only[sayOf,I];rfl
 |true =>
  simp only[sayOf,I,FO,cond_false,cond_true];obtain⟨o,M,J⟩:=fT K (aa.table n) f.1 h.lt r;rw[show Q23.f K (n.2.2.2.2.2.2.2.2.1,f.1,())=_ from J];simp only[FJ];have z:=By K (n.1,n.2.1,n.2.2.1,n.2.2.2.1,n.2.2.2.2.1,n.2.2.2.2.2.1,n.2.2.2.2.2.2.1,n.2.2.2.2.2.2.2.1,(bZ (aa.table n) f).1,dF (aa.cast n) f,n.2.2.2.2.2.2.2.2.2.2) f b h.ld h.asc r;have y:=Bx K (aa.cast n) f h.lc h.cast.2 r;cases M with
  |at_ i H e =>
   simp only;rw[uc h.table.2 (FM H) e,decide_eq_true (by omega:((i:Nat):Int)>=0)];simp only[cond_true];rw[show idx n.2.2.2.2.2.2.2.2.1 (i:Int)=some (aa.table n)[i] from af H];simp only[FJ];rw[show Q26.f K (n.2.2.2.2.2.2.2.2.2.1,f,())=_ from y];simp only[FJ];rw[z];cases (aa.table n)[i].2.1==f.2.1 with
   |true =>
    cases (aa.table n)[i].2.2.1==f.2.2.1 <;> rfl
   |false=>rfl
  |no u =>
   simp only;rw[ud u,decide_eq_false (by omega:¬ (-1:Int)>=0)];simp only[cond_false];rw[show Q26.f K (n.2.2.2.2.2.2.2.2.2.1,f,())=_ from y];simp only[FJ];rw[z];rfl
theorem mU {α:Type}{k:α->Int}{xs:List α}(h:Asc k xs)(p:α->Bool):Asc k (xs.filter p):=GY p h
theorem BA {R:Type}(K:Nat)(r:Int)(ds:List bV)(f:ah)(b:Int)(G:List bV->Option R)(M:ds.length<=1048576)(hA:Asc (λd:bV=>d.1) ds)(Z:∀ d∈ds,InP d.1 0 7)(hf:bw f)(hK:1048577<K) :
  ((Q6.f K (ds,(λI=>(Q198.f K (I.1,f,())).map λy=>y.1.1),())).bind λJ=>bif f.2.2.1==2 then ((Q199.f K (J.1.1,f.1,(λX=>(Q200.f K (X.1,X.2.1,())).map λy=>y.1.1),())).bind λy7=>(Q7.f K (J.1.1,y7.1.1,[mkD r f b],())).bind λy8=>G y8.1.1) else G J.1.1)=G (cZ r ds f b):=by
 rw[show Q6.f K (ds,(λI=>(Q198.f K (I.1,f,())).map λy=>y.1.1),())=some ((ds.filter (λd=>!(d.1==f.1)),()),()) by
  simp only[Q6.f];exact sr _ M (λd _=>rfl)]
 simp only[FJ,cZ];by_cases z:f.2.2.1=2
 ·rw[if_pos z,show (f.2.2.1==2)=true by simpa using z];simp only[cond_true];have u:(ds.filter (λd=>!(d.1==f.1))).length<=1048576:=GA (GI _ _) M;obtain⟨m,O,lo,hi,b',e⟩:=Bz K (ds.filter (λd=>!(d.1==f.1))) f.1 u (mU hA _) (λd hd=>Z d (FR.1 hd).1) hf.1 hK;rw[e];simp only[FJ];rw[show Q7.f K (ds.filter (λd=>!(d.1==f.1)),(m:Int),[mkD r f b],())=some (((ds.filter (λd=>!(d.1==f.1))).take m++[mkD r f b]++(ds.filter (λd=>!(d.1==f.1))).drop m,()),()) by
   simp only[Q7.f];exact jl O (by omega) u]
  simp only[FJ];have:=gu (k:=λd:bV=>d.1) (x:=mkD r f b) O lo (λi h H=>by
   have h1:=hi i h H;have Y:(!((ds.filter (λd=>!(d.1==f.1)))[i].1==f.1))=true:=(FR.1 (FM h)).2;have h4:(ds.filter (λd=>!(d.1==f.1)))[i].1≠f.1:=by simpa using Y
   show f.1<_;omega)
  rw[this];exact congrArg G (vC (k:=λd:bV=>d.1) (x:=mkD r f b))
 ·rw[if_neg z,show (f.2.2.1==2)=false by simpa using z];rfl
theorem Ba (K:Nat)(n:aa)(f:ah)(b:Int)(h:cH n)(y:bw f)(u:1048577<K):Q201.f K (n,f,b,())=some ((),(sayOf n f b,())):=by
 simp only[Q201.f,zcp8];have X:∃ g:ah,∃ z,Q136.f K (aa.table n,f.1,())=some ((g,z,()),())/\kI n f=(g.2.2.1==f.2.2.1&&g.2.1==f.2.1):=by
  rcases kg K (aa.table n) f.1 h.lt u with ⟨r,_⟩|⟨_,⟨g,R,e,r⟩|⟨M,r⟩⟩
  ·exact absurd h.table r
  ·exact⟨g,_,r,by rw[uc h.table.2 R e,Bool.and_comm]⟩
  ·refine⟨_,_,r,?_⟩;rw[ud M,show ((0:Int)==f.2.2.1)=false by have:=y.2.2.1;simp;omega];rfl
 obtain⟨g,z,r,O⟩:=X;rw[show Q136.f K (n.2.2.2.2.2.2.2.2.1,f.1,())=_ from r];simp only[FJ];rw[show Q195.f K (n.2.2.2.2.2.2.2.2.1,f,())=_ from wZ K (aa.table n) f h.lt h.table.2 u];simp only[FJ];cases I:(bZ (aa.table n) f).2 with
 |false =>
  simp only[sayOf,I];rfl
 |true =>
  simp only[sayOf,I,FO,cond_false,cond_true];rw[show Q196.f K (n.2.2.2.2.2.2.2.2.2.1,f,())=_ from yw K (aa.cast n) f h.lc h.cast y u];simp only[FJ];have H:=BA K n.2.2.2.2.2.1 (aa.doubts n) f b (λJ=>some ((),(gG n (bZ (aa.table n) f).1 (dF (aa.cast n) f) J,()))) h.ld h.asc h.inp y u;rw[O];cases g.2.2.1==f.2.2.1 with
  |true =>
   cases g.2.1==f.2.1 with
   |true=>rfl
   |false=>exact H
  |false=>exact H
theorem jx {α:Type}{k:α->Int}{xs:List α}(h:Asc k xs)(r:∀ x∈xs,InP (k x) 0 7):xs.length<=8:=by
 have:=(jL (xs.map k) [0,1,2,3,4,5,6,7] (by unfold Asc at h;rw[GD];exact h) (by decide) (λy z=>by
  obtain⟨x,u,rfl⟩:=F8.1 z;obtain⟨H,I⟩:=r x u;simp only[Gn,Gm,or_false];omega)).1
 rw[F2]at this;exact this
theorem iF (t:List ah)(f:ah):(bZ t f).1=t\/(bZ t f).1=bD (λg=>g.1) f t:=by
 unfold bZ;split
 ·split
  ·exact .inr rfl
  ·exact .inl rfl
 ·exact .inr rfl
theorem k8 {t:List ah}{f:ah}(h:aE t)(u:bw f):aE (bZ t f).1:=by
 rcases iF t f with e|e
 ·rw[e];exact h
 ·rw[e];refine⟨λg y=>?_,fI h.2⟩;rcases bd.1 y with rfl|⟨r,_⟩
  ·exact u
  ·exact h.1 g r
theorem qK {l:List aO}{f:ah}(h:da l)(u:bw f):da (dF l f):=by
 unfold dF;split
 ·exact h
 ·refine⟨λx y=>?_,fI h.2⟩;rcases bd.1 y with rfl|⟨r,_⟩
  ·exact⟨u,show (1:Int)<=4 by omega,show (4:Int)<=4 by omega⟩
  ·exact h.1 x r
theorem k9 {r:Int}{ds:List bV}{f:ah}{b:Int}{d:bV}(h:d∈cZ r ds f b):d=mkD r f b\/d∈ds:=by
 unfold cZ at h;split at h
 ·rcases bd.1 h with h|h
  ·exact .inl h
  ·exact .inr h.1
 ·exact .inr (FR.1 h).1
theorem ue {r:Int}{ds:List bV}{f:ah}{b:Int}(h:Asc (λd:bV=>d.1) ds):Asc (λd:bV=>d.1) (cZ r ds f b):=by
 unfold cZ;split
 ·exact fI h
 ·exact mU h _
theorem jm (n:aa)(f:ah)(b:Int):∃ t c r,sayOf n f b=gG n t c r/\(t=aa.table n\/t=(bZ (aa.table n) f).1)/\(c=aa.cast n\/c=dF (aa.cast n) f)/\(r=aa.doubts n\/r=cZ n.2.2.2.2.2.1 (aa.doubts n) f b):=by
 unfold sayOf;cases (bZ (aa.table n) f).2 with
 |false=>exact⟨aa.table n,aa.cast n,aa.doubts n,rfl,.inl rfl,.inl rfl,.inl rfl⟩
 |true =>
  cases kI n f with
  |true=>exact⟨_,_,_,rfl,.inr rfl,.inr rfl,.inl rfl⟩
  |false=>exact⟨_,_,_,rfl,.inr rfl,.inr rfl,.inr rfl⟩
theorem cH.mk' {n:aa}(u:aE (aa.table n))(r:da (aa.cast n))(z:Asc (λd:bV=>d.1) (aa.doubts n))(y:∀ d∈aa.doubts n,InP d.1 0 7):cH n where
 table:=u
 cast:=r
 asc:=z
 inp:=y
 lt:=GA (jx u.2 (λg H=>(u.1 g H).1)) (by decide)
 lc:=GA (jx r.2 (λx I=>(r.1 x I).1.1)) (by decide)
 ld:=GA (jx z y) (by decide)
theorem iV {n:aa}{f:ah}{b:Int}(h:cH n)(u:bw f):cH (sayOf n f b):=by
 obtain⟨t,c,y,e,H,I,z⟩:=jm n f b;rw[e];refine cH.mk' ?_ ?_ ?_ ?_
 ·show aE t;rcases H with rfl|rfl
  ·exact h.table
  ·exact k8 h.table u
 ·show da c;rcases I with rfl|rfl
  ·exact h.cast
  ·exact qK h.cast u
 ·show Asc _ y;rcases z with rfl|rfl
  ·exact h.asc
  ·exact ue h.asc
 ·show ∀ d∈y,InP d.1 0 7;rcases z with rfl|rfl
  ·exact h.inp
  ·intro d r;rcases k9 r with rfl|r
   ·exact u.1
   ·exact h.inp d r
theorem Ab {n:aa}{f:ah}{b:Int}(h:∀ d∈aa.doubts n,d.2.2.2.length<=1048576):∀ d∈aa.doubts (sayOf n f b),d.2.2.2.length<=1048576:=by
 obtain⟨t,c,u,e,_,_,y⟩:=jm n f b;rw[e];show ∀ d∈u,_;rcases y with rfl|rfl
 ·exact h
 ·intro d r;rcases k9 r with rfl|r
  ·exact Nat.succ_le_of_lt (by decide)
  ·exact h d r
theorem ET {n:aa}{f:ah}{b:Int}(r:NB n)(h:cH n)(z:bw f):NB (sayOf n f b):=by
 have u:=iV (b:=b) h z;have y:=Ab (f:=f) (b:=b) r.by_;obtain⟨t,c,H,e,_⟩:=jm n f b;refine⟨u.lt,u.lc,u.ld,y,?_,?_,?_,?_⟩
 ·rw[e];exact r.places
 ·rw[e];exact r.trips
 ·rw[e];exact r.others
 ·rw[e];exact r.facts
theorem UpP.say {n:aa}(h:UpP n):cH n:=by
 obtain⟨r,_,_,⟨y,_⟩,_,u,_⟩:=h;refine cH.mk' r y u.2.1 λd z=>?_
 obtain⟨f,H,e,_⟩:=(u.1 d z).1;rw[<- e];exact (r.1 f H).1
theorem rH {α β A R:Type}(t:List α)(p:α->Bool)(g:α->β)(S:List β->Nat->A)(u:List β->Option R){step:(A->Option R)->A->Option R}
  (h:∀ (rec:A->Option R) (r:List β) (i:Nat) (M:i<t.length),r.length<=i->step rec (S r i)=rec (S (bif p t[i] then r++[g t[i]] else r) (i+1)))
  (y:∀ (rec:A->Option R) (r:List β),r.length<=t.length->step rec (S r t.length)=u r) {k:Nat} (I:t.length<k) :
  ae step k (S [] 0)=u ((t.filter p).map g):=by
 have:∀ (d i k:Nat) (r:List β),i+d=t.length->d<k->r.length<=i->ae step k (S r i)=u (r++((t.drop i).filter p).map g):=by
  intro d;induction d with
  |zero =>
   intro i k r M I H;obtain⟨k,rfl⟩:∃ J,k=J+1:=⟨k-1,by omega⟩;have:i=t.length:=by omega
   subst this;show step (ae step k) _=_;rw[y _ _ H];simp
  |succ d O =>
   intro i k r M I H;obtain⟨k,rfl⟩:∃ J,k=J+1:=⟨k-1,by omega⟩;have z:i<t.length:=by omega
   show step (ae step k) _=_;rw[h _ _ _ z H,FU z,F3];cases p t[i] with
   |true =>
    simp only[cond_true,if_true,G8];rw[O (i+1) k _ (by omega) (by omega) (by simp;omega),Gc];rfl
   |false =>
    simp only[cond_false];rw[O (i+1) k _ (by omega) (by omega) (by omega)];rfl
 have:=this t.length 0 k [] (by omega) I (F0 _)
 rwa [GB,FX]at this
def mV:aa:=(0,false,false,false,0,0,0,0,[],[],(0,0,0,false),[],(0,0,0,0),[],[])
theorem vD:NB mV where
 table:=F5 _
 cast:=F5 _
 doubts:=F5 _
 by_:=λd r=>absurd r Gm
 places:=F5 _
 trips:=λd r=>absurd r Gm
 others:=F5 _
 facts:=λd r=>absurd r Gm
theorem szw (a b c:Nat)(r:c<=128)(h:a+b<=2097152):decide ((a+b)*c<=am)=true:=by
 have:=Ge h r;exact decide_eq_true (by unfold am;omega)
def lv (n:aa):aa:=(n.1,n.2.1,true,n.2.2.2)
def oY (r:Int)(n:aa)(to:Int):aj:=(1,r,n.1,to,0,n.1,aa.coord n,aa.table n)
theorem BB (K:Nat)(n:aa)(r to:Int)(u:(aa.table n).length<=1048576):Q194.f K (n,r,to,())=some ((oY r n to,()),()):=by
 simp only[Q194.f,zcp4,Q193.f,FJ,Q1.f];rw[dR (by show (aa.table n).length*_<=_;omega)];rfl
theorem oZ (K:Nat)(n:aa)(r to:Int)(u:(aa.table n).length<=1048576):Q22.f K (n,r,to,0,n.1,aa.table n,())=some ((oY r n to,()),()):=by
 simp only[Q22.f];rw[szb _ _ _ (by omega) (by show (FK ([]:List ah))+(aa.table n).length<=_;simp;omega)];rfl
def eZ (f:ah):Bool:=f.2.2.1==1||f.2.2.1==2
theorem wj (K:Nat)(t:List ah)(f:ah)(H:aE t)(J:t.length<=1048576)(r:f∈t)(z:1048577<K):Q86.f K (t,f.1,())=rb (eZ f):=by
 simp only[Q86.f];obtain⟨o,I,y⟩:=fT K t f.1 J z;rw[y];simp only[FJ];cases I with
 |at_ i u e =>
  simp only;rw[decide_eq_true (by omega:((i:Nat):Int)>=0),af u];simp only[cond_true,FJ];rw[iT H.2 (FM u) r e,eZ];cases f.2.2.1==1 <;> rfl
 |no h=>exact absurd rfl (h f r)
theorem EU (K:Nat)(n:aa)(f:ah)(u:aE (aa.table n))(M:(aa.table n).length<=1048576)(y:f∈aa.table n)(I:1048577<K):Q204.f K (n,f.1,())=rb (eZ f):=by
 simp only[Q204.f,Q203.f];have O:Q136.f K (aa.table n,f.1,())=some ((f,true,()),()):=by
  rcases kg K (aa.table n) f.1 M I with ⟨r,_⟩|⟨_,⟨g,J,e,r⟩|⟨z,r⟩⟩
  ·exact absurd u r
  ·rw[iT u.2 J y e]at r;exact r
  ·exact absurd rfl (z f y)
 rw[show Q136.f K (n.2.2.2.2.2.2.2.2.1,f.1,())=_ from O];simp only[FJ];obtain⟨b,r,H⟩:=eY K f.2.2.1 1 2;rw[r];have:b=eZ f:=by
  rw[GT,H,eZ,Bool.or_eq_true,beq_iff_eq,beq_iff_eq];show (1<=f.2.2.1/\f.2.2.1<=2)<->_;omega
 rw[this];rfl
def uf (n:aa)(f:ah):Bool:=f.1 != n.1&&eZ f
def mp (n:aa):List aj:=((aa.table n).filter (uf n)).map λf=>oY 5 n f.1
def nT (n:aa):aa:=lv (sayOf n (n.1,n.2.2.2.2.1,4,n.2.2.2.1) n.1)
theorem ug (K:Nat)(x:ab Q99.ps)(m:aa)(H:aE (aa.table m))(y:(aa.table m).length<=1048576)(z:1048577<K) :
  Q99.l0 K x ([],0,m.1,m.2.1,m.2.2.2.1,m.2.2.2.2.1,m.2.2.2.2.2.1,m.2.2.2.2.2.2.1,m.2.2.2.2.2.2.2.1,m.2.2.2.2.2.2.2.2.1,m.2.2.2.2.2.2.2.2.2.1,m.2.2.2.2.2.2.2.2.2.2.1.1,m.2.2.2.2.2.2.2.2.2.2.1.2.1,m.2.2.2.2.2.2.2.2.2.2.1.2.2.1,m.2.2.2.2.2.2.2.2.2.2.1.2.2.2,m.2.2.2.2.2.2.2.2.2.2.2.1,m.2.2.2.2.2.2.2.2.2.2.2.2.1.1,m.2.2.2.2.2.2.2.2.2.2.2.2.1.2.1,m.2.2.2.2.2.2.2.2.2.2.2.2.1.2.2.1,m.2.2.2.2.2.2.2.2.2.2.2.2.1.2.2.2,m.2.2.2.2.2.2.2.2.2.2.2.2.2.1,m.2.2.2.2.2.2.2.2.2.2.2.2.2.2)=some ((lv m,mp (lv m),()),()):=by
 refine rH (step:=λrec a=>Q99.s0 K x rec a) (aa.table m) (uf (lv m)) (λf=>oY 5 (lv m) f.1) (λr i=>(r,(i:Int),m.1,m.2.1,m.2.2.2.1,m.2.2.2.2.1,m.2.2.2.2.2.1,m.2.2.2.2.2.2.1,m.2.2.2.2.2.2.2.1,m.2.2.2.2.2.2.2.2.1,m.2.2.2.2.2.2.2.2.2.1,m.2.2.2.2.2.2.2.2.2.2.1.1,m.2.2.2.2.2.2.2.2.2.2.1.2.1,m.2.2.2.2.2.2.2.2.2.2.1.2.2.1,m.2.2.2.2.2.2.2.2.2.2.1.2.2.2,m.2.2.2.2.2.2.2.2.2.2.2.1,m.2.2.2.2.2.2.2.2.2.2.2.2.1.1,m.2.2.2.2.2.2.2.2.2.2.2.2.1.2.1,m.2.2.2.2.2.2.2.2.2.2.2.2.1.2.2.1,m.2.2.2.2.2.2.2.2.2.2.2.2.1.2.2.2,m.2.2.2.2.2.2.2.2.2.2.2.2.2.1,m.2.2.2.2.2.2.2.2.2.2.2.2.2.2)) (λJ=>some ((lv m,J,()),())) ?_ ?_ (by omega)
 ·intro rec r i u I;simp only[Q99.s0,zceae5f];rw[show decide ((i:Int)<(FK m.2.2.2.2.2.2.2.2.1:Int))=true from bt (by omega:(i:Int)<(FK (aa.table m):Int)),show idx m.2.2.2.2.2.2.2.2.1 (i:Int)=some (aa.table m)[i] from af u,ar i (by omega)];simp only[cond_true,FJ,uf];rw[show (lv m).1=m.1 from rfl];cases M:(aa.table m)[i].1 != m.1 with
  |false=>rfl
  |true =>
   simp only[cond_true,GL];rw[show Q86.f K (m.2.2.2.2.2.2.2.2.1,(aa.table m)[i].1,())=_ from wj K (aa.table m) _ H y (FM u) z];simp only[FJ];cases eZ (aa.table m)[i] with
   |false=>rfl
   |true =>
    simp only[cond_true];refine (congrArg (λo=>FQ o _) (oZ K (lv m) 5 (aa.table m)[i].1 y)).trans ?_;simp only[FJ];rw[szw _ _ _ (by omega) (by simp;omega)];rfl
 ·intro rec r I;simp only[Q99.s0,zceae5f];rw[show decide ((FK (aa.table m):Int)<(FK m.2.2.2.2.2.2.2.2.1:Int))=false from aS _];rfl
theorem EP (K:Nat)(x:ab Q206.ps)(m:aa)(r:List Int)(H:r.length<=1048576)(I:(aa.table m).length<=1048576)(M:1048577<K) :
  Q206.l0 K x ([],r,(FK r:Int),0,m.1,m.2.1,m.2.2.2.1,m.2.2.2.2.1,m.2.2.2.2.2.1,m.2.2.2.2.2.2.1,m.2.2.2.2.2.2.2.1,m.2.2.2.2.2.2.2.2.1,m.2.2.2.2.2.2.2.2.2.1,m.2.2.2.2.2.2.2.2.2.2.1.1,m.2.2.2.2.2.2.2.2.2.2.1.2.1,m.2.2.2.2.2.2.2.2.2.2.1.2.2.1,m.2.2.2.2.2.2.2.2.2.2.1.2.2.2,m.2.2.2.2.2.2.2.2.2.2.2.1,m.2.2.2.2.2.2.2.2.2.2.2.2.1.1,m.2.2.2.2.2.2.2.2.2.2.2.2.1.2.1,m.2.2.2.2.2.2.2.2.2.2.2.2.1.2.2.1,m.2.2.2.2.2.2.2.2.2.2.2.2.1.2.2.2,m.2.2.2.2.2.2.2.2.2.2.2.2.2.1,m.2.2.2.2.2.2.2.2.2.2.2.2.2.2)=some ((r.map λto=>oY 5 (lv m) to,()),(lv m,())):=by
 refine G5 (rH (step:=λrec a=>Q206.s0 K x rec a) r (λ_=>true) (λto=>oY 5 (lv m) to) (λu i=>(u,r,(FK r:Int),(i:Int),m.1,m.2.1,m.2.2.2.1,m.2.2.2.2.1,m.2.2.2.2.2.1,m.2.2.2.2.2.2.1,m.2.2.2.2.2.2.2.1,m.2.2.2.2.2.2.2.2.1,m.2.2.2.2.2.2.2.2.2.1,m.2.2.2.2.2.2.2.2.2.2.1.1,m.2.2.2.2.2.2.2.2.2.2.1.2.1,m.2.2.2.2.2.2.2.2.2.2.1.2.2.1,m.2.2.2.2.2.2.2.2.2.2.1.2.2.2,m.2.2.2.2.2.2.2.2.2.2.2.1,m.2.2.2.2.2.2.2.2.2.2.2.2.1.1,m.2.2.2.2.2.2.2.2.2.2.2.2.1.2.1,m.2.2.2.2.2.2.2.2.2.2.2.2.1.2.2.1,m.2.2.2.2.2.2.2.2.2.2.2.2.1.2.2.2,m.2.2.2.2.2.2.2.2.2.2.2.2.2.1,m.2.2.2.2.2.2.2.2.2.2.2.2.2.2)) (λJ=>some ((J,()),(lv m,()))) ?_ ?_ (by omega)) (by rw[F1.2 (λ_ _=>rfl)])
 ·intro rec u i y z;simp only[Q206.s0,zceae5f];rw[bt (by omega:(i:Int)<(FK r:Int)),af y,ar i (by omega),FN,af y];simp only[cond_true,FJ];refine (congrArg (λo=>FQ o _) (BB K (lv m) 5 r[i] I)).trans ?_;simp only[FJ];rw[szw _ _ _ (by omega) (by simp;omega)];rfl
 ·intro rec u z;simp only[Q206.s0,zceae5f,aS];rfl
theorem w8 {n:aa}(r:ff n):bw (n.1,n.2.2.2.2.1,4,n.2.2.2.1):=⟨r.1,r.2.2.2.2.1,show (1:Int)<=4 by omega,show (4:Int)<=4 by omega⟩
theorem BC (K:Nat)(n:aa)(J:NB n)(y:ff n)(H:n.2.1=true)(I:n.2.2.1=false)(u:1048577<K):Q99.f K (n,())=some ((nT n,mp (nT n),()),()):=by
 have z:=(y.up H).say;have r:=iV (b:=n.1) z (w8 y);simp only[Q99.f,Q99.pre,zc8f7ea];rw[H,I];simp only[FO,cond_false];rw[qJ K n _ n.1 z u];exact ug K _ _ r.table r.lt u
theorem EV (K:Nat)(n:aa)(X:NB n)(z:ff n)(I:n.2.1=true)(M:n.2.2.1=false)(u:1048577<K):Q206.f K (n,())=some ((mp (nT n),()),(nT n,())):=by
 have H:=(z.up I).say;have r:=iV (b:=n.1) H (w8 z);simp only[Q206.f,Q206.pre,zc8f7ea,Q165.f];rw[I,M];simp only[cond_true,FJ,F4,FO,cond_false];rw[Ba K n _ n.1 H (w8 z) u];simp only[FJ];rw[show (n.1,n.2.2.2.2.1,(4:Int),n.2.2.2.1)=((n.1,n.2.2.2.2.1,4,n.2.2.2.1):ah) from rfl];generalize O:sayOf n (n.1,n.2.2.2.2.1,4,n.2.2.2.1) n.1=m at r ⊢;have hφ:∀ f∈aa.table m,((Q205.f K (f,lv m,())).map λy=>y.1.1)=some (uf (lv m) f):=by
  intro f J;simp only[Q205.f,uf];cases f.1 != (lv m).1 with
  |false=>rfl
  |true =>
   simp only[cond_true,GL];rw[EU K (lv m) f r.table r.lt J u];rfl
 refine (congrArg (λo=>FQ o _) (D8 K (aa.table m) (λR=>(Q205.f K (R.1,lv m,())).map λy=>y.1.1) (uf (lv m)) r.lt u hφ)).trans ?_;simp only[FJ];refine (EP K _ m (((aa.table m).filter (uf (lv m))).map (·.1)) (by rw[F2];exact GA (GI _ _) r.lt) r.lt u).trans ?_;rw[List.map_map];show _=some ((mp (lv (sayOf n (n.1,n.2.2.2.2.1,4,n.2.2.2.1) n.1)),()),(lv (sayOf n (n.1,n.2.2.2.2.1,4,n.2.2.2.1) n.1),()));rw[O];rfl
theorem EM (K:Nat)(n y:aa)(u:List aj)(I:NB n)(r:Q163.f K (n,())=rb true)(H:Q206.f K (n,())=some ((u,()),(y,())))(z:1048577<K):Q208.f K (n,())=some ((y,u,()),()):=by
 simp only[Q208.f,Q207.f];rw[r];simp only[FJ,FO,cond_false];rw[Aa K n I z];simp only[FJ];rw[H];simp only[FJ,Q169.f];simp
theorem EO (K:Nat)(n:aa)(H:NB n)(I:1048577<K):∃ y:aa,∃ X:List aj,NB y/\X.length<=1048576/\(∀ w∈X,(aj.table w).length<=1048576)/\Q209.f K (n,())=some ((y,X,()),())/\Q208.f K (n,())=some ((y,X,()),()):=by
 obtain⟨b,Y,Z,h3⟩:=pm K n H I;cases b with
 |false =>
  refine⟨mV,[],vD,by simp,by simp,?_,?_⟩
  ·simp only[Q209.f];rw[Y];rfl
  ·simp only[Q208.f,Q207.f];rw[Z];rfl
 |true =>
  have O:=h3.1 rfl;have u:=nS K n H I;have M:n.2.1=false\/n.2.2.1=true->Q99.f K (n,())=some ((n,[],()),())/\Q206.f K (n,())=some (([],()),(n,())):=by
   intro h;simp only[Q99.f,Q99.pre,zc8f7ea,Q206.f,Q206.pre,zc8f7ea,Q165.f];cases J:n.2.1 with
   |false=>exact⟨rfl,rfl⟩
   |true =>
    have R:n.2.2.1=true:=by
     rcases h with h|h
     ·rw[J]at h;cases h
     ·exact h
    rw[R];exact⟨rfl,rfl⟩
  by_cases h:n.2.1=false\/n.2.2.1=true
  ·obtain⟨hs,hi⟩:=M h;refine⟨n,[],H,by simp,by simp,?_,EM K n n [] H Z hi I⟩;simp only[Q209.f];rw[Y];simp only[FJ,FO,cond_false];rw[u];simp only[FJ];rw[hs];simp only[FJ];rw[u];rfl
  ·have J:n.2.1=true:=by cases hh:n.2.1 with|true=>rfl|false=>exact absurd (.inl hh) h
   have R:n.2.2.1=false:=by cases hh:n.2.2.1 with|false=>rfl|true=>exact absurd (.inr hh) h
   have hs:=(O.up J).say;have r:=ET (b:=n.1) H hs (w8 O);have z:NB (nT n):=⟨r.table,r.cast,r.doubts,r.by_,r.places,r.trips,r.others,r.facts⟩;refine⟨nT n,mp (nT n),z,?_,?_,?_,EM K n _ _ H Z (EV K n H O J R I) I⟩
   ·unfold mp;rw[F2];exact GA (GI _ _) z.table
   ·intro w hw;obtain⟨f,_,rfl⟩:=F8.1 hw;exact z.table
   ·simp only[Q209.f];rw[Y];simp only[FJ,FO,cond_false];rw[u];simp only[FJ];rw[BC K n H O J R I];simp only[FJ];rw[nS K (nT n) z I];rfl
theorem lw {α r A R:Type}(ds:List α)(st:r->α->r)(Inv:r->Prop)(S:r->Nat->A)(u:r->Option R){step:(A->Option R)->A->Option R}(n:r)(O:Inv n)
  (h:∀ (rec:A->Option R) (m:r) (i:Nat) (M:i<ds.length),Inv m->step rec (S m i)=rec (S (st m ds[i]) (i+1))/\Inv (st m ds[i]))
  (y:∀ (rec:A->Option R) (m:r),Inv m->step rec (S m ds.length)=u m) {k:Nat} (H:ds.length<k):ae step k (S n 0)=u (ds.foldl st n):=by
 have:∀ (d i k:Nat) (m:r),i+d=ds.length->d<k->Inv m->ae step k (S m i)=u ((ds.drop i).foldl st m):=by
  intro d;induction d with
  |zero =>
   intro i k m M H I;obtain⟨k,rfl⟩:∃ J,k=J+1:=⟨k-1,by omega⟩;have:i=ds.length:=by omega
   subst this;show step (ae step k) _=_;rw[y _ _ I,Gl];rfl
  |succ d Z =>
   intro i k m M H I;obtain⟨k,rfl⟩:∃ J,k=J+1:=⟨k-1,by omega⟩;have z:i<ds.length:=by omega
   show step (ae step k) _=_;obtain⟨X,Y⟩:=h (ae step k) m i z I;rw[X,FU z];exact Z (i+1) k _ (by omega) (by omega) Y
 have:=this ds.length 0 k n (by omega) H O
 rwa [GB]at this
theorem mW {α r:Type}{st:r->α->r}{Inv:r->Prop}:∀ {ds:List α} {n:r},Inv n->(∀ m,∀ d∈ds,Inv m->Inv (st m d))->Inv (ds.foldl st n)
 |[],_,h,_=>h
 |d::ds,n,h,y=>mW (ds:=ds) (y n d (by simp) h) (λm z u=>y m z (by simp[u]))
def aT (t:List ah)(r:Int):ah:=(t.find? λg=>g.1==r).getD (0,0,0,false)
theorem ki {t:List ah}(r:Asc (λg:ah=>g.1) t){f:ah}(u:f∈t):aT t f.1=f:=by
 obtain⟨i,y,e⟩:=FS u;unfold aT;rw[show t.find? (λg=>g.1==f.1)=some t[i] from mR r y (by rw[e]),e];rfl
theorem kj {t:List ah}{r:Int}(h:∀ g∈t,g.1≠r):aT t r=(0,0,0,false):=by
 unfold aT;rw[show t.find? (λg=>g.1==r)=none from mo h];rfl
theorem uh (K:Nat)(t:List ah)(r:Int)(z:aE t)(I:t.length<=1048576)(y:1048577<K):Q86.f K (t,r,())=rb (eZ (aT t r)):=by
 by_cases h:∃ f∈t,f.1=r
 ·obtain⟨f,H,rfl⟩:=h;rw[wj K t f z I H y,ki z.2 H]
 ·have u:∀ g∈t,g.1≠r:=λg M e=>h ⟨g,M,e⟩
  simp only[Q86.f];obtain⟨o,R,J⟩:=fT K t r I y;rw[J,kj u];cases R with
  |at_ i O e=>exact absurd e (u _ (FM O))
  |no _=>rfl
theorem jy (n:aa)(f:ah)(b:Int):(sayOf n f b).1=n.1/\(sayOf n f b).2.1=n.2.1/\(sayOf n f b).2.2.1=n.2.2.1/\(sayOf n f b).2.2.2.1=n.2.2.2.1/\(sayOf n f b).2.2.2.2.1=n.2.2.2.2.1/\(sayOf n f b).2.2.2.2.2.1=n.2.2.2.2.2.1/\(sayOf n f b).2.2.2.2.2.2.1=n.2.2.2.2.2.2.1/\(sayOf n f b).2.2.2.2.2.2.2.1=n.2.2.2.2.2.2.2.1/\aa.probe (sayOf n f b)=aa.probe n/\(sayOf n f b).2.2.2.2.2.2.2.2.2.2.2.2=n.2.2.2.2.2.2.2.2.2.2.2.2:=by
 obtain⟨t,c,r,e,_⟩:=jm n f b;rw[e];exact⟨rfl,rfl,rfl,rfl,rfl,rfl,rfl,rfl,rfl,rfl⟩
theorem nV {t:List ah}{f g:ah}(r:g∈t):∃ u∈(bZ t f).1,u.1=g.1:=by
 rcases iF t f with e|e
 ·rw[e];exact⟨g,r,rfl⟩
 ·rw[e];by_cases h:g.1=f.1
  ·exact⟨f,bd.2 (.inl rfl),h.symm⟩
  ·exact⟨g,bd.2 (.inr ⟨r,h⟩),rfl⟩
theorem kk {n:aa}{f:ah}{b:Int}{g:ah}(r:g∈aa.table n):∃ u∈aa.table (sayOf n f b),u.1=g.1:=by
 obtain⟨t,c,z,e,y,_⟩:=jm n f b;rw[e];rcases y with rfl|rfl
 ·exact⟨g,r,rfl⟩
 ·exact nV r
def rI (u r:Int)(len:Nat):Bool:=decide (u-r>=if 6-(len:Int)+1<3 then 3 else 6-(len:Int)+1)
def lx (f:ah):ah:=(f.1,f.2.1,3,f.2.2.2)
def iW (n:aa)(d:bV):aa:=bif rI n.2.2.2.2.2.1 d.2.2.1 d.2.2.2.length then sayOf n (lx (aT (aa.table n) d.1)) n.1 else n
def la (n:aa):aa:=(aa.doubts n).foldl iW n
theorem due_s (K:Nat)(r:Int)(d:bV)(u:0<=d.2.2.1)(y:d.2.2.1<=r)(z:r<=1000000)(H:d.2.2.2.length<=1048576):Q84.f K (r,d,())=rb (rI r d.2.2.1 d.2.2.2.length):=by
 simp only[Q84.f];rw[aC (n:=6-(FK d.2.2.2:Int)) (by omega) (by omega),aC (n:=6-(FK d.2.2.2:Int)+1) (by omega) (by omega),aC (n:=r-d.2.2.1) (by omega) (by omega)];unfold rI;by_cases h:6-(FK d.2.2.2:Int)+1<3
 ·rw[decide_eq_true h,if_pos h];rfl
 ·rw[decide_eq_false h,if_neg h];rfl
structure qL (ds:List bV) (now:Int) (n:aa):Prop where
 ok:cH n
 key:∀ d∈ds,∃ f∈aa.table n,f.1=d.1
 now_:n.2.2.2.2.2.1=now
theorem wk {f:ah}(h:bw f):bw (lx f):=⟨h.1,h.2.1,show (1:Int)<=3 by omega,show (3:Int)<=4 by omega⟩
theorem eP {t:List ah}{r:Int}(y:aE t)(h:∃ f∈t,f.1=r):bw (aT t r)/\(aT t r).1=r/\aT t r∈t:=by
 obtain⟨f,u,rfl⟩:=h;rw[ki y.2 u];exact⟨y.1 f u,rfl,u⟩
theorem vE {ds:List bV}{r:Int}{n:aa}{d:bV}(h:qL ds r n)(J:d∈ds):qL ds r (iW n d):=by
 unfold iW;cases rI n.2.2.2.2.2.1 d.2.2.1 d.2.2.2.length with
 |false=>exact h
 |true =>
  have M:=wk (eP h.ok.table (h.key d J)).1;refine⟨iV h.ok M,λz u=>?_,(jy n _ _).2.2.2.2.2.1.trans h.now_⟩;obtain⟨g,O,e⟩:=h.key z u;obtain⟨I,y,H⟩:=kk (f:=lx (aT (aa.table n) d.1)) (b:=n.1) O;exact⟨I,y,H.trans e⟩
theorem Ct (K:Nat)(n:aa)(h:qL (aa.doubts n) n.2.2.2.2.2.1 n)(Y:∀ d∈aa.doubts n,0<=d.2.2.1/\d.2.2.1<=n.2.2.2.2.2.1/\d.2.2.2.length<=1048576)(z:n.2.2.2.2.2.1<=1000000)(O:1048577<K):Q85.f K (n,())=some ((la n,()),()):=by
 have hl:=h.ok.ld;refine lw (step:=λrec a=>Q85.s0 K (n,()) rec a) (aa.doubts n) iW (qL (aa.doubts n) n.2.2.2.2.2.1) (λm i=>((i:Int),m.1,m.2.1,m.2.2.1,m.2.2.2.1,m.2.2.2.2.1,m.2.2.2.2.2.1,m.2.2.2.2.2.2.1,m.2.2.2.2.2.2.2.1,m.2.2.2.2.2.2.2.2.1,m.2.2.2.2.2.2.2.2.2.1,m.2.2.2.2.2.2.2.2.2.2.1.1,m.2.2.2.2.2.2.2.2.2.2.1.2.1,m.2.2.2.2.2.2.2.2.2.2.1.2.2.1,m.2.2.2.2.2.2.2.2.2.2.1.2.2.2,m.2.2.2.2.2.2.2.2.2.2.2.1,m.2.2.2.2.2.2.2.2.2.2.2.2.1.1,m.2.2.2.2.2.2.2.2.2.2.2.2.1.2.1,m.2.2.2.2.2.2.2.2.2.2.2.2.1.2.2.1,m.2.2.2.2.2.2.2.2.2.2.2.2.1.2.2.2,m.2.2.2.2.2.2.2.2.2.2.2.2.2.1,m.2.2.2.2.2.2.2.2.2.2.2.2.2.2)) (λm=>some ((m,()),())) n h ?_ ?_ (by omega)
 ·intro rec m i H u;refine⟨?_,vE u (FM H)⟩;simp only[Q85.s0,zc286a0,zc3ec45];obtain⟨I,J,M⟩:=Y _ (FM H);rw[show decide ((i:Int)<(FK n.2.2.2.2.2.2.2.2.2.2.2.1:Int))=true from bt (by omega:(i:Int)<(FK (aa.doubts n):Int)),show idx n.2.2.2.2.2.2.2.2.2.2.2.1 (i:Int)=some (aa.doubts n)[i] from af H,ar i (by omega)];simp only[cond_true,FJ];rw[due_s K m.2.2.2.2.2.1 (aa.doubts n)[i] I (by rw[u.now_];exact J) (by rw[u.now_];exact z) M];simp only[FJ];have r:=u.key _ (FM H);generalize (aa.doubts n)[i]=d at r I J M ⊢;unfold iW;cases rI m.2.2.2.2.2.1 d.2.2.1 d.2.2.2.length with
  |false=>rfl
  |true =>
   simp only[cond_true];have y:=eP u.ok.table r;obtain⟨o,ho,X⟩:=fT K (aa.table m) d.1 u.ok.lt O;rw[show Q23.f K (m.2.2.2.2.2.2.2.2.1,d.1,())=_ from X];simp only[FJ];cases ho with
   |no h=>exact absurd r (λ⟨f,Z,e⟩=>h f Z e)
   |at_ j R e =>
    simp only;rw[show idx m.2.2.2.2.2.2.2.2.1 ((j:Nat):Int)=some (aa.table m)[j] from af R,iT u.ok.table.2 (FM R) y.2.2 (by rw[e,y.2.1])];simp only[FJ];refine (congrArg (λo=>FQ o _) (qJ K m (lx (aT (aa.table m) d.1)) m.1 u.ok O)).trans ?_;rfl
 ·intro rec m u;simp only[Q85.s0,zc286a0,zc3ec45];rw[show decide ((FK (aa.doubts n):Int)<(FK n.2.2.2.2.2.2.2.2.2.2.2.1:Int))=false from aS _];rfl
def setP (n:aa)(p:ah):aa:=(n.1,n.2.1,n.2.2.1,n.2.2.2.1,n.2.2.2.2.1,n.2.2.2.2.2.1,n.2.2.2.2.2.2.1,n.2.2.2.2.2.2.2.1,n.2.2.2.2.2.2.2.2.1,n.2.2.2.2.2.2.2.2.2.1,p,n.2.2.2.2.2.2.2.2.2.2.2)
def noP:ah:=(-1,0,0,false)
def qM (f:ah):ah:=(f.1,f.2.1,2,f.2.2.2)
def xa (n:aa)(f:ah):Bool:=f.2.2.1==1&&f.1 != n.1&&f.1 != (aa.probe n).1
def gi (n:aa):List Int:=(((aa.table n).filter (xa n)).map (·.1)).take 2
def askW (n:aa)(to:Int):aj:=(1,3,n.1,to,(aa.probe n).2.2.1,(aa.probe n).1,aa.coord n,[])
def mq (n:aa):aa:=setP n ((aa.probe n).1,(aa.probe n).2.1,(aa.probe n).2.2.1,true)
def dA (n:aa):aa×List aj :=
 bif (aa.probe n).1==-1 then (n,[]) else
 bif !eZ (aT (aa.table n) (aa.probe n).1) then (setP n noP,[]) else
 bif decide (n.2.2.2.2.2.1-(aa.probe n).2.1>=4) then (bif (aT (aa.table n) (aa.probe n).1).2.2.1==1 then sayOf (setP n noP) (qM (aT (aa.table n) (aa.probe n).1)) n.1 else setP n noP,[]) else
 bif decide (n.2.2.2.2.2.1-(aa.probe n).2.1>=2) then (bif !(aa.probe n).2.2.2 then (mq n,(gi n).map (askW n)) else (n,[])) else (n,[])
theorem cH.setP {n:aa}(h:cH n)(p:ah):cH (setP n p):=⟨h.table,h.cast,h.asc,h.inp,h.lt,h.lc,h.ld⟩
theorem BD {f:ah}(h:bw f):bw (qM f):=⟨h.1,h.2.1,show (1:Int)<=2 by omega,show (2:Int)<=4 by omega⟩
theorem iG {t:List ah}{r:Int}(h:eZ (aT t r)=true):∃ f∈t,f.1=r:=by
 by_cases u:∃ f∈t,f.1=r
 ·exact u
 ·rw[kj (λg y e=>u ⟨g,y,e⟩)]at h;simp[eZ]at h
theorem yx (K:Nat)(n:aa)(J:(aa.table n).length<=1048576)(I:1048577<K):Q87.f K (n,())=some ((gi n,()),()):=by
 have:=lM (step:=λrec a=>Q87.s0 K (n,()) rec a) (aa.table n) (xa n) (λf=>f.1) 2 (λH=>some ((H,()),())) ?_ ?_ ?_ (aa.table n).length 0 K [] (by omega) (by omega) (F0 _) (by simp)
 ·exact this
 ·intro rec r i u y z;simp only[Q87.s0];rw[show decide ((i:Int)<(FK n.2.2.2.2.2.2.2.2.1:Int))=true from bt (by omega:(i:Int)<(FK (aa.table n):Int)),show idx n.2.2.2.2.2.2.2.2.1 (i:Int)=some (aa.table n)[i] from af u,ar i (by omega),decide_eq_true (by omega:(FK r:Int)<2)];simp only[cond_true,FJ,xa];show (bif (aa.table n)[i].1 != n.1 then (bif (aa.table n)[i].1 != (aa.probe n).1 then (bif (aa.table n)[i].2.2.1==1 then (bif decide ((FK r+FK ([(aa.table n)[i].1]))*8<=am) then (rec (r++([(aa.table n)[i].1]),((i+1:Nat):Int))) else none) else (rec (r,((i+1:Nat):Int)))) else (rec (r,((i+1:Nat):Int)))) else (rec (r,((i+1:Nat):Int))))=_;rw[szb _ _ _ (by omega) (by simp;omega)];cases (aa.table n)[i].1 != n.1 <;> cases (aa.table n)[i].1 != (aa.probe n).1 <;> cases (aa.table n)[i].2.2.1==1 <;> rfl
 ·intro rec r i u y z;simp only[Q87.s0];rw[show decide ((i:Int)<(FK n.2.2.2.2.2.2.2.2.1:Int))=true from bt (by omega:(i:Int)<(FK (aa.table n):Int)),decide_eq_false (by omega:¬ (FK r:Int)<2)];rfl
 ·intro rec r _;simp only[Q87.s0];rw[show decide ((FK (aa.table n):Int)<(FK n.2.2.2.2.2.2.2.2.1:Int))=false from aS _];rfl
theorem Cu (K:Nat)(n:aa)(h:cH n)(hp:(aa.probe n).1≠-1)(h0:0<=(aa.probe n).2.1)(h1:(aa.probe n).2.1<=1000000)(Y:0<=n.2.2.2.2.2.1)(Z:n.2.2.2.2.2.1<=1000000)(u:1048577<K) :
  Q88.f K (n,())=some (((dA n).1,(dA n).2,()),()):=by
 simp only[Q88.f,Q88.pre,zcp8,dA];rw[show ((aa.probe n).1==-1)=false by simpa using hp];simp only[cond_false];rw[show Q86.f K (n.2.2.2.2.2.2.2.2.1,n.2.2.2.2.2.2.2.2.2.2.1.1,())=_ from uh K (aa.table n) (aa.probe n).1 h.table h.lt u];simp only[FJ];cases M:eZ (aT (aa.table n) (aa.probe n).1) with
 |false=>rfl
 |true =>
  have y:=eP h.table (iG M);simp only[FO,cond_false];rw[aC (n:=n.2.2.2.2.2.1-n.2.2.2.2.2.2.2.2.2.2.1.2.1) (by show -9223372036854775808<=n.2.2.2.2.2.1-(aa.probe n).2.1;omega) (by show n.2.2.2.2.2.1-(aa.probe n).2.1<=9223372036854775807;omega)];show (bif decide (n.2.2.2.2.2.1-(aa.probe n).2.1>=4) then _ else _)=_;cases decide (n.2.2.2.2.2.1-(aa.probe n).2.1>=4) with
  |true =>
   simp only[cond_true];obtain⟨o,ho,R⟩:=fT K (aa.table n) (aa.probe n).1 h.lt u;rw[show Q23.f K (n.2.2.2.2.2.2.2.2.1,n.2.2.2.2.2.2.2.2.2.2.1.1,())=_ from R];simp only[FJ];cases ho with
   |no z=>exact absurd (iG M) (λ⟨f,y,e⟩=>z f y e)
   |at_ j J e =>
    simp only;rw[show idx n.2.2.2.2.2.2.2.2.1 ((j:Nat):Int)=some (aa.table n)[j] from af J,iT h.table.2 (FM J) y.2.2 (by rw[e,y.2.1])];simp only[FJ];cases (aT (aa.table n) (aa.probe n).1).2.2.1==1 with
    |true =>
     simp only[cond_true];refine (congrArg (λo=>FQ o _) (qJ K (setP n noP) (qM (aT (aa.table n) (aa.probe n).1)) n.1 (h.setP noP) u)).trans ?_;rfl
    |false=>rfl
  |false =>
   simp only[cond_false];show (bif decide (n.2.2.2.2.2.1-(aa.probe n).2.1>=2) then _ else _)=_;cases decide (n.2.2.2.2.2.1-(aa.probe n).2.1>=2) with
   |false=>rfl
   |true =>
    simp only[cond_true];show (bif !(aa.probe n).2.2.2 then _ else _)=_;cases H:(aa.probe n).2.2.2 with
    |true=>rfl
    |false =>
     simp only[F4,cond_true];refine (congrArg (λo=>FQ o _) (yx K (mq n) h.lt u)).trans ?_;simp only[FJ];rw[show gi (mq n)=gi n from rfl];have O:(gi n).length<=2:=G6 _ _;refine G5 (rH (step:=λrec a=>Q88.s0 K (n,()) rec a) (gi n) (λ_=>true) (askW n) (λr i=>(r,gi n,(i:Int))) (λws=>some ((mq n,ws,()),())) ?_ ?_ (by omega)) (by rw[F1.2 (λ_ _=>rfl)])
     ·intro rec r i I X;simp only[Q88.s0,zcp8];rw[bt (by omega:(i:Int)<(FK (gi n):Int)),af I,ar i (by omega),FN,af I];simp only[cond_true,FJ,Q22.f];rw[szb _ _ _ (by omega) (by simp)];simp only[cond_true,FJ];rw[szw _ _ _ (by omega) (by simp;omega)];rfl
     ·intro rec r X;simp only[Q88.s0,zcp8,aS];rfl
def gZ (n:aa)(i:Int):aa:=(n.1,n.2.1,n.2.2.1,n.2.2.2.1,i,n.2.2.2.2.2)
def e8 (n:aa)(f:ah):aa:=bif decide (bP f (aT (aa.table n) n.1))&&decide (f.2.1<999) then sayOf (gZ n (f.2.1+1)) (n.1,f.2.1+1,1,n.2.2.2.1) n.1 else n
def dW (f:ah)(b:Int)(d:bV):bV:=bif d.1==f.1&&d.2.1==f.2.1&&f.2.2.1==2 then (d.1,d.2.1,d.2.2.1,bD (λx:Int=>x) b d.2.2.2) else d
def kl (n:aa)(f:ah)(b:Int):aa:=gG n (aa.table n) (aa.cast n) ((aa.doubts n).map (dW f b))
def dI (b:Int)(n:aa)(f:ah):aa:=bif f.1==n.1 then e8 n f else kl (sayOf n f b) f b
def gB (n:aa)(t:List ah)(b:Int):aa:=t.foldl (dI b) n
def lO (l:List Int):Prop:=Asc (λx:Int=>x) l/\∀ x∈l,InP x 0 7
theorem lO.len {l:List Int}(h:lO l):l.length<=8:=jx h.1 h.2
theorem lO.put {l:List Int}{b:Int}(h:lO l)(u:InP b 0 7):lO (bD (λx:Int=>x) b l) :=
 ⟨fI h.1,λx r=>by
  rcases bd.1 r with rfl|⟨r,_⟩
  ·exact u
  ·exact h.2 x r⟩
structure dG (n:aa):Prop where
 say:cH n
 me:InP n.1 0 7
 has:∃ g∈aa.table n,g.1=n.1
 by_:∀ d∈aa.doubts n,lO d.2.2.2
theorem cH.inc {n:aa}(h:cH n)(i:Int):cH (gZ n i):=⟨h.table,h.cast,h.asc,h.inp,h.lt,h.lc,h.ld⟩
theorem kJ {n:aa}{f:ah}{b:Int}(z:InP b 0 7)(h:∀ d∈aa.doubts n,lO d.2.2.2):∀ d∈aa.doubts (sayOf n f b),lO d.2.2.2:=by
 obtain⟨t,c,u,e,_,_,y⟩:=jm n f b;rw[e];intro d r;have r:d∈u:=r;rcases y with rfl|rfl
 ·exact h d r
 ·rcases k9 r with rfl|r
  ·exact⟨Gy _ _,λx H=>by rw[F9.1 H];exact z⟩
  ·exact h d r
theorem rJ {n:aa}{f:ah}(u:InP n.1 0 7)(r:bw f)(h:f.2.1<999):bw (n.1,f.2.1+1,1,n.2.2.2.1):=by
 obtain⟨_,⟨y,z⟩,_⟩:=r;exact⟨u,⟨show (0:Int)<=f.2.1+1 by omega,show f.2.1+1<=999 by omega⟩,show (1:Int)<=1 by omega,show (1:Int)<=4 by omega⟩
theorem dG.refute {n:aa}{f:ah}(h:dG n)(I:bw f):dG (e8 n f):=by
 unfold e8;cases z:decide (bP f (aT (aa.table n) n.1))&&decide (f.2.1<999) with
 |false=>exact h
 |true =>
  have M:f.2.1<999:=by
   rw[GK]at z;exact of_decide_eq_true z.2
  obtain⟨u,_⟩:=jy (gZ n (f.2.1+1)) (n.1,f.2.1+1,1,n.2.2.2.1) n.1;refine⟨iV (h.say.inc _) (rJ h.me I M),?_,?_,kJ h.me h.by_⟩
  ·show InP (sayOf (gZ n (f.2.1+1)) (n.1,f.2.1+1,1,n.2.2.2.1) n.1).1 0 7;rw[u];exact h.me
  ·obtain⟨g,J,e⟩:=h.has;obtain⟨y,r,H⟩:=kk (n:=gZ n (f.2.1+1)) (f:=(n.1,f.2.1+1,1,n.2.2.2.1)) (b:=n.1) (g:=g) J;refine⟨y,r,?_⟩;show y.1=(sayOf (gZ n (f.2.1+1)) (n.1,f.2.1+1,1,n.2.2.2.1) n.1).1;rw[u,H,e];rfl
theorem dG.confirm {n:aa}{f:ah}{b:Int}(h:dG n)(Y:bw f)(R:InP b 0 7):dG (kl (sayOf n f b) f b):=by
 have u:=iV (b:=b) h.say Y;obtain⟨M,_⟩:=jy n f b;have z:=kJ (f:=f) R h.by_;obtain⟨g,Z,e⟩:=h.has;obtain⟨O,I,X⟩:=kk (n:=n) (f:=f) (b:=b) Z;have J:∀ d,(dW f b d).1=d.1:=λd=>by unfold dW;cases d.1==f.1&&d.2.1==f.2.1&&f.2.2.1==2 <;> rfl
 refine⟨⟨u.table,u.cast,?_,λd H=>?_,u.lt,u.lc,?_⟩,?_,⟨O,I,?_⟩,λd H=>?_⟩
 ·show Asc (λd:bV=>d.1) ((aa.doubts (sayOf n f b)).map (dW f b));unfold Asc;rw[GD];exact u.asc.imp λ {a c} h=>by show (dW f b a).1<(dW f b c).1;rw[J,J];exact h
 ·obtain⟨y,r,rfl⟩:=F8.1 H;rw[J];exact u.inp y r
 ·show ((aa.doubts (sayOf n f b)).map (dW f b)).length<=_;rw[F2];exact u.ld
 ·show InP (sayOf n f b).1 0 7;rw[M];exact h.me
 ·show O.1=(sayOf n f b).1;rw[M,X,e]
 ·obtain⟨y,r,rfl⟩:=F8.1 H;unfold dW;cases y.1==f.1&&y.2.1==f.2.1&&f.2.2.1==2 with
  |false=>exact z y r
  |true=>exact (z y r).put R
theorem dG.step {n:aa}{f:ah}{b:Int}(h:dG n)(r:bw f)(u:InP b 0 7):dG (dI b n f):=by
 unfold dI;cases f.1==n.1 with
 |true=>exact h.refute r
 |false=>exact h.confirm r u
theorem ui {α A R:Type}(ds:List α)(g:α->α)(S:List α->Nat->A)(u:List α->Option R){step:(A->Option R)->A->Option R}
  (h:∀ (rec:A->Option R) (cur:List α) (i:Nat) (X:i<ds.length),cur.length=ds.length->cur[i]?=some ds[i]->step rec (S cur i)=rec (S (cur.set i (g ds[i])) (i+1)))
  (y:∀ (rec:A->Option R) (cur:List α),cur.length=ds.length->step rec (S cur ds.length)=u cur) {k:Nat} (J:ds.length<k):ae step k (S ds 0)=u (ds.map g):=by
 have:∀ (d i k:Nat) (cur:List α),i+d=ds.length->d<k->cur.length=ds.length->(∀ j,(r:j<ds.length)->cur[j]?=some (if j<i then g ds[j] else ds[j]))->ae step k (S cur i)=u (ds.map g):=by
  intro d;induction d with
  |zero =>
   intro i k cur X J I H;obtain⟨k,rfl⟩:∃ M,k=M+1:=⟨k-1,by omega⟩;have:i=ds.length:=by omega
   subst this;show step (ae step k) _=_;rw[y _ _ I];congr 1;refine List.ext_getElem? λj=>?_
   rw[List.getElem?_map];by_cases r:j<ds.length
   ·rw[H j r,if_pos r,FV r];rfl
   ·rw[GU (by omega),GU (by omega)];rfl
  |succ d Y =>
   intro i k cur X J I H;obtain⟨k,rfl⟩:∃ M,k=M+1:=⟨k-1,by omega⟩;have z:i<ds.length:=by omega
   show step (ae step k) _=_;rw[h (ae step k) cur i z I (by rw[H i z,if_neg (by omega)])];refine Y (i+1) k _ (by omega) (by omega) (by rw[HM,I]) λj r=>?_
   rw[List.getElem?_set];by_cases e:i=j
   ·subst e;rw[if_pos rfl,if_pos (by omega),if_pos (by omega)]
   ·rw[if_neg e,H j r];by_cases O:j<i
    ·rw[if_pos O,if_pos (by omega)]
    ·rw[if_neg O,if_neg (by omega)]
 exact this ds.length 0 k ds (by omega) J rfl (λj r=>by rw[if_neg (by omega),FV r])
theorem mX {α:Type}{cur:List α}{i:Nat}{x:α}(h:cur[i]?=some x):cur.set i x=cur:=by
 obtain⟨r,e⟩:=List.getElem?_eq_some_iff.1 h;rw[<- e,List.set_getElem_self]
theorem uj {by_:List Int}{b:Int}{m:Nat}(z:m<=by_.length)(y:by_.length<=8){R:Type}(G:List Int->Option R) :
  (bif decide ((0:Int)<=0)&&decide ((0:Int)<=(m:Int))&&decide ((m:Int)<=(FK by_:Int))&&true then (bif decide ((FK ([]:List Int)+FK ((by_.take (FL (m:Int))).drop (FL 0)))*8<=am) then (bif decide ((FK ([]++((by_.take (FL (m:Int))).drop (FL 0)))+FK ([b]))*8<=am) then (bif decide ((0:Int)<=(m:Int))&&decide ((m:Int)<=(FK by_:Int))&&decide ((FK by_:Int)<=(FK by_:Int))&&true then (bif decide ((FK (([]++((by_.take (FL (m:Int))).drop (FL 0)))++([b]))+FK ((by_.take (FL (FK by_:Int))).drop (FL (m:Int))))*8<=am) then G ((([]++((by_.take (FL (m:Int))).drop (FL 0)))++([b]))++((by_.take (FL (FK by_:Int))).drop (FL (m:Int)))) else none) else none) else none) else none) else none)=G (by_.take m++[b]++by_.drop m):=by
 rw[decide_eq_true (by omega:(0:Int)<=0),decide_eq_true (by omega:(0:Int)<=(m:Int)),decide_eq_true (by omega:(m:Int)<=(FK by_:Int)),decide_eq_true (by omega:(FK by_:Int)<=(FK by_:Int))];simp only[FN,Gf,GB,FX,GR,Gb,cond_true];have r:(by_.take m).length=m:=by rw[GC];omega
 have u:(by_.drop m).length=by_.length-m:=GF;rw[szb _ _ _ (by omega) (by simp only[FW];omega),szb _ _ _ (by omega) (by simp only[FT,FW];omega),szb _ _ _ (by omega) (by simp only[FZ,FT,FW];omega)];rfl
theorem yy (K:Nat)(n:aa)(f:ah)(b:Int)(hd:∀ d∈aa.doubts n,lO d.2.2.2)(hl:(aa.doubts n).length<=1048576)(hK:1048577<K):Q30.f K (n,f,b,())=some ((kl n f b,()),()):=by
 simp only[Q30.f,Q30.pre];refine ui (step:=λrec a=>Q30.s0 K (n,f,b,()) (Q30.l1 K (n,f,b,()) rec) rec a) (aa.doubts n) (dW f b) (λu i=>((i:Int),u)) (λu=>some ((gG n (aa.table n) (aa.cast n) u,()),())) ?_ ?_ (by omega)
 ·intro rec u i hi X I;have J:i<u.length:=by omega
  have a1:u[i]=(aa.doubts n)[i]:=by
   rw[FV J]at I;exact Option.some.inj I
  have R:=hd _ (FM hi);simp only[Q30.s0,zcp8];rw[bt (by omega:(i:Int)<(FK u:Int)),af J,ar i (by omega),FN,af J,a1];simp only[cond_true,FJ];generalize a7:(aa.doubts n)[i]=d at R I ⊢;have H:rec (((i+1:Nat):Int),u)=rec (((i+1:Nat):Int),u.set i d):=by rw[mX I]
  unfold dW;by_cases h1:d.1=f.1
  case neg =>
   rw[show (d.1 != f.1)=true by simpa using h1,show (d.1==f.1)=false by simpa using h1];exact H
  by_cases h2:d.2.1=f.2.1
  case neg =>
   rw[show (d.1 != f.1)=false by simpa using h1,show (d.2.1 != f.2.1)=true by simpa using h2,show (d.2.1==f.2.1)=false by simpa using h2,HP];exact H
  by_cases h3:f.2.2.1=2
  case neg =>
   rw[show (d.1 != f.1)=false by simpa using h1,show (d.2.1 != f.2.1)=false by simpa using h2,show (f.2.2.1 != 2)=true by simpa using h3,show (f.2.2.1==2)=false by simpa using h3,HP];exact H
  rw[show (d.1 != f.1)=false by simpa using h1,show (d.2.1 != f.2.1)=false by simpa using h2,show (f.2.2.1 != 2)=false by simpa using h3,show (d.1==f.1)=true by simpa using h1,show (d.2.1==f.2.1)=true by simpa using h2,show (f.2.2.1==2)=true by simpa using h3];simp only[cond_false,Gb,cond_true];have a0:=R.len;have a2:∀ m:Nat,m<=d.2.2.2.length->(∀ j,(M:j<d.2.2.2.length)->j<m->d.2.2.2[j]<b)->(∀ j,(M:j<d.2.2.2.length)->m<=j->b<d.2.2.2[j])->d.2.2.2.take m++[b]++d.2.2.2.drop m=bD (λx:Int=>x) b d.2.2.2:=λm Z lo hi=>gu (k:=λx:Int=>x) Z lo hi
  have:=cG (step:=λr a=>Q30.s1 K (n,f,b,()) rec r a) d.2.2.2.length (λj=>((i:Int),(j:Int),u,d.1,d.2.1,d.2.2.1,d.2.2.2)) (λj=>∃ h:j<d.2.2.2.length,¬ d.2.2.2[j]<b)
   (rec (((i+1:Nat):Int),u.set i (d.1,d.2.1,d.2.2.1,d.2.2.2.take d.2.2.2.length++[b]++d.2.2.2.drop d.2.2.2.length)))
   (λj=>if h:j<d.2.2.2.length then (if d.2.2.2[j]=b then rec (((i+1:Nat):Int),u) else rec (((i+1:Nat):Int),u.set i (d.1,d.2.1,d.2.2.1,d.2.2.2.take j++[b]++d.2.2.2.drop j))) else none) ?_ ?_ d.2.2.2.length K 0 (by omega) (by omega)
  ·rcases this with ⟨a6,he⟩|⟨j,_,M,⟨Y,a8⟩,a4,he⟩
   ·refine G5 he ?_;rw[a2 _ (F0 _) (λj M _=>by
     by_cases O:d.2.2.2[j]<b
     ·exact O
     ·exact absurd ⟨M,O⟩ (a6 j (F5 _) M)) (λj M Z=>by omega)]
   ·refine G5 he ?_;rw[dif_pos Y];have lo:∀ m,(Z:m<d.2.2.2.length)->m<j->d.2.2.2[m]<b:=λm Z a5=>by
     by_cases O:d.2.2.2[m]<b
     ·exact O
     ·exact absurd ⟨Z,O⟩ (a4 m (F5 _) a5)
    by_cases y:d.2.2.2[j]=b
    ·rw[if_pos y,<- gY (k:=λx:Int=>x) R.1 Y y];rw[show d.2.2.2.set j b=d.2.2.2 from mX (by rw[FV Y,y])];exact H
    ·rw[if_neg y,a2 j (by omega) lo (λm Z a3=>by
      rcases GP a3 with h4|rfl
      ·have:=ct.1 R.1 j m (by omega) Z h4;omega
      ·omega)]
  ·intro r j M;simp only[Q30.s1];rw[bt (by omega:(j:Int)<(FK d.2.2.2:Int)),af M,ar j (by omega)];simp only[cond_true,FJ];by_cases O:d.2.2.2[j]<b
   ·left;refine⟨λ⟨_,h⟩=>h O,?_⟩;rw[decide_eq_true O];rfl
   ·right;refine⟨⟨M,O⟩,?_⟩;rw[decide_eq_false O,show ((j:Int)==(FK d.2.2.2:Int))=false by simp;omega,dif_pos M];simp only[cond_false];by_cases y:d.2.2.2[j]=b
    ·rw[if_pos y,show (d.2.2.2[j] != b)=false by simpa using y,ar i (by omega)];rfl
    ·rw[if_neg y,show (d.2.2.2[j] != b)=true by simpa using y];simp only[cond_true];refine (uj (m:=j) (b:=b) (Nat.le_of_lt M) a0 (λz=>(idx u (i:Int)).bind λ_=>(idx u (FL (i:Int):Nat)).bind λ_=>rec (wr .i64 ((i:Int)+1),u.set (FL (i:Int)) (d.1,(d.2.1,(d.2.2.1,z)))))).trans ?_;rw[FN,af J,ar i (by omega)];rfl
  ·intro r;simp only[Q30.s1];rw[aS];simp only[cond_false,beq_self_eq_true,cond_true];refine (uj (b:=b) (F0 _) a0 (λz=>(idx u (i:Int)).bind λ_=>(idx u (FL (i:Int):Nat)).bind λ_=>rec (wr .i64 ((i:Int)+1),u.set (FL (i:Int)) (d.1,(d.2.1,(d.2.2.1,z)))))).trans ?_;rw[FN,af J,ar i (by omega)];rfl
 ·intro rec u X;simp only[Q30.s0,zcp8];rw[<- X,aS];rfl
theorem Ac (K:Nat)(n:aa)(f:ah)(h:dG n)(J:bw f)(y:1048577<K):Q29.f K (n,f,())=some ((e8 n f,()),()):=by
 simp only[Q29.f,zcp4];have r:=eP h.say.table h.has;obtain⟨o,O,I⟩:=fT K (aa.table n) n.1 h.say.lt y;rw[show Q23.f K (n.2.2.2.2.2.2.2.2.1,n.1,())=_ from I];simp only[FJ];cases O with
 |no u=>exact absurd h.has (λ⟨g,M,e⟩=>u g M e)
 |at_ j H e =>
  simp only;rw[show idx n.2.2.2.2.2.2.2.2.1 ((j:Nat):Int)=some (aa.table n)[j] from af H,iT h.say.table.2 (FM H) r.2.2 (by rw[e,r.2.1])];simp only[FJ];rw[qI];obtain⟨_,⟨R,X⟩,_⟩:=J;simp only[rb,FJ,e8];cases decide (bP f (aT (aa.table n) n.1)) with
  |false=>rfl
  |true =>
   simp only[FO,cond_false,GL];by_cases z:f.2.1<999
   ·rw[decide_eq_false (by omega:¬ f.2.1>=999),decide_eq_true z,aC (by omega) (by omega)];simp only[cond_false,cond_true];refine (congrArg (λo=>FQ o _) (qJ K (gZ n (f.2.1+1)) (n.1,f.2.1+1,1,n.2.2.2.1) n.1 (h.say.inc _) y)).trans ?_;rfl
   ·rw[decide_eq_true (by omega:f.2.1>=999),decide_eq_false z];rfl
theorem wm (K:Nat)(n:aa)(t:List ah)(b:Int)(h:dG n)(I:∀ f∈t,bw f)(J:t.length<=1048576)(z:InP b 0 7)(y:1048577<K):Q31.f K (n,t,b,())=some ((gB n t b,()),()):=by
 refine lw (step:=λrec a=>Q31.s0 K (n,t,b,()) rec a) t (dI b) dG (λm i=>((i:Int),m.1,m.2.1,m.2.2.1,m.2.2.2.1,m.2.2.2.2.1,m.2.2.2.2.2.1,m.2.2.2.2.2.2.1,m.2.2.2.2.2.2.2.1,m.2.2.2.2.2.2.2.2.1,m.2.2.2.2.2.2.2.2.2.1,m.2.2.2.2.2.2.2.2.2.2.1.1,m.2.2.2.2.2.2.2.2.2.2.1.2.1,m.2.2.2.2.2.2.2.2.2.2.1.2.2.1,m.2.2.2.2.2.2.2.2.2.2.1.2.2.2,m.2.2.2.2.2.2.2.2.2.2.2.1,m.2.2.2.2.2.2.2.2.2.2.2.2.1.1,m.2.2.2.2.2.2.2.2.2.2.2.2.1.2.1,m.2.2.2.2.2.2.2.2.2.2.2.2.1.2.2.1,m.2.2.2.2.2.2.2.2.2.2.2.2.1.2.2.2,m.2.2.2.2.2.2.2.2.2.2.2.2.2.1,m.2.2.2.2.2.2.2.2.2.2.2.2.2.2)) (λm=>some ((m,()),())) n h ?_ ?_ (by omega)
 ·intro rec m i H r;have u:=I _ (FM H);refine⟨?_,r.step u z⟩;simp only[Q31.s0,zc286a0,zc3ec45];rw[bt (by omega:(i:Int)<(FK t:Int)),af H,ar i (by omega)];simp only[cond_true,FJ];generalize t[i]=f at u ⊢;unfold dI;cases f.1==m.1 with
  |true =>
   simp only[cond_true];refine (congrArg (λo=>FQ o _) (Ac K m f r u y)).trans ?_;rfl
  |false =>
   simp only[cond_false];refine (congrArg (λo=>FQ o _) (qJ K m f b r.say y)).trans ?_;simp only[FJ];rw[yy K (sayOf m f b) f b (kJ z r.by_) (iV r.say u).ld y];rfl
 ·intro rec m r;simp only[Q31.s0,zc286a0,zc3ec45];rw[aS];rfl
def dk {α:Type}(r:α->α->Bool)(x:α):List α->List α->List α
 |[],B=>x::B
 |y::A,B=>bif r x y then dk r x A (y::B) else (y::A).reverse++x::B
def cI {α:Type}(r:α->α->Bool):List α->List α->List α
 |done,[]=>done
 |done,x::u=>cI r (dk r x done.reverse []) u
theorem nW {α:Type}(r:α->α->Bool)(x:α):∀ (A B:List α),(dk r x A B).Perm (x::(A.reverse++B))
 |[],B=>by simp[dk]
 |y::A,B=>by
  simp only[dk];cases r x y with
  |true=>exact (nW r x A (y::B)).trans (by simp)
  |false=>simp only[cond_false];exact HG
theorem mY {α:Type}(r:α->α->Bool):∀ (xs done:List α),(cI r done xs).Perm (done++xs)
 |[],done=>by simp[cI]
 |x::xs,done=>by
  simp only[cI];refine (mY r xs _).trans ?_;have:=nW r x done.reverse [];simp only[Gp,FY]at this;exact (this.append_right xs).trans (by simpa using (HG (a:=x) (l₁:=done) (l₂:=xs)).symm)
def kr {α:Type}(r:α->α->Bool)(xs:List α):Prop:=xs.Pairwise λa b=>r b a=false
theorem lP {α:Type}(r:α->α->Bool)(H:∀ a b c,r a b=false->r b c=false->r a c=false)(x:α) :
  ∀ (A B:List α),kr r A.reverse->dk r x A B=(A.reverse.filter λy=>!r x y)++x::((A.reverse.filter λy=>r x y)++B)
 |[],B,_=>rfl
 |y::A,B,h=>by
  simp only[dk];have O:kr r A.reverse:=by
   unfold kr at h ⊢;rw[Gg,GW]at h;exact h.1
  cases z:r x y with
  |true =>
   simp only[cond_true];rw[lP r H x A (y::B) O];simp[z,GJ]
  |false =>
   have I:∀ a∈A.reverse,r x a=false:=λa u=>by
    unfold kr at h;rw[Gg,GW]at h;exact H x y a z (h.2.2 a u y (by simp))
   simp only[cond_false];have J:(y::A).reverse.filter (λy=>!r x y)=(y::A).reverse:=F1.2 λa u=>by
    rw[Gg,GO,F9]at u;rcases u with u|rfl
    ·rw[I a u];rfl
    ·rw[z];rfl
   have M:(y::A).reverse.filter (λy=>r x y)=[]:=F6.2 λa u=>by
    rw[Gg,GO,F9]at u;rcases u with u|rfl
    ·rw[I a u];simp
    ·rw[z];simp
   rw[J,M];rfl
def eC (l:List aO)(i:Int):Int:=((l[i.toNat]?).map (·.2)).getD 0
def ltL (l:List aO)(a b:Int):Bool:=decide (eC l b<eC l a)
def lt2 (l:List aO)(a b:Int):Prop:=eC l b<eC l a\/(eC l a=eC l b/\a<b)
def cL (n:Nat):List Int:=(List.range n).map λ (i:Nat)=>(i:Int)
def bG (l:List aO):List Int:=cI (ltL l) [] (cL l.length)
theorem iX {n:Nat}{i:Int}:i∈cL n<->0<=i/\i<n:=by
 unfold cL;rw[F8];constructor
 ·rintro⟨j,hj,rfl⟩;have:=HQ.1 hj;omega
 ·rintro⟨h0,h1⟩;exact⟨i.toNat,HQ.2 (by omega),by omega⟩
theorem jN (n:Nat):(cL n).Pairwise (·<·):=by
 unfold cL;rw[GD];exact List.pairwise_lt_range.imp λh=>by omega
theorem dX {l:List aO}{i:Nat}(h:i<l.length):eC l (i:Int)=l[i].2:=by
 unfold eC;rw[FN,FV h];rfl
theorem uo (l:List aO):∀ (xs done:List Int),done.Pairwise (lt2 l)->(∀ a∈done,∀ b∈xs,a<b)->xs.Pairwise (·<·)->(cI (ltL l) done xs).Pairwise (lt2 l)
 |[],done,h,_,_=>h
 |x::xs,done,h,H,R=>by
  have z:=F7.1 R;have O:kr (ltL l) done:=h.imp λ {a b} J=>by
   unfold ltL;rw[decide_eq_false_iff_not];rcases J with y|⟨y,_⟩ <;> omega
  have e:=lP (ltL l) (λa b c y I=>by
   unfold ltL at y I ⊢;rw[decide_eq_false_iff_not]at y I ⊢;omega) x done.reverse [] (by rw[Gp];exact O)
  rw[Gp,FY]at e;simp only[cI];rw[e];refine uo l xs _ ?_ ?_ z.2
  ·rw[GW,F7];refine⟨h.filter _,⟨λb u=>?_,h.filter _⟩,λa r b u=>?_⟩
   ·have y:ltL l x b=true:=by simpa using (FR.1 u).2
    exact .inl (by simpa[ltL]using y)
   ·have y:ltL l x a=false:=by simpa using (FR.1 r).2
    have X:¬ eC l a<eC l x:=by simpa[ltL]using y
    have M:=H a (FR.1 r).1 x (by simp);rcases Gn.1 u with rfl|u
    ·by_cases I:eC l b<eC l a
     ·exact .inl I
     ·exact .inr ⟨by omega,M⟩
    ·have I:ltL l x b=true:=by simpa using (FR.1 u).2
     have Y:eC l b<eC l x:=by simpa[ltL]using I
     exact .inl (by omega)
  ·intro a r b u;rcases GO.1 r with r|r
   ·exact H a (FR.1 r).1 b (by simp[u])
   ·rcases Gn.1 r with rfl|r
    ·exact z.1 b u
    ·exact H a (FR.1 r).1 b (by simp[u])
theorem qN (l:List aO):(bG l).Pairwise (lt2 l):=uo l _ [] List.Pairwise.nil (by simp) (jN _)
theorem mZ (l:List aO):(bG l).Perm (cL l.length):=by
 unfold bG;simpa using mY (ltL l) (cL l.length) []
theorem jn {l:List aO}{i:Int}:i∈bG l<->0<=i/\i<l.length:=by rw[(mZ l).mem_iff,iX]
def dB (T:List Int)(n:Nat):List Bool:=(cL n).map λi=>decide (i∈T)
theorem fF (T:List Int)(n:Nat):(dB T n).length=n:=by simp[dB,cL]
theorem jo (T:List Int){n i:Nat}(h:i<n):(dB T n)[i]'(by rw[fF];exact h)=decide ((i:Int)∈T):=by
 simp[dB,cL]
theorem yD {T:List Int}{n b:Nat}(y:b<n):(dB T n).set b true=dB (T++[(b:Int)]) n:=by
 refine Gz (by rw[HM,fF,fF]) λi u r=>?_
 rw[fF]at r;rw[List.getElem_set,jo _ r];by_cases h:b=i
 ·subst h;rw[if_pos rfl,jo _ r];simp
 ·rw[if_neg h,jo _ r];have:¬ (i:Int)=(b:Int):=by omega
  simp[this]
def qO (l:List aO)(T:List Int)(i:Nat)(r:Int):Prop :=
 (r=-1/\∀ j:Nat,j<i->(j:Int)∈T)\/(0<=r/\r<i/\r∉T/\∀ j:Nat,j<i->(j:Int)∉T->(j:Int)≠r->lt2 l r (j:Int))
theorem BF (K:Nat)(l:List aO)(T:List Int)(hl:l.length<=1048576):∀ (d i k:Nat) (r:Int),i+d=l.length->d<k->qO l T i r ->
  ∃ b:Int,ae (λrec a=>Q38.s0 K (l,dB T l.length,()) rec a) k (r,(i:Int))=some ((b,()),())/\qO l T l.length b:=by
 intro d;induction d with
 |zero =>
  intro i k r hi hk Y;obtain⟨k,rfl⟩:∃ k',k=k'+1:=⟨k-1,by omega⟩;have:i=l.length:=by omega
  subst this;refine⟨r,?_,Y⟩;show Q38.s0 K (l,dB T l.length,()) _ _=_;simp only[Q38.s0,aS];rfl
 |succ d ih =>
  intro i k r hi hk Y;obtain⟨k,rfl⟩:∃ k',k=k'+1:=⟨k-1,by omega⟩;have z:i<l.length:=by omega
  have J:∀ r,qO l T (i+1) r->∃ b:Int,ae (λrec a=>Q38.s0 K (l,dB T l.length,()) rec a) k (r,((i+1:Nat):Int))=some ((b,()),())/\qO l T l.length b:=λr h=>ih (i+1) k r (by omega) (by omega) h
  show ∃ b:Int,Q38.s0 K (l,dB T l.length,()) (ae (λrec a=>Q38.s0 K (l,dB T l.length,()) rec a) k) (r,(i:Int))=_/\_;generalize ae (λrec a=>Q38.s0 K (l,dB T l.length,()) rec a) k=REC at J ⊢;simp only[Q38.s0];rw[bt (by omega:(i:Int)<(FK l:Int)),af (show i<(dB T l.length).length by rw[fF];exact z),jo T z,ar i (by omega)];simp only[cond_true,FJ];by_cases O:(i:Int)∈T
  ·rw[decide_eq_true O];simp only[FO,cond_false];refine J r ?_;rcases Y with ⟨rfl,h⟩|⟨h0,h1,h2,X⟩
   ·refine .inl ⟨rfl,λj Z=>?_⟩;by_cases y:j=i
    ·subst y;exact O
    ·exact h j (by omega)
   ·refine .inr ⟨h0,by omega,h2,λj Z u I=>?_⟩;by_cases y:j=i
    ·subst y;exact absurd O u
    ·exact X j (by omega) u I
  ·rw[decide_eq_false O];simp only[F4,cond_true];rcases Y with ⟨rfl,h⟩|⟨h0,h1,h2,X⟩
   ·rw[show decide ((-1:Int)<0)=true from rfl];refine J (i:Int) (.inr ⟨by omega,by omega,O,λj Z u I=>?_⟩);exact absurd (h j (by omega)) u
   ·rw[decide_eq_false (by omega:¬ r<0)];obtain⟨b,rfl⟩:=FP h0;have H:b<l.length:=by omega
    simp only[cond_false];rw[af z,af H];simp only[FJ];by_cases M:l[i].2>l[b].2
    ·rw[decide_eq_true M];refine J (i:Int) (.inr ⟨by omega,by omega,O,λj Z u I=>?_⟩);have y:j<i:=by omega
     have a1:j<l.length:=by omega
     by_cases R:(j:Int)=(b:Int)
     ·rw[R];exact .inl (by rw[dX z,dX H];exact M)
     ·have:=X j y u R;rcases this with h4|⟨h4,_⟩
      ·exact .inl (by rw[dX H]at h4;rw[dX z];omega)
      ·exact .inl (by rw[dX H]at h4;rw[dX z];omega)
    ·rw[decide_eq_false M];refine J (b:Int) (.inr ⟨by omega,by omega,h2,λj Z u I=>?_⟩);by_cases y:j=i
     ·subst y;by_cases a0:eC l (b:Int)=eC l (j:Int)
      ·exact .inr ⟨a0,h1⟩
      ·refine .inl ?_;rw[dX z,dX H]at *;omega
     ·exact X j (by omega) u I
theorem Cw (K:Nat)(l:List aO)(n:Nat)(hl:l.length<=1048576)(hK:1048577<K):Q38.f K (l,dB ((bG l).take n) l.length,())=some ((((bG l)[n]?).getD (-1),()),()):=by
  obtain⟨b,e,Z⟩:=BF K l ((bG l).take n) hl l.length 0 K (-1) (by omega) (by omega) (.inl ⟨rfl,λj H=>by omega⟩);have:b=((bG l)[n]?).getD (-1):=by
    by_cases I:n<(bG l).length
    · rw[FV I]
      show b=(bG l)[n];have hm:(bG l)[n]∉(bG l).take n:=λh=>by
        obtain⟨j,H,e⟩:=FS h;rw[GC]at H;rw[Gu]at e;have:=Ga.1 (qN l) j n (by omega) I (by omega);rw[e]at this;rcases this with u|⟨_,u⟩ <;> omega
      have hr:=jn.1 (FM I);obtain⟨m,r⟩:=FP hr.1;rcases Z with ⟨rfl,h⟩|⟨M,O,y,h3⟩
      · have:=h m (by omega)
        rw[<- r]at this;exact absurd this hm
      · by_cases X:b=(bG l)[n]
        · exact X
        · exfalso
          have z:=h3 m (by omega) (by rw[<- r];exact hm) (by rw[<- r];exact λh=>X h.symm);rw[<- r]at z;have R:b∈bG l:=jn.2 ⟨M,O⟩;obtain⟨j,H,J⟩:=FS R;have Y:n<j:=by
            rcases Gv j n with h|h|h
            · exact absurd (Gt.2 ⟨j,by omega,J⟩) y
            · subst h;exact absurd J.symm X
            · exact h
          have u:=Ga.1 (qN l) n j I H Y;rw[J]at u;rcases z with z|⟨z,h6⟩ <;> rcases u with u|⟨u,h7⟩ <;> omega
    · rw[GU (by omega)]
      show b=-1;rcases Z with ⟨rfl,_⟩|⟨M,O,y,_⟩
      · rfl
      · exfalso
        rw[GS (by omega)]at y;exact y (jn.2 ⟨M,O⟩)
  rw[<- this];exact e
def ce (l:List aO):List Int:=(bG l).take 3
def hH (l:List aO)(i:Int):aO:=(l[i.toNat]?).getD ((0,0,0,false),0)
def dY (l:List aO)(T:List Int)(i:Int):aO:=bif decide (i∈T) then ((hH l i).1,(hH l i).2-1) else hH l i
def eL (l:List aO)(T:List Int)(n:Nat):List ah:=((cL n).filter λi=>decide (i∈T)).map λi=>(hH l i).1
def gH (l:List aO)(T:List Int)(n:Nat):List aO:=(cL n).map (dY l T)
def dM (l:List aO)(T:List Int)(n:Nat):List aO:=(gH l T n).filter λx=>decide (x.2>0)
theorem cJ {l:List aO}{i:Nat}(h:i<l.length):hH l (i:Int)=l[i]:=by
 unfold hH;rw[FN,FV h];rfl
theorem nY (n:Nat):cL (n+1)=cL n++[(n:Int)]:=by
 unfold cL;rw[List.range_succ,G4];rfl
theorem xd (l:List aO)(T:List Int)(n:Nat):eL l T (n+1)=eL l T n++(bif decide ((n:Int)∈T) then [(hH l (n:Int)).1] else []):=by
 unfold eL;rw[nY,GJ,G4,F3];cases decide ((n:Int)∈T) <;> rfl
theorem xe (l:List aO)(T:List Int)(n:Nat):dM l T (n+1)=dM l T n++(bif decide ((dY l T (n:Int)).2>0) then [dY l T (n:Int)] else []):=by
 unfold dM gH;rw[nY,G4,GJ,G8,F3];cases decide ((dY l T (n:Int)).2>0) <;> rfl
theorem yE (l:List aO)(T:List Int)(n:Nat):(eL l T n).length<=n:=by
 unfold eL;rw[F2];refine GA (GI _ _) ?_;simp[cL]
theorem yF (l:List aO)(T:List Int)(n:Nat):(dM l T n).length<=n:=by
 unfold dM;refine GA (GI _ _) ?_;simp[gH,cL]
theorem BG (K:Nat)(l:List aO)(m:Int)(T:List Int)(X:l.length<=1048576)(H:da l)(R:1048577<K) :
  Q39.l1 K (l,m,()) (dB T l.length,[],[],0)=some ((eL l T l.length,dM l T l.length,()),()):=by
 refine fV (step:=λrec a=>Q39.s1 K (l,m,()) rec a) l.length (λi=>(dB T l.length,eL l T i,dM l T i,(i:Int))) (some ((eL l T l.length,dM l T l.length,()),())) ?_ ?_ (by omega)
 ·intro rec i r;simp only[Q39.s1];have u:i<(dB T l.length).length:=by rw[fF];exact r
  have M:=yE l T i;have O:=yF l T i;obtain⟨I,J⟩:=(H.1 l[i] (FM r)).2;rw[bt (by omega:(i:Int)<(FK l:Int)),af r,af u,ar i (by omega),FN,af u,jo T r,xd,xe,cJ r];simp only[cond_true,FJ];cases z:decide ((i:Int)∈T) with
  |true =>
   have y:dY l T (i:Int)=(l[i].1,l[i].2-1):=by unfold dY;rw[z,cJ r];rfl
   rw[y];simp only[cond_true];rw[szb _ _ _ (by omega) (by simp;omega),aC (n:=l[i].2-1) (by omega) (by omega)];simp only[cond_true];cases decide (l[i].2-1>0) with
   |true =>
    simp only[cond_true];rw[szb _ _ _ (by omega) (by simp;omega)];rfl
   |false =>
    simp only[cond_false,FY]
  |false =>
   have y:dY l T (i:Int)=l[i]:=by unfold dY;rw[z,cJ r];rfl
   rw[y];simp only[cond_false,FY];cases decide (l[i].2>0) with
   |true =>
    simp only[cond_true];rw[szb _ _ _ (by omega) (by simp;omega)];rfl
   |false =>
    simp only[cond_false,FY]
 ·intro rec;simp only[Q39.s1,aS];rfl
theorem Cx (K:Nat)(l:List aO)(R:l.length<=1048576)(hC:da l)(M:1048577<K):Q39.f K (l,3,())=some ((eL l (ce l) l.length,dM l (ce l) l.length,()),()):=by
 have r:∀ T,Q39.l1 K (l,3,()) (dB T l.length,[],[],0)=some ((eL l T l.length,dM l T l.length,()),()):=λT=>BG K l 3 T R hC M
 have Y:∀ (d n k:Nat),n+d=3->d<k->ae (λrec a=>Q39.s0 K (l,3,()) (Q39.l1 K (l,3,())) rec a) k (dB ((bG l).take n) l.length,(n:Int))=some ((eL l (ce l) l.length,dM l (ce l) l.length,()),()):=by
  intro d;induction d with
  |zero =>
   intro n k hn hk;obtain⟨k,rfl⟩:∃ I,k=I+1:=⟨k-1,by omega⟩;have:n=3:=by omega
   subst this;exact r _
  |succ d ih =>
   intro n k hn hk;obtain⟨k,rfl⟩:∃ I,k=I+1:=⟨k-1,by omega⟩;have y:=ih (n+1) k (by omega) (by omega);show Q39.s0 K (l,3,()) (Q39.l1 K (l,3,())) (ae (λrec a=>Q39.s0 K (l,3,()) (Q39.l1 K (l,3,())) rec a) k) (dB ((bG l).take n) l.length,(n:Int))=_;generalize ae (λrec a=>Q39.s0 K (l,3,()) (Q39.l1 K (l,3,())) rec a) k=REC at y ⊢;simp only[Q39.s0];rw[decide_eq_true (by omega:(n:Int)<3),Cw K l n R M,ar n (by omega)];simp only[cond_true,FJ];by_cases u:n<(bG l).length
   ·rw[FV u];have X:=jn.1 (FM u);have H:(bG l).take (n+1)=(bG l).take n++[(bG l)[n]]:=Gd u;rw[H]at y;simp only[HH];generalize (bG l)[n]=v at X y ⊢;obtain⟨b,rfl⟩:=FP X.1;have O:b<l.length:=by omega
    have z:b<(dB ((bG l).take n) l.length).length:=by rw[fF];exact O
    rw[decide_eq_false (by omega:¬ (b:Int)<0),af z,FN,af z,yD O];exact y
   ·rw[GU (by omega)];show Q39.l1 K (l,3,()) (dB ((bG l).take n) l.length,[],[],0)=_;rw[r,show (bG l).take n=ce l by unfold ce;rw[GS (by omega),GS (by omega)]]
 simp only[Q39.f,Q39.pre];rw[decide_eq_true (by omega:(0:Int)<=(FK l:Int)),show decide ((FK l:Int)*(1:Nat)<=am)=true from decide_eq_true (by simp only[am];omega),FN];simp only[decide_true,Gb,cond_true];have Z:List.replicate l.length false=dB ((bG l).take 0) l.length:=by
  refine Gz (by rw[List.length_replicate,fF]) λi h1 J=>?_
  rw[fF]at J;rw[List.getElem_replicate,jo _ J];simp
 have:=Y 3 0 K (by omega) (by omega);rw[<- Z]at this;exact this
theorem e9 (l:List aO)(T:List Int)(n:Nat):(gH l T n).length=n:=by simp[gH,cL]
theorem fJ (l:List aO)(T:List Int){n i:Nat}(h:i<n):(gH l T n)[i]'(by rw[e9];exact h)=dY l T (i:Int):=by
 simp[gH,cL]
theorem Cy {a b:Int}(r:0<=a)(u:a<4611686018427387904)(y:0<=b)(z:b<4611686018427387904):0<=rD .i64 a b:=by
 obtain⟨m,rfl⟩:=FP r;obtain⟨n,rfl⟩:=FP y;have h:(BitVec.ofInt 64 (m:Int) ^^^ BitVec.ofInt 64 (n:Int)).toNat=m ^^^ n:=by
  rw[BitVec.toNat_xor,BitVec.toNat_ofInt,BitVec.toNat_ofInt];congr 1
  ·omega
  ·omega
 have H:m ^^^ n<2 ^ 62:=Nat.xor_lt_two_pow (by omega) (by omega);show 0<=IntKind.i64.wrap (((BitVec.ofInt 64 (m:Int) ^^^ BitVec.ofInt 64 (n:Int)).toNat:Nat):Int);rw[h,HI];omega
structure gv (b:List Int):Prop where
 byte:∀ y∈b,0<=y/\y<=255
 len:b.length<=2000
theorem BH (K:Nat)(b:List Int)(q:Nat)(n:Int)(h:gv b)(hq:q<=100000)(hn:1<=n):∃ v:Int,Q9.f K ((b,(q:Int)),n,())=some ((v,()),((b,((q+1:Nat):Int)),()))/\0<=v/\v<n:=by
 have w1:wr .i64 ((q:Int)+1)=((q+1:Nat):Int):=ar q (by omega);have w2:wr .i64 (((q+1:Nat):Int)-1)=(q:Int):=by rw[aC (n:=((q+1:Nat):Int)-1) (by omega) (by omega)];omega
 have hl:=h.len;have I:decide (n=0)=false:=decide_eq_false (by omega);have r:∀ x:Int,0<=x->0<=GZ x n/\GZ x n<n:=λx u=>⟨HN _ u,HA _ (by omega)⟩
 simp only[Q9.f];rw[decide_eq_false (by omega:¬ n<1)];simp only[cond_false,w1,w2,I];by_cases M:b.length=0
 ·rw[show ((b.length:Int)==0)=true by simpa using M];exact⟨0,rfl,by omega,by omega⟩
 ·rw[show ((b.length:Int)==0)=false by simpa using M];simp only[cond_false];by_cases H:q<b.length
  ·rw[decide_eq_true (by omega:(q:Int)<(b.length:Int)),af H];simp only[cond_true,FJ];obtain⟨J,Y⟩:=h.byte b[q] (FM H);rw[aC (n:=b[q]) (by omega) (by omega)];exact⟨_,rfl,r _ J⟩
  ·rw[decide_eq_false (by omega:¬ (q:Int)<(b.length:Int)),decide_eq_false (by omega:¬ (b.length:Int)=0)];simp only[cond_false];have t1:GZ (q:Int) (b.length:Int)=((q % b.length:Nat):Int):=by rw[Gs (by omega)];rfl
   have t2:wr .i64 (wr .i64 ((q:Int)*7)+3)=((q*7+3:Nat):Int):=by rw[aC (n:=(q:Int)*7) (by omega) (by omega),aC (n:=(q:Int)*7+3) (by omega) (by omega)];omega
   have t3:GZ (((q*7+3:Nat)):Int) (b.length:Int)=(((q*7+3) % b.length:Nat):Int):=by rw[Gs (by omega)];rfl
   have O:q % b.length<b.length:=Nat.mod_lt _ (by omega);have R:(q*7+3) % b.length<b.length:=Nat.mod_lt _ (by omega);rw[t1,t2,t3,af O,af R];simp only[FJ];obtain⟨J,Y⟩:=h.byte b[q % b.length] (FM O);obtain⟨z0,z1⟩:=h.byte b[(q*7+3) % b.length] (FM R);generalize b[q % b.length]=y at J Y ⊢;generalize b[(q*7+3) % b.length]=z at z0 z1 ⊢;have Z:0<=Gh (q:Int) (b.length:Int)/\Gh (q:Int) (b.length:Int)<=q:=⟨HO (by omega) (by omega),HJ _ (by omega)⟩;generalize Gh (q:Int) (b.length:Int)=e at Z ⊢;have x1:wr .i64 (wr .i64 (wr .i64 (wr .i64 (wr .i64 y*131)+wr .i64 (wr .i64 z*1117))+wr .i64 ((q:Int)*29))+wr .i64 (wr .i64 e*53))=y*131+z*1117+q*29+e*53:=by
    rw[aC (n:=y) (by omega) (by omega),aC (n:=z) (by omega) (by omega),aC (n:=e) (by omega) (by omega),aC (n:=y*131) (by omega) (by omega),aC (n:=z*1117) (by omega) (by omega),aC (n:=(q:Int)*29) (by omega) (by omega),aC (n:=e*53) (by omega) (by omega),
     aC (n:=y*131+z*1117) (by omega) (by omega),aC (n:=y*131+z*1117+(q:Int)*29) (by omega) (by omega),aC (n:=y*131+z*1117+(q:Int)*29+e*53) (by omega) (by omega)]
   rw[x1];have u:0<=y*131+z*1117+q*29+e*53/\y*131+z*1117+q*29+e*53<=10000000:=by omega
   generalize y*131+z*1117+(q:Int)*29+e*53=X at u ⊢;have d2:0<=Gh X 64/\Gh X 64<=X:=⟨HO u.1 (by omega),HJ _ u.1⟩;rw[aC (n:=Gh X 64) (by omega) (by omega)];exact⟨_,rfl,r _ (Cy u.1 (by omega) d2.1 (by omega))⟩
theorem xh (K:Nat)(t:List ah)(f:ah)(ht:t.length<=1048576)(R:Asc (λg:ah=>g.1) t)(hK:1048577<K):Q32.f K (t,f,())=some (((bZ t f).1,(bZ t f).2,()),()):=by
 simp only[Q32.f,Q32.pre];obtain⟨o,H,M⟩:=fT K t f.1 ht hK;rw[M];simp only[FJ];cases H with
 |at_ i r e =>
  simp only;rw[k7 R r e,decide_eq_true (by omega:((i:Nat):Int)>=0),af r];simp only[cond_true,FJ,FN,af r];rw[show Q24.f K (f,t[i],())=_ from qI K f t[i]];simp only[FJ];by_cases H:bP f t[i]
  ·rw[decide_eq_true H,if_pos H];simp only[FO,cond_false];rw[szb _ _ _ (by omega) (by show (FK ([]:List ah))+t.length<=_;simp;omega)];simp only[cond_true,FX,af r,FJ,FN];rw[gY (k:=λg:ah=>g.1) R r e]
  ·rw[decide_eq_false H,if_neg H];rfl
 |no h =>
  simp only;rw[iU h,decide_eq_false (by omega:¬ (-1:Int)>=0)];simp only[cond_false];have J:∀ m:Nat,m<=t.length->(bif decide ((0:Int)<=0)&&decide ((0:Int)<=(m:Int))&&decide ((m:Int)<=(FK t:Int))&&true then (bif decide ((FK ([]:List ah)+FK ((t.take (FL (m:Int))).drop (FL 0)))*32<=am) then (bif decide ((FK ([]++((t.take (FL (m:Int))).drop (FL 0)))+FK ([f]))*32<=am) then (bif decide ((0:Int)<=(m:Int))&&decide ((m:Int)<=(FK t:Int))&&decide ((FK t:Int)<=(FK t:Int))&&true then (bif decide ((FK (([]++((t.take (FL (m:Int))).drop (FL 0)))++([f]))+FK ((t.take (FL (FK t:Int))).drop (FL (m:Int))))*32<=am) then (some (((([]++((t.take (FL (m:Int))).drop (FL 0)))++([f]))++((t.take (FL (FK t:Int))).drop (FL (m:Int))),true,()),())) else none) else none) else none) else none) else (none:Option ((List ah×Bool×Unit)×Unit)))=some ((t.take m++[f]++t.drop m,true,()),()):=by
   intro m X;rw[decide_eq_true (by omega:(0:Int)<=0),decide_eq_true (by omega:(0:Int)<=(m:Int)),decide_eq_true (by omega:(m:Int)<=(FK t:Int)),decide_eq_true (by omega:(FK t:Int)<=(FK t:Int))];simp only[FN,Gf,GB,FX,GR,Gb,cond_true];have M:(t.take m).length=m:=by rw[GC];omega
   have z:(t.drop m).length=t.length-m:=GF;rw[szb _ _ _ (by omega) (by simp only[FW];omega),szb _ _ _ (by omega) (by simp only[FT,FW];omega),szb _ _ _ (by omega) (by simp only[FZ,FT,FW];omega)];rfl
  have:=cG (step:=λrec a=>Q32.s0 K (t,f,()) rec a) t.length (λi=>(i:Int)) (λj=>∃ h:j<t.length,¬ t[j].1<f.1) (some ((t.take t.length++[f]++t.drop t.length,true,()),())) (λj=>some ((t.take j++[f]++t.drop j,true,()),())) ?_ ?_ t.length K 0 (by omega) (by omega)
  ·have I:∀ m,m<=t.length->(∀ i,(r:i<t.length)->i<m->t[i].1<f.1)->(∀ i,(r:i<t.length)->m<=i->f.1<t[i].1)->t.take m++[f]++t.drop m=bD (λg=>g.1) f t:=λm X lo r=>gu (k:=λg:ah=>g.1) X lo r
   rcases this with ⟨M,z⟩|⟨j,_,M,⟨Y,h4⟩,Z,z⟩
   ·rw[I t.length (F0 _) (λi r _=>by
     have:=M i (F5 _) r;exact GN.1 λh=>this ⟨r,h⟩) (λi r h=>by omega)]at z
    exact z
   ·rw[I j (by omega) (λi r y=>by
     have:=Z i (F5 _) y;exact GN.1 λh=>this ⟨r,h⟩) (λi r y=>by
     have a0:=h t[i] (FM r);rcases GP y with O|O
     ·have:=ct.1 R j i Y r O;omega
     ·subst O;omega)]at z
    exact z
  ·intro rec i r;simp only[Q32.s0];rw[bt (by omega:(i:Int)<(FK t:Int)),af r,ar i (by omega)];simp only[cond_true,FJ];rw[show idx t ((FL (i:Int):Nat):Int)=some t[i] by rw[FN];exact af r];simp only[FJ];by_cases u:t[i].1<f.1
   ·exact .inl ⟨λ⟨_,h⟩=>h u,by rw[decide_eq_true u];rfl⟩
   ·exact .inr ⟨⟨r,u⟩,by rw[decide_eq_false u];exact J i (by omega)⟩
  ·intro rec;simp only[Q32.s0,aS,cond_false];exact J t.length (F0 _)
def fG (t:List ah)(fs:List ah):List ah:=fs.foldl (λt f=>(bZ t f).1) t
theorem su:∀ {fs t:List ah},aE t->(∀ f∈fs,bw f)->aE (fG t fs)
 |[],_,h,_=>h
 |f::fs,t,h,r=>su (fs:=fs) (k8 h (r f (by simp))) (λg u=>r g (by simp[u]))
theorem cf {t:List ah}(h:aE t):t.length<=1048576:=GA (jx h.2 (λg r=>(h.1 g r).1)) (by decide)
theorem pq {R:Type}(a fs:List ah)(M:aE a)(O:∀ f∈fs,bw f)(r:List ah->Option R){step:(List ah×Int->Option R)->List ah×Int->Option R}
  (h:∀ (rec:List ah×Int->Option R) (t:List ah) (i:Nat) (I:i<fs.length),aE t->step rec (t,(i:Int))=rec ((bZ t fs[i]).1,((i+1:Nat):Int)))
  (y:∀ (rec:List ah×Int->Option R) (t:List ah),step rec (t,(fs.length:Int))=r t) {k:Nat} (z:fs.length<k):ae step k (a,0)=r (fG a fs):=by
 have:∀ (d i k:Nat) (t:List ah),i+d=fs.length->d<k->aE t->ae step k (t,(i:Int))=r (fG t (fs.drop i)):=by
  intro d;induction d with
  |zero =>
   intro i k t I z _;obtain⟨k,rfl⟩:∃ H,k=H+1:=⟨k-1,by omega⟩;have:i=fs.length:=by omega
   subst this;show step (ae step k) _=_;rw[y,Gl];rfl
  |succ d X =>
   intro i k t I z J;obtain⟨k,rfl⟩:∃ H,k=H+1:=⟨k-1,by omega⟩;have u:i<fs.length:=by omega
   show step (ae step k) _=_;rw[h _ _ _ u J,FU u];exact X (i+1) k _ (by omega) (by omega) (k8 J (O _ (FM u)))
 have:=this fs.length 0 k a (by omega) z M
 rwa [GB]at this
theorem yI (f:ah):¬ bP f f:=by
 unfold bP;simp
theorem lf (K:Nat)(xs:List ah)(z:xs.length<=1048576)(y:1048577<K):Q172.f K (xs,xs,())=rb true:=by
 have u:Q172.l0 K (xs,xs,()) 0=rb true:=by
  refine fV (step:=λrec a=>Q172.s0 K (xs,xs,()) rec a) xs.length (λi=>(i:Int)) (rb true) ?_ ?_ (by omega)
  ·intro rec i r;simp only[Q172.s0];rw[decide_eq_true (by omega:(i:Int)<(FK xs:Int)),af r,ar i (by omega)];simp only[cond_true,FJ];rw[show Ty.eqv t2 xs[i] xs[i]=decide (xs[i]=xs[i]) from iE _ _,decide_eq_true rfl];rfl
  ·intro rec;simp only[Q172.s0,aS];rfl
 simp only[Q172.f,Q172.pre,bne_self_eq_false,cond_false];exact u
theorem qb {l:List aO}(J:da l)(T:List Int):aE (eL l T l.length):=by
 unfold eL;constructor
 ·intro f hf;obtain⟨i,H,rfl⟩:=F8.1 hf;obtain⟨Y,h1⟩:=iX.1 (FR.1 H).1;obtain⟨b,rfl⟩:=FP Y;have M:b<l.length:=by omega
  rw[cJ M];exact (J.1 l[b] (FM M)).1
 ·unfold Asc;rw[GD];have hp:((cL l.length).filter λi=>decide (i∈T)).Pairwise λ (a b:Int)=>(0<=a/\a<l.length)/\(0<=b/\b<l.length)/\a<b:=by
   refine GY _ ?_;have:∀ u:List Int,(∀ x∈u,0<=x/\x<l.length)->u.Pairwise (·<·)->u.Pairwise λ (a b:Int)=>(0<=a/\a<l.length)/\(0<=b/\b<l.length)/\a<b:=by
    intro u z r;induction u with
    |nil=>exact List.Pairwise.nil
    |cons x u ih =>
     rw[F7]at r ⊢;exact⟨λy I=>⟨z x (by simp),z y (by simp[I]),r.1 y I⟩,ih (λy I=>z y (by simp[I])) r.2⟩
   exact this _ (λx z=>iX.1 z) (jN _)
  refine hp.imp λ {a b} h=>?_
  obtain⟨⟨R,a1⟩,⟨X,b1⟩,Z⟩:=h;obtain⟨i,rfl⟩:=FP R;obtain⟨j,rfl⟩:=FP X;have H:i<l.length:=by omega
  have O:j<l.length:=by omega
  rw[cJ H,cJ O];exact ct.1 J.2 i j H O (by omega)
theorem Ak {l:List aO}(J:da l)(T:List Int):da (dM l T l.length):=by
 have r:∀ i (h:i<l.length),(dY l T (i:Int)).1=l[i].1:=λi h=>by
  unfold dY;rw[cJ h];cases decide ((i:Int)∈T) <;> rfl
 have I:∀ i (h:i<l.length),(dY l T (i:Int)).2<=l[i].2:=λi h=>by
  unfold dY;rw[cJ h];cases decide ((i:Int)∈T) with
  |true=>show l[i].2-1<=l[i].2;omega
  |false=>exact GE _
 unfold dM;constructor
 ·intro x O;obtain⟨M,z⟩:=FR.1 O;have z:x.2>0:=by simpa using z
  obtain⟨i,u,rfl⟩:=FS M;rw[e9]at u;rw[fJ l T u]at z ⊢;have:=(J.1 l[i] (FM u));refine⟨by rw[r i u];exact this.1,?_,?_⟩
  ·omega
  ·have R:=I i u;have X:=this.2.2;omega
 ·unfold Asc;refine GY _ ?_;rw[Ga];intro i j u y H;rw[e9]at u y;show (gH l T l.length)[i].1.1<(gH l T l.length)[j].1.1;rw[fJ l T u,fJ l T y,r i u,r j y];exact ct.1 J.2 i j u y H
def iH (n:aa)(to:Int):List ah :=
 bif (aT (aa.table n) to).2.2.1==2 then (bZ (eL (aa.cast n) (ce (aa.cast n)) (aa.cast n).length) (aT (aa.table n) to)).1 else eL (aa.cast n) (ce (aa.cast n)) (aa.cast n).length
def jz (n:aa):aa:=gG n (aa.table n) (dM (aa.cast n) (ce (aa.cast n)) (aa.cast n).length) (aa.doubts n)
theorem o6 {n:aa}(h:cH n)(to:Int):aE (iH n to):=by
 have r:=qb h.cast (ce (aa.cast n));unfold iH;cases y:(aT (aa.table n) to).2.2.1==2 with
 |false=>exact r
 |true =>
  refine k8 r (eP h.table ?_).1;by_cases u:∃ f∈aa.table n,f.1=to
  ·exact u
  ·rw[kj (λg z e=>u ⟨g,z,e⟩)]at y;simp at y
theorem clen {n:aa}(h:cH n):(aa.cast n).length<=8:=jx h.cast.2 (λx r=>(h.cast.1 x r).1.1)
theorem wo (K:Nat)(n:aa)(to:Int)(h:cH n)(r:1048577<K):Q89.f K (n,to,())=some ((iH n to,jz n,()),()):=by
 have M:=clen h;simp only[Q89.f,zcp8];rw[show Q39.f K (n.2.2.2.2.2.2.2.2.2.1,3,())=_ from Cx K (aa.cast n) (by omega) h.cast r];simp only[FJ];obtain⟨o,J,I⟩:=fT K (aa.table n) to h.lt r;rw[show Q23.f K (n.2.2.2.2.2.2.2.2.1,to,())=_ from I];simp only[FJ,iH];have z:=qb h.cast (ce (aa.cast n));cases J with
 |no y =>
  rw[kj y];rfl
 |at_ j H e =>
  have u:aT (aa.table n) to=(aa.table n)[j]:=by rw[<- e];exact ki h.table.2 (FM H)
  rw[u];simp only;rw[decide_eq_true (by omega:((j:Nat):Int)>=0),show idx n.2.2.2.2.2.2.2.2.1 ((j:Nat):Int)=some (aa.table n)[j] from af H];simp only[cond_true,FJ];cases (aa.table n)[j].2.2.1==2 with
  |false=>rfl
  |true =>
   simp only[cond_true];rw[xh K _ _ (cf z) z.2 r];rfl
def cQ (n:aa)(k:Nat):Int:=GZ (n.2.2.2.2.2.2.2.1+(k:Int)) 8
def iK (n:aa)(k:Nat):Prop:=cQ n k≠n.1/\eZ (aT (aa.table n) (cQ n k))=true
def D9 (n:aa)(to:Int):aa :=
 let m:=jz n
 (m.1,m.2.1,m.2.2.1,m.2.2.2.1,m.2.2.2.2.1,m.2.2.2.2.2.1,m.2.2.2.2.2.2.1+1,to+1,m.2.2.2.2.2.2.2.2.1,m.2.2.2.2.2.2.2.2.2.1,(to,m.2.2.2.2.2.1,m.2.2.2.2.2.2.1+1,false),m.2.2.2.2.2.2.2.2.2.2.2)
def Ec (n:aa)(to:Int):aj:=(1,1,n.1,to,n.2.2.2.2.2.2.1+1,n.1,aa.coord n,iH n to)
theorem BI (K:Nat)(n:aa)(h:cH n)(a0:0<=n.2.2.2.2.2.2.2.1)(a1:n.2.2.2.2.2.2.2.1<=8)(X:1048577<K) :
  ∃ to:Int,Q90.f K (n,())=some ((to,()),())/\((to=-1/\∀ k,k<8->¬ iK n k)\/∃ k,k<8/\iK n k/\(∀ j,j<k->¬ iK n j)/\to=cQ n k):=by
 have u:∀ k:Nat,k<8->wr .i64 (n.2.2.2.2.2.2.2.1+(k:Int))=n.2.2.2.2.2.2.2.1+(k:Int):=λk M=>aC (by omega) (by omega)
 have:=cG (step:=λrec a=>Q90.s0 K (n,()) rec a) 8 (λi=>(i:Int)) (iK n) (some ((-1,()),())) (λj=>some ((cQ n j,()),())) ?_ ?_ 8 K 0 (by omega) (by omega)
 ·rcases this with ⟨y,z⟩|⟨j,_,y,O,R,z⟩
  ·exact⟨-1,z,.inl ⟨rfl,λk M=>y k (F5 _) M⟩⟩
  ·exact⟨_,z,.inr ⟨j,y,O,λm Z=>R m (F5 _) Z,rfl⟩⟩
 ·intro rec i Y;simp only[Q90.s0];rw[decide_eq_true (by omega:(i:Int)<=7),u i Y,ar i (by omega)];simp only[cond_true];show (¬ iK n i/\(bif cQ n i != n.1 then ((Q86.f K (aa.table n,cQ n i,())).bind λJ=>bif J.1.1 then (some ((cQ n i,()),())) else (rec ((i+1:Nat):Int))) else (rec ((i+1:Nat):Int)))=rec ((i+1:Nat):Int))\/(iK n i/\(bif cQ n i != n.1 then ((Q86.f K (aa.table n,cQ n i,())).bind λJ=>bif J.1.1 then (some ((cQ n i,()),())) else (rec ((i+1:Nat):Int))) else (rec ((i+1:Nat):Int)))=some ((cQ n i,()),()));rw[uh K (aa.table n) (cQ n i) h.table h.lt X];by_cases r:cQ n i=n.1
  ·exact .inl ⟨λH=>H.1 r,by rw[show (cQ n i != n.1)=false by simpa using r];rfl⟩
  ·rw[show (cQ n i != n.1)=true by simpa using r];cases I:eZ (aT (aa.table n) (cQ n i)) with
   |true=>exact .inr ⟨⟨r,I⟩,rfl⟩
   |false=>exact .inl ⟨λH=>(by rw[H.2]at I;cases I),rfl⟩
 ·intro rec;simp only[Q90.s0];rfl
abbrev mr:=Int×ByteArray×Bool
abbrev bY:=List aa×List mr×List Int×List ah
abbrev bY.radio (w:bY):List mr:=w.2.1
abbrev bY.sides (w:bY):List Int:=w.2.2.1
abbrev bY.born (w:bY):List ah:=w.2.2.2
theorem jO {n:Int}(h:InP n 0 7):ak n=n / 4:=by
 obtain⟨r,u⟩:=h;unfold ak;rw[GG r,aC (by omega) (by omega)]
theorem BJ {α:Type}{k:α->Int}{xs:List α}(h:Asc k xs):∀ i (r:i<xs.length),k (xs[0]'(by omega))+i<=k xs[i]:=by
 rw[it]at h;intro i;induction i with
 |zero=>intro r;simp
 |succ i y =>
  intro r;have z:=y (by omega);have u:=h (i+1) r (by omega);simp only[Nat.add_sub_cancel]at u;omega
theorem vK {t:List ah}{s:Int}(u:aE t)(z:cn t s):t.length<=4:=by
 cases h:t.length with
 |zero=>omega
 |succ m =>
  have r:m<t.length:=by omega
  have y:0<t.length:=by omega
  have O:=BJ u.2 m r;have H:=z _ (FM r);have I:=z _ (FM y);have J:=(u.1 _ (FM r)).1;have M:=(u.1 _ (FM y)).1;rw[jO J]at H;rw[jO M]at I;omega
theorem uq {z:Int}{l:List ch}(u:InP z 0 7)(h:dn z l):l=[]\/∃ x,l=[x]:=by
 match l,h with
 |[],_=>exact .inl rfl
 |[x],_=>exact .inr ⟨x,rfl⟩
 |x::y::r,h =>
  exfalso;have J:=h.1 x (by simp);have M:=h.1 y (by simp);have Z:x.1<y.1:=by
   have:=h.2;unfold Asc at this;rw[F7]at this;exact this.1 y (by simp)
  have e:=jO u;obtain⟨⟨O,R⟩,H,_⟩:=J;obtain⟨⟨X,Y⟩,I,_⟩:=M;obtain⟨m1,m2⟩:=u;rw[e]at H I;omega
theorem mt {a:Int}{m:Nat}(u:m<4611686018427387904):0<=bz .i64 a (m:Int)/\bz .i64 a (m:Int)<=m:=by
 have h:(BitVec.ofInt 64 a &&& BitVec.ofInt 64 (m:Int)).toNat<=m:=by
  rw[BitVec.toNat_and];refine GA Nat.and_le_right ?_;rw[BitVec.toNat_ofInt];omega
 show 0<=IntKind.i64.wrap (((BitVec.ofInt 64 a &&& BitVec.ofInt 64 (m:Int)).toNat:Nat):Int)/\IntKind.i64.wrap (((BitVec.ofInt 64 a &&& BitVec.ofInt 64 (m:Int)).toNat:Nat):Int)<=m;generalize (BitVec.ofInt 64 a &&& BitVec.ofInt 64 (m:Int)).toNat=r at h ⊢;rw[HI];omega
def iu (g:List Int)(d:Int):Int:=g.getD (FL (GZ (bz .i64 d 255) (g.length:Int))) 0
theorem iY {g:List Int}{d:Int}(h:g≠[]):idx g (GZ (bz .i64 d 255) (g.length:Int))=some (iu g d)/\idx g ((FL (GZ (bz .i64 d 255) (g.length:Int)):Nat):Int)=some (iu g d)/\iu g d∈g:=by
 have I:0<g.length:=Gq.2 h;have u:=(mt (a:=d) (m:=255) (by omega)).1;have y:0<=GZ (bz .i64 d 255) (g.length:Int):=HN _ u;have z:GZ (bz .i64 d 255) (g.length:Int)<g.length:=HA _ (by omega);unfold iu;obtain⟨v,H⟩:=FP y;rw[H]at z ⊢;have r:v<g.length:=by omega
 rw[FN,af r,List.getD_eq_getElem?_getD,FV r];exact⟨rfl,rfl,FM r⟩
def m7 (n:aa)(r d:Int):Int :=
 bif decide (gr (fg (aa.others n) r)≠[])&&bz .i64 d 4==0 then iu (gr (fg (aa.others n) r)) (GM d (2 ^ 3)) else r*4+bz .i64 (GM d (2 ^ 3)) 3
structure o7 (n:aa):Prop where
 short:(aa.others n).length<=1
 table:∀ x∈aa.others n,aE x.2/\x.2.length<=1048576
theorem CA {r d:Int}(z:0<=r)(H:r<=1):wr .i64 (wr .i64 (r*4)+bz .i64 (GM d (2 ^ 3)) 3)=r*4+bz .i64 (GM d (2 ^ 3)) 3:=by
 obtain⟨u,y⟩:=mt (a:=GM d (2 ^ 3)) (m:=3) (by omega);have u:0<=bz .i64 (GM d (2 ^ 3)) 3:=u;have y:bz .i64 (GM d (2 ^ 3)) 3<=3:=y;rw[aC (n:=r*4) (by omega) (by omega),aC (by omega) (by omega)]
theorem far_s (K:Nat)(n:aa)(r d:Int)(h:o7 n)(J:0<=r)(M:r<=1)(O:1048577<K):Q95.f K (n,r,d,())=some ((m7 n r d,()),()):=by
 obtain⟨k,rfl⟩:∃ k,K=k+2:=⟨K-2,by omega⟩;show Q95.s0 (k+2) (n,r,d,()) (ae (λrec a=>Q95.s0 (k+2) (n,r,d,()) rec a) (k+1)) 0=_;have y:∀ (rec:Int->Option ((Int×Unit)×Unit)) (a:Int),¬ a<(aa.others n).length->Q95.s0 (k+2) (n,r,d,()) rec a=some ((r*4+bz .i64 (GM d (2 ^ 3)) 3,()),()):=by
  intro rec a R;simp only[Q95.s0];rw[show decide (a<(FK n.2.2.2.2.2.2.2.2.2.2.2.2.2.2:Int))=false from decide_eq_false R,CA J M];rfl
 match z:aa.others n with
 |[] =>
  rw[y _ _ (by rw[z];simp),m7,z];rfl
 |[x] =>
  have X:=h.table x (by rw[z];simp);have u:ae (λrec a=>Q95.s0 (k+2) (n,r,d,()) rec a) (k+1) 1=some ((r*4+bz .i64 (GM d (2 ^ 3)) 3,()),()):=y _ _ (by rw[z];simp);generalize ae (λrec a=>Q95.s0 (k+2) (n,r,d,()) rec a) (k+1)=rec at u ⊢;simp only[Q95.s0];rw[show decide ((0:Int)<(FK n.2.2.2.2.2.2.2.2.2.2.2.2.2.2:Int))=true from decide_eq_true (by show (0:Int)<((aa.others n).length:Int);rw[z];simp),show idx n.2.2.2.2.2.2.2.2.2.2.2.2.2.2 (0:Int)=some x by show idx (aa.others n) (0:Int)=some x;rw[z];rfl,show wr .i64 ((0:Int)+1)=1 from rfl];simp only[cond_true,FJ,u];rw[m7,z];cases I:x.1==r with
  |false =>
   simp only[cond_false,fg,G1,I,List.find?_nil];rfl
  |true =>
   simp only[cond_true,fg,G1,I,HL,HH];rw[wh (k+2) x.2 X.2 O];simp only[FJ];by_cases H:gr x.2=[]
   ·rw[H];rfl
   ·have Y:0<(gr x.2).length:=Gq.2 H;rw[decide_eq_true H,decide_eq_true (by omega:((gr x.2).length:Int)>0)];simp only[cond_true,GL];cases bz .i64 d 4==0 with
    |false=>rfl
    |true =>
     simp only[cond_true];rw[decide_eq_false (by omega:¬ ((gr x.2).length:Int)=0),(iY H).1,(iY H).2.1];rfl
 |_::_::_=>exact absurd h.short (by rw[z];simp)
def mu (n:aa):Bool:=decide (n.1∈gr (aa.table n))
theorem Al (K:Nat)(n:aa)(R:(aa.table n).length<=1048576)(J:1048577<K):Q94.f K (n,())=rb (mu n):=by
 simp only[Q94.f,Q94.pre];rw[show Q93.f K (n.2.2.2.2.2.2.2.2.1,2,())=_ from wh K (aa.table n) R J];simp only[FJ];have M:=yu (aa.table n);unfold mu;generalize gr (aa.table n)=g at M ⊢;have:=cG (step:=λrec a=>Q94.s0 K (n,()) rec a) g.length (λi=>(g,(i:Int))) (λj=>∃ h:j<g.length,g[j]=n.1) (rb false) (λ_=>rb true) ?_ ?_ g.length K 0 (by omega) (by omega)
 ·rcases this with ⟨y,u⟩|⟨j,_,y,⟨H,I⟩,_,u⟩
  ·rw[decide_eq_false (λO=>by
    obtain⟨i,r,e⟩:=FS O;exact y i (F5 _) r ⟨r,e⟩)]
   exact u
  ·rw[decide_eq_true (I ▸ FM H:n.1∈g)];exact u
 ·intro rec i r;simp only[Q94.s0];rw[bt (by omega:(i:Int)<(FK g:Int)),af r,ar i (by omega),FN,af r];simp only[cond_true,FJ];by_cases h:g[i]=n.1
  ·exact .inr ⟨⟨r,h⟩,by rw[show (g[i]==n.1)=true by simpa using h];rfl⟩
  ·exact .inl ⟨λ⟨_,z⟩=>h z,by rw[show (g[i]==n.1)=false by simpa using h];rfl⟩
 ·intro rec;simp only[Q94.s0,aS];rfl
def wanW (n:aa)(d r:Int):aj:=(2,(oY 6 n (m7 n r d)).2)
def m8 (n:aa)(d:Int):List aj:=bif mu n then (([0,1]:List Int).filter (λs=>s != ak n.1)).map (wanW n d) else []
theorem wan_s (K:Nat)(n:aa)(d:Int)(h:o7 n)(y:(aa.table n).length<=1048576)(u:1048577<K):Q96.f K (n,d,())=some ((m8 n d,()),()):=by
 simp only[Q96.f,Q96.pre];rw[Al K n y u];simp only[FJ,m8];cases mu n with
 |false=>rfl
 |true =>
  simp only[FO,cond_false,cond_true];refine rH (step:=λrec a=>Q96.s0 K (n,d,()) rec a) ([0,1]:List Int) (λs=>s != ak n.1) (wanW n d) (λr i=>(r,(i:Int))) (λM=>some ((M,()),())) ?_ ?_ (by simp;omega)
  ·intro rec r i H z;have I:i<2:=H;have J:([0,1]:List Int)[i]=(i:Int):=by
    have:i=0\/i=1:=by omega
    rcases this with rfl|rfl <;> rfl
   simp only[Q96.s0,J];rw[decide_eq_true (by omega:(i:Int)<=1),ar i (by omega),de K n.1];simp only[cond_true,FJ];cases (i:Int) != ak n.1 with
   |false=>rfl
   |true =>
    simp only[cond_true];rw[far_s K n (i:Int) d h (by omega) (by omega) u];simp only[FJ];refine (congrArg (λo=>FQ o _) (oZ K n 6 (m7 n (i:Int) d) y)).trans ?_;simp only[FJ];rw[szw _ _ _ (by omega) (by simp;omega)];rfl
  ·intro rec r z;simp only[Q96.s0];rfl
def ur (n:aa)(f:ah):Bool:=f.2.2.1 != 4&&f.1 != n.1
def fW (n:aa):List Int:=((aa.table n).filter (ur n)).map (·.1)
def ut (n:aa)(to:Int):List aj:=match aa.others n with
 |[]=>[]
 |x::_=>[(1,6,n.1,to,0,n.1,aa.coord n,x.2)]
def kR (n:aa)(r:Int):List aj :=
 bif bz .i64 r 3==1 then m8 n (GM r (2 ^ 2)) else
 bif bz .i64 r 3==3||decide (fW n=[]) then [] else
 bif bz .i64 r 3==0 then [oY 4 n (iu (fW n) (GM r (2 ^ 2)))] else ut n (iu (fW n) (GM r (2 ^ 2)))
theorem and3 (a:Int):bz .i64 a 3=0\/bz .i64 a 3=1\/bz .i64 a 3=2\/bz .i64 a 3=3:=by
 obtain⟨r,u⟩:=mt (a:=a) (m:=3) (by omega);have r:0<=bz .i64 a 3:=r;have u:bz .i64 a 3<=3:=u;omega
theorem yJ {n:aa}(r:aE (aa.table n)){v:Int}(y:v∈fW n):0<=v:=by
 obtain⟨f,u,rfl⟩:=F8.1 y;exact (r.1 f (FR.1 u).1).1.1
theorem CB (K:Nat)(n:aa)(d:Int)(M:(aa.table n).length<=1048576)(H:1048577<K):Q92.f K (n,d,())=some ((bif decide (fW n=[]) then -1 else iu (fW n) d,()),()):=by
 refine (wY (step:=λrec a=>Q92.s0 K (n,d,()) rec a) (aa.table n) (ur n) (λf=>f.1) (λy=>some ((bif decide (y=[]) then -1 else iu y d,()),())) ?_ ?_ (by omega)).trans rfl
 ·intro rec r i z I;simp only[Q92.s0];rw[show decide ((i:Int)<(FK n.2.2.2.2.2.2.2.2.1:Int))=true from bt (by omega:(i:Int)<(FK (aa.table n):Int)),show idx n.2.2.2.2.2.2.2.2.1 (i:Int)=some (aa.table n)[i] from af z,ar i (by omega)];simp only[cond_true,FJ,ur];rw[szb _ _ _ (by omega) (by simp;omega)];cases (aa.table n)[i].1 != n.1 <;> cases (aa.table n)[i].2.2.1 != 4 <;> rfl
 ·intro rec r _;simp only[Q92.s0];rw[show decide ((FK (aa.table n):Int)<(FK n.2.2.2.2.2.2.2.2.1:Int))=false from aS _];simp only[cond_false];by_cases u:r=[]
  ·subst u;rfl
  ·have J:0<r.length:=Gq.2 u;rw[show ((r.length:Int)==0)=false by simp;exact u,decide_eq_false (by omega:¬ (r.length:Int)=0),decide_eq_false u,(iY u).1,(iY u).2.1];rfl
theorem CC (K:Nat)(n:aa)(r:Int)(h:o7 n)(J:aE (aa.table n))(H:(aa.table n).length<=1048576)(I:1048577<K):Q97.f K (n,r,())=some ((kR n r,()),()):=by
 simp only[Q97.f];rw[CB K n _ H I];simp only[FJ];rw[wan_s K n _ h H I];simp only[FJ,kR];by_cases u:fW n=[]
 ·rw[decide_eq_true u];simp only[cond_true,HR,show decide ((-1:Int)>=0)=false from rfl,cond_false];rcases and3 r with e|e|e|e <;> rw[e] <;> rfl
 ·have O:=yJ J (iY (d:=GM r (2 ^ 2)) u).2.2;rw[decide_eq_false u];simp only[cond_false,Bool.or_false];rw[decide_eq_true (by omega:iu (fW n) (GM r (2 ^ 2))>=0)];simp only[cond_true];rw[show Q22.f K (n,4,iu (fW n) (GM r (2 ^ 2)),0,n.1,n.2.2.2.2.2.2.2.2.1,())=_ from oZ K n 4 _ H];simp only[FJ];rcases and3 r with e|e|e|e
  ·rw[e];rfl
  ·rw[e];rfl
  ·rw[e];simp only[show ((2:Int)==0)=false from rfl,show ((2:Int)==1)=false from rfl,show ((2:Int)==2)=true from rfl,show ((2:Int)==3)=false from rfl,cond_false,cond_true];unfold ut
   match y:aa.others n with
   |[] =>
    rw[show decide ((FK n.2.2.2.2.2.2.2.2.2.2.2.2.2.2:Int)>0)=false by show decide (((aa.others n).length:Int)>0)=false;rw[y];rfl];rfl
   |[x] =>
    have M:=h.table x (by rw[y];simp);have z:(aa.others n).length=1:=by rw[y];rfl
    rw[show decide ((FK n.2.2.2.2.2.2.2.2.2.2.2.2.2.2:Int)>0)=true by show decide (((aa.others n).length:Int)>0)=true;rw[z];rfl,show decide ((FK n.2.2.2.2.2.2.2.2.2.2.2.2.2.2:Int)=0)=false by show decide (((aa.others n).length:Int)=0)=false;rw[z];rfl];simp only[cond_true,cond_false];rw[show idx n.2.2.2.2.2.2.2.2.2.2.2.2.2.2 (GZ (bz .i64 (GM r (2 ^ 10)) 255) (FK n.2.2.2.2.2.2.2.2.2.2.2.2.2.2:Int))=some x by
     show idx (aa.others n) (GZ (bz .i64 (GM r (2 ^ 10)) 255) ((aa.others n).length:Int))=some x;rw[z,y,show ((1:Nat):Int)=1 from rfl,Int.tmod_one];rfl]
    simp only[FJ,Q22.f];rw[szb _ _ _ (by omega) (by have:=M.2;simp;omega)];rfl
   |_::_::_=>exact absurd h.short (by rw[y];simp)
  ·rw[e];rfl
def rk (f:ah):Int:=f.2.1*16+f.2.2.1*2+(if f.2.2.2=true then 1 else 0)
theorem rM {f g:ah}(r:bw f)(u:bw g):bP f g<->rk g<rk f:=by
 obtain⟨_,_,y,z⟩:=r;obtain⟨_,_,H,I⟩:=u;unfold bP rk;by_cases a:f.2.1=g.2.1
 ·rw[if_neg (by simpa using a)];by_cases c:f.2.2.1=g.2.2.1
  ·rw[if_neg (by simpa using c),a,c];cases f.2.2.2 <;> cases g.2.2.2 <;> simp <;> omega
  ·rw[if_pos c];cases f.2.2.2 <;> cases g.2.2.2 <;> simp <;> omega
 ·rw[if_pos a];cases f.2.2.2 <;> cases g.2.2.2 <;> simp <;> omega
theorem pt {t:List ah}(H:Asc (λg:ah=>g.1) t)(f:ah):bZ t f=(t,false)\/(bZ t f=(bD (λg=>g.1) f t,true)/\∀ g∈t,g.1=f.1->bP f g):=by
 by_cases h:∃ g∈t,g.1=f.1
 ·obtain⟨g,r,e⟩:=h;obtain⟨i,J,rfl⟩:=FS r;rw[k7 H J e];by_cases y:bP f t[i]
  ·rw[if_pos y];refine .inr ⟨rfl,λM u I=>?_⟩;rw[iT H u r (by rw[e,I])];exact y
  ·rw[if_neg y];exact .inl rfl
 ·have z:∀ g∈t,g.1≠f.1:=λg r e=>h ⟨g,r,e⟩
  exact .inr ⟨iU z,λg r e=>absurd e (z g r)⟩
theorem pu {n:aa}(R:aE (aa.table n)):jj n<->(∀ d∈aa.doubts n,mn n d)/\Asc (λd:bV=>d.1) (aa.doubts n)/\∀ f∈aa.table n,f.2.2.1=2->∃ d∈aa.doubts n,d.1=f.1:=by
 have M:((aW (aa.table n)).map (λf:ah=>f.1)).Pairwise (·<·):=by
  rw[GD];exact GY _ R.2
 constructor
 ·rintro⟨h1,h2,h3⟩;refine⟨h1,h2,λf H u=>?_⟩;have r:((aa.doubts n).map (λd:bV=>d.1)).Pairwise (·<·):=by rw[GD];exact h2
  have:=(jL _ _ r M (λx y=>by
   obtain⟨d,r,rfl⟩:=F8.1 y;obtain⟨⟨g,J,e,z,_⟩,_⟩:=h1 d r;exact F8.2 ⟨g,FR.2 ⟨J,by simpa using z⟩,e⟩)).2 (by rw[F2,F2,h3])
  have O:f.1∈(aW (aa.table n)).map (λf:ah=>f.1):=F8.2 ⟨f,FR.2 ⟨H,by simpa using u⟩,rfl⟩;rw[<- this]at O;obtain⟨d,r,e⟩:=F8.1 O;exact⟨d,r,e⟩
 ·rintro⟨h1,h2,h3⟩;refine⟨h1,h2,?_⟩;have r:((aa.doubts n).map (λd:bV=>d.1)).Pairwise (·<·):=by rw[GD];exact h2
  have X:=(jL _ _ r M (λx y=>by
   obtain⟨d,r,rfl⟩:=F8.1 y;obtain⟨⟨g,J,e,z,_⟩,_⟩:=h1 d r;exact F8.2 ⟨g,FR.2 ⟨J,by simpa using z⟩,e⟩)).1
  have Y:=(jL _ _ M r (λx y=>by
   obtain⟨f,H,rfl⟩:=F8.1 y;obtain⟨I,u⟩:=FR.1 H;obtain⟨d,r,e⟩:=h3 f I (by simpa using u);exact F8.2 ⟨d,r,e⟩)).1
  rw[F2,F2]at X Y;omega
def cg (n:aa):Int:=n.2.2.2.2.2.1
def fX (n:aa)(b:Int):Prop:=InP b 0 7/\ak b=ak n.1
theorem pv {n:aa}(r:Asc (λg:ah=>g.1) (aa.table n))(f:ah)(b:Int):sayOf n f b=n \/
  (sayOf n f b=gG n (bD (λg=>g.1) f (aa.table n)) (dF (aa.cast n) f) (bif kI n f then aa.doubts n else cZ (cg n) (aa.doubts n) f b)/\∀ g∈aa.table n,g.1=f.1->bP f g):=by
 rcases pt r f with h|⟨h,u⟩
 ·left;unfold sayOf;rw[h];rfl
 ·right;refine⟨?_,u⟩;unfold sayOf;rw[h];rfl
theorem xj {n:aa}{f:ah}{b:Int}(Y:aE (aa.table n))(hD:jj n)(hf:bw f)(hb:fX n b)(hn:0<=cg n)(c:List aO) :
  jj (gG n (bD (λg=>g.1) f (aa.table n)) c (bif kI n f then aa.doubts n else cZ (cg n) (aa.doubts n) f b)):=by
 obtain⟨h1,h2,h3⟩:=(pu Y).1 hD;have a0:aE (bD (λg:ah=>g.1) f (aa.table n)):=⟨λg y=>by
  rcases bd.1 y with rfl|⟨y,_⟩
  ·exact hf
  ·exact Y.1 g y,fI Y.2⟩
 refine (pu (n:=gG n _ c _) a0).2 ?_;have J:∀ d∈aa.doubts n,d.1≠f.1->∀ ds,mn (gG n (bD (λg:ah=>g.1) f (aa.table n)) c ds) d:=λd z u ds=>by
  obtain⟨⟨g,y,O,R,X⟩,r⟩:=h1 d z;exact⟨⟨g,bd.2 (.inr ⟨y,by rw[O];exact u⟩),O,R,X⟩,r⟩
 have I:∀ g∈bD (λg:ah=>g.1) f (aa.table n),g.1≠f.1->g.2.2.1=2->∃ d∈aa.doubts n,d.1=g.1:=λg y u h=>by
  rcases bd.1 y with rfl|⟨y,_⟩
  ·exact absurd rfl u
  ·exact h3 g y h
 cases hs:kI n f with
 |true =>
  obtain⟨g0,M,s1,s2,s3⟩:=of_decide_eq_true hs;refine⟨λd z=>?_,h2,λg y h=>?_⟩
  ·by_cases u:d.1=f.1
   ·obtain⟨⟨g,y,O,R,X⟩,r⟩:=h1 d z;rw[iT Y.2 y M (by rw[O,s1,u])]at R X;exact⟨⟨f,bd.2 (.inl rfl),u.symm,by rw[<- s3];exact R,by rw[<- s2];exact X⟩,r⟩
   ·exact J d z u _
  ·by_cases u:g.1=f.1
   ·have a1:g=f:=by
     rcases bd.1 y with h|⟨_,h⟩
     ·exact h
     ·exact absurd u h
    rw[a1]at h ⊢;obtain⟨d,z,e⟩:=h3 g0 M (by rw[s3];exact h);exact⟨d,z,by rw[e,s1]⟩
   ·exact I g y u h
 |false =>
  by_cases H:f.2.2.1=2
  ·have e:cZ (cg n) (aa.doubts n) f b=bD (λd=>d.1) (mkD (cg n) f b) (aa.doubts n):=by unfold cZ;rw[if_pos H]
   simp only[cond_false];rw[e];refine⟨λd z=>?_,fI h2,λg y h=>?_⟩
   ·rcases bd.1 z with rfl|⟨z,u⟩
    ·exact⟨⟨f,bd.2 (.inl rfl),rfl,H,rfl⟩,⟨hn,GE _⟩,List.cons_ne_nil _ _,λx hx=>by rw[F9.1 hx];exact hb,Gy _ _⟩
    ·exact J d z u _
   ·by_cases u:g.1=f.1
    ·exact⟨mkD (cg n) f b,bd.2 (.inl rfl),u.symm⟩
    ·obtain⟨d,z,e⟩:=I g y u h;exact⟨d,bd.2 (.inr ⟨z,λe'=>u (e.symm.trans e')⟩),e⟩
  ·have e:cZ (cg n) (aa.doubts n) f b=(aa.doubts n).filter (λd=>!(d.1==f.1)):=by unfold cZ;rw[if_neg H]
   simp only[cond_false];rw[e];refine⟨λd z=>?_,mU h2 _,λg y h=>?_⟩
   ·obtain⟨z,u⟩:=FR.1 z;exact J d z (by simpa using u) _
   ·have u:g.1≠f.1:=λu=>by
     rcases bd.1 y with Z|⟨_,Z⟩
     ·rw[Z]at h;exact H h
     ·exact Z u
    obtain⟨d,z,e⟩:=I g y u h;exact⟨d,FR.2 ⟨z,by rw[e];simpa using u⟩,e⟩
theorem xk {n:aa}{f:ah}(R:aE (aa.table n))(O:da (aa.cast n))(X:iD (aa.table n) (aa.cast n))(M:bw f)(Y:∀ g∈aa.table n,g.1=f.1->bP f g) :
  iD (bD (λg=>g.1) f (aa.table n)) (dF (aa.cast n) f):=by
 have I:∀ x∈aa.cast n,∃ g∈bD (λg:ah=>g.1) f (aa.table n),g.1=x.1.1/\¬ bP x.1 g:=λx r=>by
  obtain⟨g,J,e,z⟩:=X x r;by_cases u:g.1=f.1
  ·refine⟨f,bd.2 (.inl rfl),by rw[<- e,u],λh=>z ?_⟩;have H:=(O.1 x r).1;have y:=R.1 g J;have:=Y g J u;rw[rM M y]at this;rw[rM H M]at h;rw[rM H y];omega
  ·exact⟨g,bd.2 (.inr ⟨J,u⟩),e,z⟩
 intro x r;unfold dF at r;split at r
 ·exact I x r
 ·rcases bd.1 r with rfl|⟨r,_⟩
  ·exact⟨f,bd.2 (.inl rfl),rfl,yI f⟩
  ·exact I x r
structure UpX (n:aa):Prop where
 me:InP n.1 0 7
 now0:0<=cg n
 table:aE (aa.table n)
 site:cn (aa.table n) (ak n.1)
 cast:da (aa.cast n)
 vs:iD (aa.table n) (aa.cast n)
 probe:dm n
 doubts:jj n
 coord:bX (aa.coord n)
 places:eT n.1 (aa.places n)
 others:dn n.1 (aa.others n)
theorem UpX.of {n:aa}(h:UpP n)(X:InP n.1 0 7)(z:0<=cg n):UpX n:=by
 obtain⟨O,M,_,⟨H,R⟩,J,I,r,y,u⟩:=h;exact⟨X,z,O,M,H,R,J,I,r,y,u⟩
theorem UpX.up {n:aa}(h:UpX n)(r:dt n):UpP n:=⟨h.table,h.site,r,⟨h.cast,h.vs⟩,h.probe,h.doubts,h.coord,h.places,h.others⟩
theorem UpX.say {n:aa}(h:UpX n):cH n:=by
 refine cH.mk' h.table h.cast h.doubts.2.1 λd r=>?_
 obtain⟨f,u,e,_⟩:=(h.doubts.1 d r).1;rw[<- e];exact (h.table.1 f u).1
theorem fX.me {n:aa}(h:InP n.1 0 7):fX n n.1:=⟨h,rfl⟩
theorem sw {n m:aa}(h:dm n)(J:m.1=n.1)(O:aa.probe m=aa.probe n)(X:∀ g∈aa.table n,∃ r∈aa.table m,r.1=g.1)(M:cg n<=cg m)(R:n.2.2.2.2.2.2.1<=m.2.2.2.2.2.2.1):dm m:=by
 unfold dm at h ⊢;rw[O,J];split at h
 ·rename_i u;rw[if_pos u];exact h
 ·rename_i u;rw[if_neg u];obtain⟨Y,⟨g,I,H⟩,⟨Z,p3⟩,⟨p4,p5⟩⟩:=h;obtain⟨r,y,z⟩:=X g I;exact⟨Y,⟨r,y,z.trans H⟩,⟨Z,Gi p3 M⟩,⟨p4,Gi p5 R⟩⟩
theorem UpX.said {n:aa}{f:ah}{b:Int}(h:UpX n)(u:bw f)(I:ak f.1=ak n.1)(z:fX n b):UpX (sayOf n f b):=by
 rcases pv h.table.2 f b with e|⟨e,H⟩
 ·rw[e];exact h
 ·have y:=λg r=>kk (n:=n) (f:=f) (b:=b) (g:=g) r
  rw[e]at y ⊢;refine⟨h.me,h.now0,⟨λg r=>?_,fI h.table.2⟩,λg r=>?_,qK h.cast u,xk h.table h.cast h.vs u H,sw h.probe rfl rfl y (GE _) (GE _),xj h.table h.doubts u z h.now0 _,h.coord,h.places,h.others⟩
  ·rcases bd.1 r with rfl|⟨r,_⟩
   ·exact u
   ·exact h.table.1 g r
  ·rcases bd.1 r with rfl|⟨r,_⟩
   ·exact I
   ·exact h.site g r
theorem yK {n:aa}(u:Asc (λg:ah=>g.1) (aa.table n)){f g:ah}{b:Int}(r:g.1≠f.1):g∈aa.table (sayOf n f b)<->g∈aa.table n:=by
 rcases pv u f b with e|⟨e,_⟩
 ·rw[e]
 ·rw[e];exact bd.trans ⟨λh=>h.elim (λh=>absurd (by rw[h]) r) (·.1),λh=>.inr ⟨h,r⟩⟩
theorem sx {n:aa}(y:Asc (λg:ah=>g.1) (aa.table n)){f:ah}{b:Int}(h:∀ g∈aa.table n,g.1=f.1->bP f g):f∈aa.table (sayOf n f b):=by
 have I:bZ (aa.table n) f=(bD (λg=>g.1) f (aa.table n),true):=by
  rcases pt y f with e|⟨e,_⟩
  ·by_cases z:∃ g∈aa.table n,g.1=f.1
   ·obtain⟨g,r,u⟩:=z;obtain⟨i,H,rfl⟩:=FS r;rw[k7 y H u,if_pos (h _ r u)]
   ·exact iU λg r e=>z ⟨g,r,e⟩
  ·exact e
 unfold Go.Proofs.YtmibehbhnkeaiaaGreatEv.sayOf;rw[I];exact bd.2 (.inl rfl)
def OnN (n m:aa):Prop:=∃ t c r,m=gG n t c r
theorem OnN.refl (n:aa):OnN n n:=⟨_,_,_,rfl⟩
theorem OnN.say {n m:aa}(h:OnN n m)(f:ah)(b:Int):OnN n (Go.Proofs.YtmibehbhnkeaiaaGreatEv.sayOf m f b):=by
 obtain⟨t,c,y,rfl⟩:=h;obtain⟨z,u,r,e,_⟩:=jm (gG n t c y) f b;exact⟨z,u,r,e⟩
def m9 (n:aa):ah:=(n.1,n.2.2.2.2.1,(if n.2.2.1=true then 4 else 1),n.2.2.2.1)
theorem qc {n m:aa}(J:Asc (λg:ah=>g.1) (aa.table m))(y:OnN n m){f:ah}{b:Int}(r:f.1≠n.1)(h:dt m):dt (sayOf m f b):=by
 obtain⟨t,c,O,e⟩:=y.say f b;obtain⟨R,M,z,H⟩:=y;have I:m9 n∈aa.table m:=by rw[H]at h ⊢;exact h
 have u:=(yK J (f:=f) (b:=b) (g:=m9 n) (λh=>r h.symm)).2 I;rw[e]at u ⊢;exact u
theorem Am {n:aa}(h:UpX n)(I:dt n){d:bV}(y:d∈aa.doubts n):d.1≠n.1:=by
 obtain⟨⟨g,z,e,r,_⟩,_⟩:=h.doubts.1 d y;intro H;have u:m9 n∈aa.table n:=I;have:=iT h.table.2 z u (by rw[e,H];rfl);rw[this]at r;revert r;show (if n.2.2.1=true then (4:Int) else 1)=2->False;split <;> omega
theorem nZ {n:aa}(h:UpX n)(hs:dt n):UpX (la n)/\dt (la n)/\OnN n (la n):=by
 have:=mW (st:=iW) (Inv:=λm=>(UpX m/\dt m/\OnN n m)/\∀ g∈aa.table n,∃ z∈aa.table m,z.1=g.1) (ds:=aa.doubts n) (n:=n) ⟨⟨h,hs,OnN.refl n⟩,λg u=>⟨g,u,rfl⟩⟩ ?_
 ·exact this.1
 ·rintro m d Z ⟨⟨r,y,X⟩,M⟩;have R:=Am h hs Z;unfold iW;cases rI m.2.2.2.2.2.1 d.2.2.1 d.2.2.2.length with
  |false=>exact⟨⟨r,y,X⟩,M⟩
  |true =>
   obtain⟨⟨g,u,e,_⟩,_⟩:=h.doubts.1 d Z;obtain⟨z,H,e'⟩:=M g u;obtain⟨h1,h2,h3⟩:=eP r.table ⟨z,H,e'.trans e⟩;have Y:ak (lx (aT (aa.table m) d.1)).1=ak m.1:=by
    show ak (aT (aa.table m) d.1).1=ak m.1;exact r.site _ h3
   have O:(lx (aT (aa.table m) d.1)).1≠n.1:=by rw[show (lx (aT (aa.table m) d.1)).1=_ from h2];exact R
   refine⟨⟨r.said (wk h1) Y (fX.me r.me),qc r.table.2 X O y,X.say _ _⟩,λg u=>?_⟩;obtain⟨g1,I,e1⟩:=M g u;obtain⟨g2,J,e2⟩:=kk (f:=lx (aT (aa.table m) d.1)) (b:=m.1) I;exact⟨g2,J,e2.trans e1⟩
theorem UpX.setProbe {n:aa}(h:UpX n){p:ah}(r:dm (setP n p)):UpX (setP n p):=⟨h.me,h.now0,h.table,h.site,h.cast,h.vs,r,h.doubts,h.coord,h.places,h.others⟩
theorem yL (n:aa):dm (setP n noP):=by
 unfold dm;exact (if_pos rfl).mpr rfl
theorem yM {n:aa}(h:UpX n)(H:dt n):UpX (dA n).1/\dt (dA n).1/\∃ p,OnN (setP n p) (dA n).1:=by
 have r:UpX n/\dt n/\∃ p,OnN (setP n p) n:=⟨h,H,aa.probe n,OnN.refl n⟩;have y:UpX (setP n noP):=h.setProbe (yL n);unfold dA;cases X:(aa.probe n).1==-1 with
 |true=>exact r
 |false =>
  have z:(aa.probe n).1≠-1:=by simpa using X
  have u:=h.probe;unfold dm at u;rw[if_neg z]at u;simp only[cond_false];cases R:eZ (aT (aa.table n) (aa.probe n).1) with
  |false=>exact⟨y,H,_,OnN.refl _⟩
  |true =>
   obtain⟨J,M,O⟩:=eP h.table (iG R);simp only[FO,cond_false];cases decide (n.2.2.2.2.2.1-(aa.probe n).2.1>=4) with
   |true =>
    simp only[cond_true];cases (aT (aa.table n) (aa.probe n).1).2.2.1==1 with
    |true =>
     have I:ak (qM (aT (aa.table n) (aa.probe n).1)).1=ak (setP n noP).1:=by
      show ak (aT (aa.table n) (aa.probe n).1).1=ak n.1;exact h.site _ O
     refine⟨y.said (BD J) I (fX.me (n:=setP n noP) h.me),qc (n:=setP n noP) (m:=setP n noP) h.table.2 (OnN.refl (setP n noP)) ?_ H,noP,(OnN.refl (setP n noP)).say _ _⟩;rw[show (qM (aT (aa.table n) (aa.probe n).1)).1=_ from M];exact u.1
    |false=>exact⟨y,H,_,OnN.refl _⟩
   |false =>
    simp only[cond_false];cases decide (n.2.2.2.2.2.1-(aa.probe n).2.1>=2) with
    |false=>exact r
    |true =>
     simp only[cond_true];cases (aa.probe n).2.2.2 with
     |true=>exact r
     |false =>
      refine⟨h.setProbe ?_,H,_,OnN.refl _⟩;show dm (mq n);unfold dm;rw[if_neg (show ¬ (aa.probe (mq n)).1=-1 from z)];exact u
def jA (n:aa):Option Int:=((List.range 8).map (cQ n)).find? λx=>x != n.1&&eZ (aT (aa.table n) x)
def kt (n:aa):Int:=n.2.2.2.2.2.2.1
def d9 (n:aa):aa×List aj:=bif decide (kt n>=999999) then (n,[]) else match jA n with
 |some to=>(D9 n to,[Ec n to])
 |none=>(n,[])
theorem sA {n:aa}{to:Int}(h:jA n=some to):to≠n.1/\eZ (aT (aa.table n) to)=true:=by
 have:=G3 h;simpa using this
theorem yN {l:List aO}{T:List Int}{x:aO}(h:x∈dM l T l.length):∃ y∈l,x.1=y.1:=by
 unfold dM at h;obtain⟨u,_⟩:=FR.1 h;obtain⟨i,r,rfl⟩:=FS u;rw[e9]at r;rw[fJ l T r];refine⟨l[i],FM r,?_⟩;unfold dY;rw[cJ r];cases decide ((i:Int)∈T) <;> rfl
theorem UpX.way {n:aa}(h:UpX n):UpX (jz n):=⟨h.me,h.now0,h.table,h.site,Ak h.cast _,λx H=>by
 obtain⟨y,I,e⟩:=yN H;obtain⟨g,z,r,u⟩:=h.vs y I;exact⟨g,z,by rw[e,r],by rw[e];exact u⟩,h.probe,h.doubts,h.coord,h.places,h.others⟩
structure uu (n:aa):Prop where
 seq:InP (kt n) 0 999999
 turn:InP n.2.2.2.2.2.2.2.1 0 8
theorem CD {n:aa}(h:UpX n)(z:dt n)(y:uu n):UpX (d9 n).1/\dt (d9 n).1/\uu (d9 n).1/\(d9 n).1.1=n.1/\cg (d9 n).1=cg n/\(d9 n).1.2.2.2.2.1=n.2.2.2.2.1:=by
 unfold d9;by_cases I:kt n>=999999
 ·rw[decide_eq_true I];exact⟨h,z,y,rfl,rfl,rfl⟩
 ·rw[decide_eq_false I];simp only[cond_false];cases X:jA n with
  |none=>exact⟨h,z,y,rfl,rfl,rfl⟩
  |some to =>
   obtain⟨u,R⟩:=sA X;obtain⟨M,H,O⟩:=eP h.table (iG R);obtain⟨⟨Y,Z⟩,_⟩:=y;have r:InP to 0 7:=H ▸ M.1;have J:=h.way;refine⟨⟨h.me,h.now0,h.table,h.site,J.cast,J.vs,?_,h.doubts,h.coord,h.places,h.others⟩,z,⟨⟨show 0<=kt n+1 by omega,show kt n+1<=999999 by omega⟩,show 0<=to+1 by have:=r.1;omega,show to+1<=8 by have:=r.2;omega⟩,rfl,rfl,rfl⟩;show dm (D9 n to);unfold dm;rw[if_neg (show ¬ (aa.probe (D9 n to)).1=-1 by have:=r.1;show ¬ to=-1;omega)];exact⟨u,⟨_,O,H⟩,⟨h.now0,GE _⟩,show 1<=kt n+1 by omega,GE _⟩
def eE (n:aa):aa:=(n.1,n.2.1,n.2.2.1,n.2.2.2.1,n.2.2.2.2.1,n.2.2.2.2.2.1+1,n.2.2.2.2.2.2)
def fY (m:aa):aa×List aj:=bif (aa.probe m).1==-1 then d9 m else (m,[])
def fZ (n:aa):aa×List aj:=dA (la (eE n))
def ly (n:aa):aa:=(fY (fZ n).1).1
def qP (n:aa)(r:Int):List aj:=(fZ n).2++(fY (fZ n).1).2++kR (ly n) r
theorem UpX.later {n:aa}(h:UpX n):UpX (eE n):=by
 have J:cg (eE n)=cg n+1:=rfl;have M:=h.now0;refine⟨h.me,by omega,h.table,h.site,h.cast,h.vs,sw h.probe rfl rfl (λg I=>⟨g,I,rfl⟩) (by omega) (GE _),⟨λd H=>?_,h.doubts.2⟩,h.coord,h.places,h.others⟩;obtain⟨r,⟨u,y⟩,z⟩:=h.doubts.1 d H;exact⟨r,⟨u,Gi y (show cg n<=cg (eE n) by omega)⟩,z⟩
structure UpN (n:aa):Prop where
 x:UpX n
 self:dt n
 now1:cg n<=999999
 seq:uu n
 inc:InP n.2.2.2.2.1 0 999
 up:n.2.1=true
theorem UpN.of {n:aa}(h:ff n)(y:n.2.1=true):UpN n:=by
 obtain⟨z,u,H,I,J,r⟩:=h;rw[if_pos y]at r;exact⟨UpX.of r z u.1,r.2.2.1,u.2,⟨H,I⟩,J,y⟩
theorem UpN.ok {n:aa}(h:UpN n):ff n:=⟨h.x.me,⟨h.x.now0,h.now1⟩,h.seq.seq,h.seq.turn,h.inc,by rw[if_pos h.up];exact h.x.up h.self⟩
theorem qQ {n:aa}(h:UpN n)(Z:cg n<999999):UpN (fZ n).1/\(fZ n).1.1=n.1/\(fZ n).1.2.2.1=n.2.2.1:=by
 have R:dt (eE n):=h.self;obtain⟨r,u,y⟩:=nZ h.x.later R;obtain⟨J,M,p,O⟩:=yM r u;obtain⟨t,c,Y,H⟩:=y;obtain⟨t',X,z,I⟩:=O;have e:(fZ n).1=_:=I;rw[H]at e;refine⟨⟨J,M,?_,⟨?_,?_⟩,?_,?_⟩,?_,?_⟩
 ·show cg (fZ n).1<=999999;rw[e];show cg n+1<=999999;omega
 ·show InP (kt (fZ n).1) 0 999999;rw[e];exact h.seq.seq
 ·show InP (fZ n).1.2.2.2.2.2.2.2.1 0 8;rw[e];exact h.seq.turn
 ·show InP (fZ n).1.2.2.2.2.1 0 999;rw[e];exact h.inc
 ·show (fZ n).1.2.1=true;rw[e];exact h.up
 ·rw[e];rfl
 ·rw[e];rfl
theorem uv {m:aa}:(d9 m).1.2.1=m.2.1/\(d9 m).1.2.2.1=m.2.2.1:=by
 unfold d9;cases decide (kt m>=999999) with
 |true=>exact⟨rfl,rfl⟩
 |false =>
  cases jA m with
  |none=>exact⟨rfl,rfl⟩
  |some to=>exact⟨rfl,rfl⟩
theorem xm {m:aa}(h:UpN m):UpN (fY m).1/\(fY m).1.1=m.1/\(fY m).1.2.2.1=m.2.2.1:=by
 unfold fY;cases (aa.probe m).1==-1 with
 |false=>exact⟨h,rfl,rfl⟩
 |true =>
  obtain⟨r,u,y,z,H,I⟩:=CD h.x h.self h.seq;refine⟨⟨r,u,?_,y,?_,?_⟩,z,uv.2⟩
  ·show cg (d9 m).1<=999999;rw[H];exact h.now1
  ·show InP (d9 m).1.2.2.2.2.1 0 999;rw[I];exact h.inc
  ·show (d9 m).1.2.1=true;rw[uv.1];exact h.up
theorem rN {n:aa}(h:UpN n)(J:cg n<999999):UpN (ly n)/\(ly n).1=n.1/\(ly n).2.2.1=n.2.2.1:=by
 obtain⟨r,u,y⟩:=qQ h J;obtain⟨z,H,I⟩:=xm r;exact⟨z,H.trans u,I.trans y⟩
theorem An {f g:ah}(h:g.2.1<f.2.1):bP f g:=by
 unfold bP;rw[if_pos (by omega)];exact h
theorem BK {f g:ah}(h:bP f g):g.2.1<=f.2.1:=by
 unfold bP at h;split at h <;> omega
theorem UpX.inc {n:aa}(h:UpX n)(i:Int):UpX (gZ n i):=⟨h.me,h.now0,h.table,h.site,h.cast,h.vs,h.probe,h.doubts,h.coord,h.places,h.others⟩
theorem sC {n:aa}(h:UpX n)(u:dt n){g:ah}(r:g∈aa.table n)(e:g.1=n.1):g=m9 n:=iT h.table.2 r u (by rw[e];rfl)
theorem yO {n:aa}(h:UpX n)(r:dt n):aT (aa.table n) n.1=m9 n:=ki h.table.2 (f:=m9 n) r
theorem Ao {n:aa}(h:UpN n)(H:n.2.2.1=false):UpN (nT n)/\(nT n).1=n.1:=by
 have z:bw (n.1,n.2.2.2.2.1,4,n.2.2.2.1):=⟨h.x.me,h.inc,show (1:Int)<=4 by omega,show (4:Int)<=4 by omega⟩;have r:=h.x.said z rfl (fX.me h.x.me);have y:(n.1,n.2.2.2.2.1,(4:Int),n.2.2.2.1)∈aa.table (sayOf n (n.1,n.2.2.2.2.1,4,n.2.2.2.1) n.1):=sx h.x.table.2 λg u e=>by
  rw[sC h.x h.self u e];unfold bP m9;rw[H];simp
 obtain⟨t,c,I,e⟩:=(OnN.refl n).say (n.1,n.2.2.2.2.1,4,n.2.2.2.1) n.1;unfold nT;rw[e]at r y ⊢;exact⟨⟨⟨r.me,r.now0,r.table,r.site,r.cast,r.vs,r.probe,r.doubts,r.coord,r.places,r.others⟩,y,h.now1,⟨h.seq.seq,h.seq.turn⟩,h.inc,h.up⟩,rfl⟩
theorem yP {n:aa}{f:ah}(h:UpN n)(u:n.2.2.1=false)(M:bw f):UpN (e8 n f)/\(e8 n f).1=n.1/\(e8 n f).2.2.1=false:=by
 unfold e8;cases z:decide (bP f (aT (aa.table n) n.1))&&decide (f.2.1<999) with
 |false=>exact⟨h,rfl,u⟩
 |true =>
  rw[GK,decide_eq_true_eq,decide_eq_true_eq,yO h.x h.self]at z;obtain⟨X,O⟩:=z;have R:n.2.2.2.2.1<=f.2.1:=BK X;have r:=rJ (n:=n) h.x.me M O;have I:UpX (sayOf (gZ n (f.2.1+1)) (n.1,f.2.1+1,1,n.2.2.2.1) n.1):=(h.x.inc (f.2.1+1)).said r rfl (fX.me (n:=gZ n (f.2.1+1)) h.x.me);have H:(n.1,f.2.1+1,(1:Int),n.2.2.2.1)∈aa.table (sayOf (gZ n (f.2.1+1)) (n.1,f.2.1+1,1,n.2.2.2.1) n.1):=sx (n:=gZ n (f.2.1+1)) h.x.table.2 λg y e=>by
   rw[sC h.x h.self y e];exact An (show n.2.2.2.2.1<f.2.1+1 by omega)
  obtain⟨t,c,J,e⟩:=(OnN.refl (gZ n (f.2.1+1))).say (n.1,f.2.1+1,1,n.2.2.2.1) n.1;simp only[cond_true];rw[show sayOf (gZ n (f.2.1+1)) (n.1,f.2.1+1,1,n.2.2.2.1) n.1=gG (gZ n (f.2.1+1)) t c J from e]at I H ⊢;refine⟨⟨I,?_,h.now1,⟨h.seq.seq,h.seq.turn⟩,r.2.1,h.up⟩,rfl,u⟩;show (n.1,f.2.1+1,(if n.2.2.1=true then (4:Int) else 1),n.2.2.2.1)∈_;rw[u];exact H
theorem n9 (f:ah)(b:Int)(d:bV):(dW f b d).1=d.1/\(dW f b d).2.1=d.2.1/\(dW f b d).2.2.1=d.2.2.1:=by
 unfold dW;cases d.1==f.1&&d.2.1==f.2.1&&f.2.2.1==2 <;> exact⟨rfl,rfl,rfl⟩
theorem UpX.conf {n:aa}(h:UpX n)(f:ah){b:Int}(R:fX n b):UpX (kl n f b):=by
 refine⟨h.me,h.now0,h.table,h.site,h.cast,h.vs,h.probe,⟨λd X=>?_,?_,?_⟩,h.coord,h.places,h.others⟩
 ·obtain⟨r,y,rfl⟩:=F8.1 X;obtain⟨Z,k2,k3⟩:=n9 f b r;obtain⟨⟨g,Y,H,I,J⟩,M,O,u⟩:=h.doubts.1 r y;refine⟨⟨g,Y,by rw[Z];exact H,I,by rw[k2];exact J⟩,by rw[k3];exact M,?_⟩;unfold dW;cases r.1==f.1&&r.2.1==f.2.1&&f.2.2.1==2 with
  |false=>exact⟨O,u⟩
  |true =>
   refine⟨HB (bd.2 (.inl rfl)),λx z=>?_,fI u.2⟩;rcases bd.1 z with rfl|⟨z,_⟩
   ·exact R
   ·exact u.1 x z
 ·show Asc _ ((aa.doubts n).map (dW f b));unfold Asc;rw[GD];exact h.doubts.2.1.imp λ {a c} h=>by show (dW f b a).1<(dW f b c).1;rw[(n9 f b a).1,(n9 f b c).1];exact h
 ·show _=((aa.doubts n).map (dW f b)).length;rw[F2];exact h.doubts.2.2
theorem uw {n:aa}{f:ah}{b:Int}(h:UpN n)(H:n.2.2.1=false)(z:bw f)(M:ak f.1=ak n.1)(y:fX n b):UpN (dI b n f)/\(dI b n f).1=n.1/\(dI b n f).2.2.1=false:=by
 unfold dI;by_cases r:f.1=n.1
 ·rw[show (f.1==n.1)=true by simpa using r];exact yP h H z
 ·rw[show (f.1==n.1)=false by simpa using r];have I:=h.x.said z M y;have u:=qc h.x.table.2 (OnN.refl n) (b:=b) r h.self;obtain⟨t,c,J,e⟩:=(OnN.refl n).say f b;simp only[cond_false];rw[show sayOf n f b=gG n t c J from e]at I u ⊢;exact⟨⟨I.conf f y,u,h.now1,⟨h.seq.seq,h.seq.turn⟩,h.inc,h.up⟩,rfl,H⟩
theorem jP {n:aa}{t:List ah}{b:Int}(h:UpN n)(I:n.2.2.1=false)(M:aE t)(J:cn t (ak n.1))(u:fX n b):UpN (gB n t b)/\(gB n t b).1=n.1/\(gB n t b).2.2.1=false:=by
 refine mW (st:=dI b) (Inv:=λm=>UpN m/\m.1=n.1/\m.2.2.1=false) (ds:=t) (n:=n) ⟨h,rfl,I⟩ λm f y ⟨z,r,H⟩=>?_
 have:=uw (b:=b) z H (M.1 f y) (by rw[r];exact J f y) ⟨u.1,by rw[r];exact u.2⟩;exact⟨this.1,this.2.1.trans r,this.2.2⟩
theorem UpN.learns {n:aa}(h:UpN n):dG n:=⟨h.x.say,h.x.me,⟨_,h.self,rfl⟩,λd u=>by
 obtain⟨_,_,_,r⟩:=h.x.doubts.1 d u;exact⟨r.2,λx y=>(r.1 x y).1⟩⟩
def oa (n:aa)(o:List ch):aa:=(n.1,n.2.1,n.2.2.1,n.2.2.2.1,n.2.2.2.2.1,n.2.2.2.2.2.1,n.2.2.2.2.2.2.1,n.2.2.2.2.2.2.2.1,n.2.2.2.2.2.2.2.2.1,n.2.2.2.2.2.2.2.2.2.1,n.2.2.2.2.2.2.2.2.2.2.1,n.2.2.2.2.2.2.2.2.2.2.2.1,n.2.2.2.2.2.2.2.2.2.2.2.2.1,n.2.2.2.2.2.2.2.2.2.2.2.2.2.1,o)
theorem UpN.setOthers {n:aa}(h:UpN n){o:List ch}(r:dn n.1 o):UpN (oa n o):=⟨⟨h.x.me,h.x.now0,h.x.table,h.x.site,h.x.cast,h.x.vs,h.x.probe,h.x.doubts,h.x.coord,h.x.places,r⟩,h.self,h.now1,⟨h.seq.seq,h.seq.turn⟩,h.inc,h.up⟩
theorem xn {H s:Int}{r:List ah}{o:List ch}(I:dn H o)(M:InP s 0 1)(u:s≠ak H)(J:r≠[])(O:aE r)(y:cn r s):dn H (bD (λx:ch=>x.1) (s,r) o) :=
 ⟨λx z=>by
  rcases bd.1 z with rfl|⟨z,_⟩
  ·exact⟨M,u,J,O,y⟩
  ·exact I.1 x z,fI I.2⟩
def dC (l:List Int)(t:Int):List Int:=(l++[t]).drop ((l++[t]).length-3)
def ci (l:List cm)(r:Int):List Int:=((l.find? λp=>p.1==r).map (·.2.2)).getD []
def jQ (l:List cm)(r:Int)(c:cW)(t:Int):List cm:=bD (λp=>p.1) (r,c,dC (ci l r) t) l
def oc (n:aa)(c:cW)(p:List cm):aa:=(n.1,n.2.1,n.2.2.1,n.2.2.2.1,n.2.2.2.2.1,n.2.2.2.2.2.1,n.2.2.2.2.2.2.1,n.2.2.2.2.2.2.2.1,n.2.2.2.2.2.2.2.2.1,n.2.2.2.2.2.2.2.2.2.1,noP,n.2.2.2.2.2.2.2.2.2.2.2.1,c,p,n.2.2.2.2.2.2.2.2.2.2.2.2.2.2)
theorem vL {l:List cm}{r:Int}{t:Int}(h:t∈ci l r):∃ p∈l,t∈p.2.2:=by
 unfold ci at h;cases u:l.find? λp=>p.1==r with
 |none=>rw[u]at h;simp at h
 |some p =>
  rw[u]at h;exact⟨p,GQ u,h⟩
theorem yQ {l:List Int}{t:Int}(r:∀ x∈l,InP x 1 60000)(u:InP t 1 60000):InP ((dC l t).length:Int) 1 3/\∀ x∈dC l t,InP x 1 60000:=by
 unfold dC;constructor
 ·simp only[GF,FZ,FT,FW];constructor <;> omega
 ·intro x y;have:=List.mem_of_mem_drop y;rcases GO.1 this with h|h
  ·exact r x h
  ·rw[F9.1 h];exact u
theorem xo {y r:Int}{l:List cm}{c:cW}{t:Int}(h:eT y l)(I:InP r 0 7)(J:ak r=ak y)(M:r≠y)(O:bX c)(R:InP t 1 60000):eT y (jQ l r c t):=by
 have H:=yQ (l:=ci l r) (t:=t) (λx z=>by
  obtain⟨p,u,z⟩:=vL z;exact (h.1 p u).2.2.2.2.2 x z) R
 exact⟨λp u=>by
  rcases bd.1 u with rfl|⟨u,_⟩
  ·exact⟨I,J,M,O,H.1,H.2⟩
  ·exact h.1 p u,fI h.2⟩
theorem UpN.heard {n:aa}(h:UpN n){c:cW}{p:List cm}(r:bX c)(u:eT n.1 p):UpN (oc n c p):=⟨⟨h.x.me,h.x.now0,h.x.table,h.x.site,h.x.cast,h.x.vs,yL n,h.x.doubts,r,u,h.x.others⟩,h.self,h.now1,⟨h.seq.seq,h.seq.turn⟩,h.inc,h.up⟩
theorem UpN.way {n:aa}(h:UpN n):UpN (jz n):=⟨h.x.way,h.self,h.now1,⟨h.seq.seq,h.seq.turn⟩,h.inc,h.up⟩
def Tot {α:Type}(o:Option α)(P:α->Prop):Prop:=∃ v,o=some v/\P v
section
variable {α β:Type} {P:α->Prop} {Q:β->Prop}
theorem Tot.ret {v:α}(h:P v):Tot (some v) P:=⟨v,rfl,h⟩
theorem Tot.mono {o:Option α}{r:α->Prop}(h:Tot o P)(k:∀ v,P v->r v):Tot o r:=by obtain⟨v,e,u⟩:=h;exact⟨v,e,k v u⟩
theorem Tot.bind {o:Option α}{g:α->Option β}(h:Tot o P)(k:∀ v,P v->Tot (g v) Q):Tot (o.bind g) Q:=by obtain⟨v,e,r⟩:=h;rw[e];exact k v r
theorem Tot.vl {o:Option α}{v:α}{g:α->Option β}(e:o=some v)(k:Tot (g v) Q):Tot (o.bind g) Q:=by rw[e];exact k
theorem Tot.cnd {b:Bool}{x y:Option α}(r:b=true->Tot x P)(u:b=false->Tot y P):Tot (bif b then x else y) P:=by
 cases b
 ·exact u rfl
 ·exact r rfl
theorem Tot.must {b:Bool}{x y:Option α}(r:b=true)(h:Tot x P):Tot (bif b then x else y) P:=by rw[r];exact h
theorem Tot.not {b:Bool}{x y:Option α}(r:b=false)(h:Tot x P):Tot (bif b then y else x) P:=by rw[r];exact h
theorem Tot.ix {xs:List α}{i:Int}{g:α->Option β}(u:0<=i)(z:i<xs.length)(k:∀ y∈xs,idx xs i=some y->Tot (g y) Q):Tot ((idx xs i).bind g) Q:=by
 obtain⟨n,rfl⟩:=FP u;have r:n<xs.length:=by omega
 have:=af r;rw[this];exact k _ (FM r) this
theorem Tot.iter {A:Type}{step:(A->Option β)->A->Option β}(Inv:A->Prop)(m:A->Nat)(h:∀ (rec:A->Option β) (a:A),Inv a->(∀ r,Inv r->m r<m a->Tot (rec r) Q)->Tot (step rec a) Q):∀ (k:Nat) (a:A),m a<k->Inv a->Tot (ae step k a) Q:=by
 intro k;induction k with
 |zero=>intro a z;omega
 |succ k I =>
  intro a z y;exact h (ae step k) a y λr u H=>I r (by omega) u
end
theorem Ret.tot {o:Option RB}{P:Prop}(h:Ret o P):Tot o λv=>(v.1.1=true<->P):=by
 obtain⟨b,e,r⟩:=h;exact⟨_,e,r⟩
section
variable {α β:Type} {Q:β->Prop}
theorem Tot.cat {x y:ByteArray}{k:ByteArray->Option β}{a b:Nat}(u:x.size<=a)(H:y.size<=b)(h:∀ z:ByteArray,z.size<=a+b->Tot (k z) Q)(r:a+b<=4611686018427387904:=by omega):Tot (aX x y k) Q:=by
 unfold aX;rw[decide_eq_true (by omega)];exact h _ (by rw[ByteArray.size_append];omega)
theorem Tot.fit {a b c:Nat}{x y:Option β}(h:Tot x Q)(u:c<=1000:=by omega)(r:a+b<=2097152:=by omega):Tot (bif decide ((a+b)*c<=am) then x else y) Q:=by
 have:=Ge r u;rw[decide_eq_true (by unfold am;omega)];exact h
theorem Tot.ix2 {xs:List α}{i:Int}{g:α->Option β}(r:0<=i)(u:i<xs.length)(k:∀ y∈xs,idx xs i=some y->Tot (g y) Q):Tot ((idx xs i).bind λ_=>(idx xs ((FL i:Nat):Int)).bind g) Q :=
 Tot.ix r u λy z e=>by rw[Int.toNat_of_nonneg r,e];exact k y z e
end
theorem gw (s:ByteArray):s.data.toList.length=s.size:=Array.length_toList
theorem jB (xs:List Int):(ip xs).size=xs.length:=by
 unfold ip;show (List.toArray _).size=_;rw[List.size_toArray,F2]
theorem sD (s:ByteArray):(eS s).length=s.size:=by
 unfold eS;rw[F2];exact gw s
theorem dec_t:∀ (d k:Nat) (n:Int),0<=n->n<10 ^ (d+1)->n<=1000000000->d<=100->d<k->Tot (Q0.f k (n,())) λr=>r.1.1.size<=d+1:=by
 intro d;induction d with
 |zero =>
  intro k n H y I J M;obtain⟨k,rfl⟩:∃ m,k=m+1:=⟨k-1,by omega⟩;show Tot (Q0.step (Q0.f k) (n,())) _;simp only[Q0.step];refine Tot.not (decide_eq_false (show ¬ n< -9223372036854775807 by omega)) (Tot.not (decide_eq_false (show ¬ n<0 by omega)) (Tot.must (decide_eq_true (show n<10 by exact y)) (Tot.ret ?_)));show (ip _).size<=1;rw[jB];exact F0 _
 |succ d Y =>
  intro k n H y I J M;obtain⟨k,rfl⟩:∃ m,k=m+1:=⟨k-1,by omega⟩;show Tot (Q0.step (Q0.f k) (n,())) _;simp only[Q0.step];refine Tot.not (decide_eq_false (show ¬ n< -9223372036854775807 by omega)) (Tot.not (decide_eq_false (show ¬ n<0 by omega)) (Tot.cnd (λ_=>Tot.ret ?_) λh=>?_))
  ·show (ip _).size<=_;rw[jB];exact Nat.succ_le_succ (F5 _)
  ·have h:¬ n<10:=of_decide_eq_false h;have e:Gh n 10=n / 10:=by rw[GG H]
   have u:(10:Int) ^ (d+1+1)=10 ^ (d+1)*10:=Int.pow_succ ..;have O:n / 10<10 ^ (d+1):=Int.ediv_lt_of_lt_mul (by omega) (by rw[<- u];exact y);rw[e,aC (by omega) (by omega)];refine Tot.bind (Y k (n / 10) (by omega) O (by omega) (by omega) (by omega)) λv R=>Tot.cat R (b:=1) (by rw[jB];exact F0 _) (λz X=>Tot.ret X) (by omega)
theorem lQ (K:Nat)(n:Int)(u:0<=n)(y:n<=999999)(z:1048577<K):Tot (Q0.f K (n,())) λr=>r.1.1.size<=6 :=
 dec_t 5 K n u (by show n<1000000;omega) (by omega) (by omega) (by omega)
theorem ux (K:Nat)(i:Int)(u:0<=i)(y:i<=4):Tot (Q61.f K (i,())) λr=>r.1.1.size<=7:=by
 have:i=0\/i=1\/i=2\/i=3\/i=4:=by omega
 rcases this with rfl|rfl|rfl|rfl|rfl <;> exact⟨_,rfl,by decide⟩
theorem uy (K:Nat)(i:Int)(u:0<=i)(y:i<=6):Tot (Q58.f K (i,())) λr=>r.1.1.size<=4:=by
 have:i=0\/i=1\/i=2\/i=3\/i=4\/i=5\/i=6:=by omega
 rcases this with rfl|rfl|rfl|rfl|rfl|rfl|rfl <;> exact⟨_,rfl,by decide⟩
theorem Ap (K:Nat)(t:List ah)(y:aE t)(hK:1048577<K):Tot (Q64.f K (t,())) λr=>r.1.1.size<=240:=by
 have hl:=jx y.2 (λg hg=>(y.1 g hg).1);refine Tot.iter (step:=λrec a=>Q64.s0 K (t,()) rec a) (λa=>0<=a.2/\a.2<=t.length/\(a.1.size:Int)<=30*a.2) (λa=>t.length-a.2.toNat) ?_ K _ (by show t.length-FL 0<K;omega) ⟨by show (0:Int)<=0;omega,by show (0:Int)<=_;omega,by show (0:Int)<=30*0;omega⟩;rintro rec ⟨s,i⟩ ⟨h0,h1,h2⟩ ih;simp only at h0 h1 h2 ih ⊢;simp only[Q64.s0];refine Tot.cnd (λh=>?_) λh=>?_
 ·have h:=of_decide_eq_true h;obtain⟨n,rfl⟩:=FP h0;have hn:n<t.length:=by omega
  obtain⟨⟨f1,f2⟩,⟨f3,f4⟩,f5,f6⟩:=y.1 t[n] (FM hn);rw[af hn,ar n (by omega)];simp only[FJ];have go:∀ z:ByteArray,z.size<=s.size+29->Tot (rec (z,((n+1:Nat):Int))) λr=>r.1.1.size<=240:=λz hz=>ih _ ⟨by show (0:Int)<=((n+1:Nat):Int);omega,by show ((n+1:Nat):Int)<=_;omega,by show (z.size:Int)<=30*((n+1:Nat):Int);omega⟩ (by show t.length-FL ((n+1:Nat):Int)<t.length-FL (n:Int);omega)
  have body:∀ Z:ByteArray,Z.size<=s.size+1->Tot ((Q0.f K (t[n].1,())).bind λy3=>aX Z y3.1.1 λy4=>aX y4 (ByteArray.mk #[58]) λy5=>(Q0.f K (t[n].2.1,())).bind λy7=>aX y5 y7.1.1 λy8=>aX y8 (ByteArray.mk #[58]) λy9=>(Q61.f K (t[n].2.2.1,())).bind λX=>aX y9 X.1.1 λu=>bif t[n].2.2.2 then (aX u (ByteArray.mk #[42]) λY=>rec (Y,((n+1:Nat):Int))) else (rec (u,((n+1:Nat):Int)))) λr=>r.1.1.size<=240:=λZ H =>
   Tot.bind (lQ K _ f1 (by omega) hK) λv1 s1=>Tot.cat H s1 λz1 I=>Tot.cat I (b:=1) (by decide) λz2 J =>
   Tot.bind (lQ K _ f3 (by omega) hK) λv2 s2=>Tot.cat J s2 λz3 M=>Tot.cat M (b:=1) (by decide) λz4 O =>
   Tot.bind (ux K _ (by omega) f6) λv3 s3=>Tot.cat O s3 λz5 R =>
   Tot.cnd (λ_=>Tot.cat R (b:=1) (by decide) λz6 a0=>go z6 (by omega)) λ_=>go z5 (by omega)
  exact Tot.cnd (λ_=>Tot.cat (F0 _) (b:=1) (by decide) λz hz=>body z hz) λ_=>body s (by omega)
 ·have h:=of_decide_eq_false h;exact Tot.ret (by show s.size<=240;omega)
theorem pw (K:Nat)(t:List ah)(z:t.length<=1048576)(u:1048577<K):Tot (Q65.f K (t,())) λr=>r.1.1.size<=240:=by
 simp only[Q65.f];refine Tot.bind (gW K t z u).tot λv H=>Tot.cnd (λ_=>Tot.ret (by show (0:Nat)<=240;omega)) λh=>?_
 have y:=H.1 (by simpa using h);exact Tot.cnd (λ_=>Tot.ret (by show (1:Nat)<=240;omega)) λ_=>Tot.bind (Ap K t y u) λv h=>Tot.ret h
theorem qR (K:Nat)(n:Int)(H:-999999<=n)(I:n<=999999)(y:1048577<K):Tot (Q67.f K (n,())) λr=>r.1.1.size<=7:=by
 simp only[Q67.f];refine Tot.cnd (λh=>?_) λh=>?_
 ·have h:n<0:=of_decide_eq_true h;rw[aC (by omega) (by omega)];exact Tot.bind (lQ K _ (by omega) (by omega) y) λv s=>Tot.cat (a:=1) (by decide) s λz u=>Tot.ret u
 ·have h:¬ n<0:=of_decide_eq_false h;exact Tot.bind (lQ K _ (by omega) (by omega) y) λv s=>Tot.cat (a:=1) (by decide) s λz u=>Tot.ret u
theorem Aq (K:Nat)(w:aj)(X:dz w)(y:1048577<K):Tot (Q68.f K (w,())) λr=>r.1.1.size<=400:=by
 obtain⟨_,⟨Z,z⟩,⟨H,b2⟩,⟨I,c2⟩,⟨J,d2⟩,⟨M,e2⟩,⟨⟨x1,x2⟩,⟨y1,y2⟩,⟨Y,z2⟩,⟨u1,u2⟩⟩,O,_⟩:=X;have R:=cf O;simp only[Q68.f];have u:(ByteArray.mk #[32]).size<=1:=by decide
 refine Tot.cnd (λ_=>?_) λ_=>?_ <;>
 exact Tot.cat (a:=3) (by decide) u λ_ h=>Tot.bind (uy K _ (by omega) z) λ_ s=>Tot.cat h s λ_ h=>Tot.cat h u λ_ h =>
  Tot.bind (lQ K _ H (by omega) y) λ_ s=>Tot.cat h s λ_ h=>Tot.cat h u λ_ h =>
  Tot.bind (lQ K _ I (by omega) y) λ_ s=>Tot.cat h s λ_ h=>Tot.cat h u λ_ h =>
  Tot.bind (lQ K _ J (by omega) y) λ_ s=>Tot.cat h s λ_ h=>Tot.cat h u λ_ h =>
  Tot.bind (lQ K _ M (by omega) y) λ_ s=>Tot.cat h s λ_ h=>Tot.cat h u λ_ h =>
  Tot.bind (qR K _ (by show -999999<=(aj.coord w).1;omega) (by show (aj.coord w).1<=999999;omega) y) λ_ s=>Tot.cat h s λ_ h=>Tot.cat h u λ_ h =>
  Tot.bind (qR K _ (by show -999999<=(aj.coord w).2.1;omega) (by show (aj.coord w).2.1<=999999;omega) y) λ_ s=>Tot.cat h s λ_ h=>Tot.cat h u λ_ h =>
  Tot.bind (lQ K _ Y (by show (aj.coord w).2.2.1<=999999;omega) y) λ_ s=>Tot.cat h s λ_ h=>Tot.cat h u λ_ h =>
  Tot.bind (lQ K _ (by show 0<=(aj.coord w).2.2.2;omega) (by show (aj.coord w).2.2.2<=999999;omega) y) λ_ s=>Tot.cat h s λ_ h=>Tot.cat h u λ_ h =>
  Tot.bind (pw K _ R y) λ_ s=>Tot.cat h s λ_ h=>Tot.ret (GA h (by decide))
theorem Ar (K:Nat)(n:Int)(I:1048577<K):Tot (Q70.f K (n,())) λ_=>True:=by
 refine Tot.iter (step:=λrec a=>Q70.s0 K (n,()) rec a) (λa=>0<=a.2/\a.2<=8) (λa=>8-a.2.toNat) ?_ K _ (by show 8-FL 0<K;omega) ⟨by show (0:Int)<=0;omega,by show (0:Int)<=8;omega⟩;rintro rec ⟨s,i⟩ ⟨u,H⟩ y;simp only at u H y ⊢;simp only[Q70.s0];obtain⟨i,rfl⟩:=FP u;refine Tot.cnd (λh=>?_) λ_=>Tot.ret trivial
 have h:=of_decide_eq_true h;rw[ar i (by omega)];have r:∀ z:Int,Tot (rec (z,((i+1:Nat):Int))) λ_=>True:=λz=>y _ ⟨by show (0:Int)<=((i+1:Nat):Int);omega,by show ((i+1:Nat):Int)<=8;omega⟩ (by show 8-FL ((i+1:Nat):Int)<8-FL (i:Int);omega)
 exact Tot.cnd (λ_=>r _) λ_=>r _
theorem BL (K:Nat)(s:ByteArray)(J:s.size<=1000000)(I:1048577<K):Tot (Q71.f K (s,())) λ_=>True:=by
 refine Tot.iter (step:=λrec a=>Q71.s0 K (s,()) rec a) (λa=>0<=a.2/\a.2<=s.size) (λa=>s.size-a.2.toNat) ?_ K _ (by show s.size-FL 0<K;omega) ⟨by show (0:Int)<=0;omega,by show (0:Int)<=_;omega⟩;rintro rec ⟨z,i⟩ ⟨r,H⟩ u;simp only at r H u ⊢;simp only[Q71.s0];obtain⟨i,rfl⟩:=FP r;refine Tot.cnd (λh=>?_) λ_=>Tot.ret trivial
 have h:=of_decide_eq_true h;rw[ar i (by omega)];exact Tot.ix r (by rw[gw];exact h) λy _ _=>Tot.bind (Ar K _ I) λv _=>u _ ⟨by show (0:Int)<=((i+1:Nat):Int);omega,by show ((i+1:Nat):Int)<=_;omega⟩ (by show s.size-FL ((i+1:Nat):Int)<s.size-FL (i:Int);omega)
theorem hex_t (K:Nat)(n:Int)(R:1048577<K):Tot (Q69.f K (n,())) λr=>r.1.1.size<=8:=by
 refine Tot.iter (step:=λrec a=>Q69.s0 K (n,()) rec a) (λa=>-1<=a.2/\a.2<=7/\a.1.length=7-a.2) (λa=>(a.2+1).toNat) ?_ K _ (by show FL 8<K;omega) ⟨by show (-1:Int)<=7;omega,by show (7:Int)<=7;omega,by show (0:Int)=7-7;omega⟩;rintro rec ⟨z,i⟩ ⟨J,M,O⟩ u;simp only at J M O u ⊢;simp only[Q69.s0];refine Tot.cnd (λh=>?_) λh=>?_
 ·have h:=of_decide_eq_true h;rw[aC (n:=4*i) (by omega) (by omega),aC (n:=i-1) (by omega) (by omega)];obtain⟨H,I⟩:=mt (a:=GM n (2 ^ min (FL (4*i)) 64)) (m:=15) (by omega);refine Tot.not (decide_eq_false (by omega)) (Tot.ix H (Int.lt_of_le_of_lt I (by decide)) λy _ _=>Tot.fit ?_ (by omega) (by simp only[FT,FW];omega));exact u _ ⟨by show -1<=i-1;omega,by show i-1<=7;omega,by show ((z++[_]).length:Int)=7-(i-1);rw[FZ,GV];omega⟩ (by show FL (i-1+1)<FL (i+1);omega)
 ·have h:=of_decide_eq_false h;refine Tot.ret ?_;show (ip z).size<=8;rw[jB];omega
theorem pz (K:Nat)(w:aj)(M:(aj.table w).length<=1048576)(u:1048577<K):Tot (Q72.f K (w,())) λr=>r.1.1.size<=409/\(¬ dz w->r.1.1=ByteArray.mk #[]):=by
 simp only[Q72.f];refine Tot.bind (mT K w M u).tot λv J=>Tot.cnd (λ_=>Tot.ret ⟨by show (0:Nat)<=409;omega,λ_=>rfl⟩) λh=>?_
 have H:=J.1 (by simpa using h);exact Tot.bind (Aq K w H u) λb I=>Tot.cat I (b:=1) (by decide) λz y=>Tot.bind (BL K _ (by omega) u) λs _=>Tot.bind (hex_t K _ u) λx O=>Tot.cat y O λz y=>Tot.ret ⟨y,λh=>absurd H h⟩
theorem xp (K:Nat)(s:ByteArray)(c:Int)(hs:s.size<=100000)(hK:1048577<K):Tot (Q57.f K (s,c,())) λr=>r.1.1.length<=s.size+1/\∀ p∈r.1.1,p.size<=s.size:=by
 have I:∀ i j:Nat,(s.extract i j).size<=s.size:=λi j=>by rw[Gj];omega
 refine Tot.iter (step:=λrec a=>Q57.s0 K (s,c,()) rec a) (λa=>0<=a.2.1/\a.2.1<=a.2.2/\a.2.2<=s.size/\a.1.length<=a.2.2/\∀ p∈a.1,p.size<=s.size) (λa=>s.size-a.2.2.toNat) ?_ K _ (by show s.size-FL 0<K;omega) ⟨by show (0:Int)<=0;omega,by show (0:Int)<=0;omega,by show (0:Int)<=_;omega,by show (0:Int)<=0;omega,λp O=>by cases O⟩;rintro rec ⟨u,from_,i⟩ ⟨z,J,X,Y,M⟩ R;simp only at z J X Y M R ⊢;simp only[Q57.s0];obtain⟨i,rfl⟩:=FP (Gi z J);have H:∀ x:ByteArray,x.size<=s.size->∀ p∈u++[x],p.size<=s.size:=λx Z p O=>by
  rcases GO.1 O with h|h
  ·exact M p h
  ·rw[F9.1 h];exact Z
 refine Tot.cnd (λh=>?_) λh=>?_
 ·have h:=of_decide_eq_true h;rw[ar i (by omega)];refine Tot.ix (Gi z J) (by rw[gw];exact h) λy _ _=>Tot.cnd (λ_=>Tot.must (by rw[decide_eq_true z,decide_eq_true J,decide_eq_true X];rfl) (Tot.fit (R _ ⟨?_,?_,?_,?_,H _ (I _ _)⟩ ?_) (by omega) (by simp only[FT,FW];omega))) λ_=>R _ ⟨z,?_,?_,?_,M⟩ ?_
  ·show (0:Int)<=((i+1:Nat):Int);omega
  ·show ((i+1:Nat):Int)<=((i+1:Nat):Int);omega
  ·show ((i+1:Nat):Int)<=s.size;omega
  ·show ((u++[_]).length:Int)<=((i+1:Nat):Int);rw[FZ,GV];omega
  ·show s.size-FL ((i+1:Nat):Int)<s.size-FL (i:Int);omega
  ·show from_<=((i+1:Nat):Int);omega
  ·show ((i+1:Nat):Int)<=s.size;omega
  ·show (u.length:Int)<=((i+1:Nat):Int);omega
  ·show s.size-FL ((i+1:Nat):Int)<s.size-FL (i:Int);omega
 ·refine Tot.must (by rw[decide_eq_true z,decide_eq_true (by omega),decide_eq_true (GE _)];rfl) (Tot.fit (Tot.ret ⟨?_,H _ (I _ _)⟩) (by omega) (by simp only[FT,FW];omega));show (u++[_]).length<=_;rw[FZ,GV];omega
theorem kK (K:Nat)(s:ByteArray)(Y:s.size<=100000)(X:1048577<K):Tot (Q59.f K (s,())) λ_=>True:=by
 simp only[Q59.f,Q59.pre];have r:((s.size:Int)<=6)->Tot (Q59.l0 K (s,()) (0,0)) λ_=>True:=λR=>by
  refine Tot.iter (step:=λrec a=>Q59.s0 K (s,()) rec a) (λa=>0<=a.2/\a.2<=s.size) (λa=>s.size-a.2.toNat) ?_ K _ (by show s.size-FL 0<K;omega) ⟨by show (0:Int)<=0;omega,by show (0:Int)<=_;omega⟩;rintro rec ⟨z,i⟩ ⟨u,M⟩ J;simp only at u M J ⊢;simp only[Q59.s0];obtain⟨i,rfl⟩:=FP u;refine Tot.cnd (λh=>?_) λ_=>Tot.ret trivial
  have h:=of_decide_eq_true h;have I:((i:Nat):Int)<s.data.toList.length:=by rw[gw];exact h
  rw[ar i (by omega)];exact Tot.ix u I λy _ _=>Tot.cnd (λ_=>Tot.ret trivial) λ_=>Tot.ix u I λy _ _=>Tot.cnd (λ_=>Tot.ret trivial) λ_=>Tot.ix u I λy _ _=>J _ ⟨by show (0:Int)<=((i+1:Nat):Int);omega,by show ((i+1:Nat):Int)<=_;omega⟩ (by show s.size-FL ((i+1:Nat):Int)<s.size-FL (i:Int);omega)
 refine Tot.bind (cK K _ _ _).tot λv O=>Tot.cnd (λ_=>Tot.ret trivial) λh=>?_
 have H:=O.1 (by simpa using h);exact Tot.cnd (λh=>Tot.ix (by omega) (by rw[gw];have:=of_decide_eq_true h;omega) λy _ _=>Tot.cnd (λ_=>Tot.ret trivial) λ_=>r H.2) λ_=>r H.2
theorem wq (K:Nat)(s:ByteArray)(J:s.size<=100000)(H:1048577<K):Tot (Q60.f K (s,())) λ_=>True:=by
 simp only[Q60.f];refine Tot.cnd (λ_=>Tot.ret trivial) λh=>?_
 have h:=of_decide_eq_false h;have u:(0:Int)<s.data.toList.length:=by rw[gw];omega
 have r:Tot (bif decide ((0:Int)<=1)&&decide ((1:Int)<=(s.size:Int))&&decide ((s.size:Int)<=(s.size:Int)) then ((Q59.f K (s.extract (FL 1) (FL (s.size:Int)),())).bind λz=>bif decide (z.1.1<0) then (some (((-1),false,()),())) else (bif s.toList==(ByteArray.mk #[45,48]).toList then (some (((-1),false,()),())) else ((idx s.data.toList 0).bind λI=>bif (I.toNat:Int)==45 then (some ((wr .i64 (0-z.1.1),true,()),())) else (some ((z.1.1,true,()),()))))) else none) λ (_:(Int×Bool×Unit)×Unit)=>True :=
  Tot.must (by rw[decide_eq_true (by omega:(0:Int)<=1),decide_eq_true (by omega:(1:Int)<=s.size),decide_eq_true (GE _)];rfl) (Tot.bind (kK K _ (by rw[Gj];omega) H) λv _=>Tot.cnd (λ_=>Tot.ret trivial) λ_=>Tot.cnd (λ_=>Tot.ret trivial) λ_=>Tot.ix (by omega) u λy _ _=>Tot.cnd (λ_=>Tot.ret trivial) λ_=>Tot.ret trivial)
 exact Tot.ix (by omega) u λy _ _=>Tot.cnd (λ_=>Tot.ix (by omega) u λy _ _=>Tot.cnd (λ_=>Tot.ret trivial) λ_=>r) λ_=>r
theorem BM (K:Nat)(s:ByteArray)(hs:s.size<=100000)(I:1048577<K):Tot (Q62.f K (s,())) λ_=>True:=by
 simp only[Q62.f,Q62.pre];have H:∀ (M:List ByteArray) (n1 n2:Int) (b:Bool),M.length=3->Tot (Q62.l0 K (s,()) (M,1,n1,n2,0,b)) λ_=>True:=λM n1 n2 b hx=>by
  refine Tot.iter (step:=λrec a=>Q62.s0 K (s,()) rec a) (λa=>a.1.length=3/\1<=a.2.1/\a.2.1<=5) (λa=>5-a.2.1.toNat) ?_ K _ (by show 5-FL 1<K;omega) ⟨hx,by show (1:Int)<=1;omega,by show (1:Int)<=5;omega⟩;rintro rec ⟨ys,i,m1,m2,m3,m4⟩ ⟨h0,h1,h2⟩ ih;simp only at h0 h1 h2 ih ⊢;simp only[Q62.s0];refine Tot.cnd (λh=>?_) λ_=>Tot.bind (pX K _).tot λ_ _=>Tot.ret trivial
  have h:=of_decide_eq_true h;rw[aC (n:=i+1) (by omega) (by omega)];have Z:∀ m:Int,Tot (rec (ys,i+1,m1,m2,m,m4)) λ_=>True:=λm=>ih _ ⟨h0,by show 1<=i+1;omega,by show i+1<=5;omega⟩ (by show 5-FL (i+1)<5-FL i;omega)
  exact Tot.bind (ux K i (by omega) h) λv _=>Tot.ix2 (by omega) (by omega) λy _ _=>Tot.cnd (λ_=>Z _) λ_=>Z _
 have u:∀ (z:ByteArray) (b:Bool),z.size<=s.size->Tot ((Q57.f K (z,58,())).bind λr=>bif (FK r.1.1:Int) != 3 then (some (((0,(0,(0,b))),false,()),())) else ((idx r.1.1 0).bind λ_=>(idx r.1.1 (FL 0:Nat)).bind λO=>(Q59.f K (O,())).bind λR=>(idx r.1.1 1).bind λ_=>(idx r.1.1 (FL 1:Nat)).bind λX=>(Q59.f K (X,())).bind λY=>Q62.l0 K (s,()) (r.1.1,1,R.1.1,Y.1.1,0,b))) λ_=>True:=λz b hz =>
  Tot.bind (xp K z 58 (by omega) I) λv ⟨_,hp⟩=>Tot.cnd (λ_=>Tot.ret trivial) λh=>by
   have h3:(v.1.1.length:Int)=3:=by simpa using h
   exact Tot.ix2 (by omega) (by omega) λy J _=>Tot.bind (kK K y (by have:=hp y J;omega) I) λ_ _=>Tot.ix2 (by omega) (by omega) λy J _=>Tot.bind (kK K y (by have:=hp y J;omega) I) λ_ _=>H _ _ _ _ (by omega)
 refine Tot.cnd (λh=>?_) λ_=>u s false (F0 _)
 have h:=of_decide_eq_true h;rw[aC (n:=(s.size:Int)-1) (by omega) (by omega)];exact Tot.ix (by omega) (by rw[gw];omega) λy _ _=>Tot.cnd (λ_=>Tot.must (by simp only[GK,decide_eq_true_eq];omega) (u _ true (by rw[Gj];omega))) λ_=>u s false (F0 _)
theorem BN (K:Nat)(s:ByteArray)(R:s.size<=100000)(H:1048577<K):Tot (Q63.f K (s,())) λr=>r.1.1.length<=100001:=by
 simp only[Q63.f,Q63.pre];refine Tot.cnd (λ_=>Tot.ret (by show (0:Nat)<=_;omega)) λ_=>Tot.bind (xp K s 44 R H) ?_
 rintro⟨⟨xs,⟨⟩⟩,⟨⟩⟩ ⟨hl,hp⟩;dsimp only at hl hp ⊢;refine Tot.iter (step:=λrec a=>Q63.s0 K (s,()) rec a) (λa=>a.2.1=xs/\0<=a.2.2/\a.2.2<=xs.length/\(a.1.length:Int)<=a.2.2) (λa=>xs.length-a.2.2.toNat) ?_ K _ (by show xs.length-FL 0<K;omega) ⟨rfl,by show (0:Int)<=0;omega,by show (0:Int)<=_;omega,by show (0:Int)<=0;omega⟩;rintro rec ⟨u,J,i⟩ ⟨rfl,z,M,O⟩ I;simp only at z M O hl hp I ⊢;simp only[Q63.s0];obtain⟨i,rfl⟩:=FP z;refine Tot.cnd (λh=>?_) λ_=>Tot.ret (by show u.length<=_;omega)
 have h:=of_decide_eq_true h;rw[ar i (by omega)];exact Tot.ix2 z h λy X _=>Tot.bind (BM K y (by have:=hp y X;omega) H) λv _=>Tot.cnd (λ_=>Tot.ret (by show (0:Nat)<=_;omega)) λ_=>Tot.fit (I _ ⟨rfl,by show (0:Int)<=((i+1:Nat):Int);omega,by show ((i+1:Nat):Int)<=_;omega,by show ((u++[_]).length:Int)<=((i+1:Nat):Int);rw[FZ,GV];omega⟩ (by show J.length-FL ((i+1:Nat):Int)<J.length-FL (i:Int);omega)) (by omega) (by simp only[FT,FW];omega)
theorem BO (K:Nat)(s:ByteArray)(y:s.size<=100000)(u:1048577<K):Tot (Q66.f K (s,())) λr=>r.1.1.length<=100001:=by
 simp only[Q66.f];exact Tot.bind (BN K s y u) λv z=>Tot.cnd (λ_=>Tot.ret (by show (0:Nat)<=_;omega)) λ_=>Tot.bind (pw K _ (by omega) u) λx _=>Tot.cnd (λ_=>Tot.ret (by show (0:Nat)<=_;omega)) λ_=>Tot.ret z
theorem na (K:Nat)(s:ByteArray)(Y:s.size<=100000)(H:1048577<K):Tot (Q73.f K (s,())) λr=>r.1.2.1=true->dz r.1.1:=by
 simp only[Q73.f,Q73.pre];refine Tot.bind (xp K s 32 Y H) ?_;rintro⟨⟨xs,⟨⟩⟩,⟨⟩⟩ ⟨hl,hp⟩;dsimp only at hl hp ⊢;refine Tot.cnd (λ_=>Tot.ret λh=>by cases h) λ_=>Tot.cnd (λ_=>Tot.ret λh=>by cases h) λh=>?_
 have M:(xs.length:Int)=12:=by simpa using h
 have u:∀ y∈xs,y.size<=100000:=λy z=>GA (hp y z) Y
 have I:∀ p:Int,Tot (Q73.l0 K (s,()) (xs,1,p,0)) λr=>r.1.2.1=true->dz r.1.1:=λp=>by
  refine Tot.iter (step:=λrec a=>Q73.s0 K (s,()) rec a) (λa=>a.1=xs/\1<=a.2.1/\a.2.1<=7) (λa=>7-a.2.1.toNat) ?_ K _ (by show 7-FL 1<K;omega) ⟨rfl,by show (1:Int)<=1;omega,by show (1:Int)<=7;omega⟩;rintro rec ⟨ys,i,p,k⟩ ⟨rfl,R,h2⟩ Z;simp only at R h2 hl M u Z ⊢;simp only[Q73.s0];refine Tot.cnd (λh=>?_) λ_=>?_
  ·have h:=of_decide_eq_true h;rw[aC (n:=i+1) (by omega) (by omega)];have O:∀ m:Int,Tot (rec (ys,i+1,p,m)) λr=>r.1.2.1=true->dz r.1.1:=λm=>Z _ ⟨rfl,by show 1<=i+1;omega,by show i+1<=7;omega⟩ (by show 7-FL (i+1)<7-FL i;omega)
   exact Tot.bind (uy K i (by omega) h) λv _=>Tot.ix2 (by omega) (by omega) λy _ _=>Tot.cnd (λ_=>O _) λ_=>O _
  ·refine Tot.ix2 (by omega) (by omega) λy z _=>Tot.bind (kK K y (u y z) H) λ_ _=>Tot.ix2 (by omega) (by omega) λy z _=>Tot.bind (kK K y (u y z) H) λ_ _=>Tot.ix2 (by omega) (by omega) λy z _=>Tot.bind (kK K y (u y z) H) λ_ _=>Tot.ix2 (by omega) (by omega) λy z _=>Tot.bind (kK K y (u y z) H) λ_ _ =>
    Tot.ix2 (by omega) (by omega) λy z _=>Tot.bind (wq K y (u y z) H) λ_ _=>Tot.ix2 (by omega) (by omega) λy z _=>Tot.bind (wq K y (u y z) H) λ_ _=>Tot.ix2 (by omega) (by omega) λy z _=>Tot.bind (BO K y (u y z) H) λt ht=>Tot.ix2 (by omega) (by omega) λy z _=>Tot.bind (kK K y (u y z) H) λ_ _=>Tot.ix2 (by omega) (by omega) λy z _=>Tot.bind (kK K y (u y z) H) λ_ _ =>
    Tot.cnd (λ_=>Tot.ret λh=>by cases h) λ_=>Tot.cnd (λ_=>Tot.ret λh=>by cases h) λ_=>Tot.cnd (λ_=>Tot.ret λh=>by cases h) λ_=>Tot.bind (pz K _ (by show t.1.1.length<=1048576;omega) H) λx ⟨_,hx⟩=>Tot.cnd (λ_=>Tot.ret λh=>by cases h) λJ=>Tot.ret λ_=>?_
   refine Classical.byContradiction λhn=>?_
   rw[hx hn]at J;have X:(ByteArray.mk #[]).toList=s.toList:=by
    have:((ByteArray.mk #[]).toList != s.toList)=false:=J;simpa using this
   rw[G7,G7]at X;have h0:=congrArg FK X;rw[gw,gw]at h0;have R:(ByteArray.mk #[]).size=0:=rfl;omega
 exact Tot.ix2 (by omega) (by omega) λy _ _=>Tot.cnd (λ_=>I 2) λ_=>I 1
def Rt (v r:Nat):Prop:=r*r<=v/\v<(r+1)*(r+1)
theorem yR (K:Nat)(v:Nat)(hv:v<1500000001*1500000001)(hK:1048577<K):∃ r,Rt v r/\Q45.f K ((v:Int),())=some (((r:Int),()),()):=by
 have I:∀ (e k l h:Nat),h-l<2 ^ e->e<k->l<=h->h<=1500000000->l*l<=v->v<(h+1)*(h+1)->∃ r,Rt v r/\ae (λrec a=>Q45.s0 K ((v:Int),()) rec a) k ((l:Int),(h:Int))=some (((r:Int),()),()):=by
  intro e;induction e with
  |zero =>
   intro k l h J hk z O u y;obtain⟨k,rfl⟩:∃ H,k=H+1:=⟨k-1,by omega⟩;have:l=h:=by omega
   subst this;refine⟨l,⟨u,y⟩,?_⟩;show Q45.s0 K _ _ _=_;simp only[Q45.s0];rw[decide_eq_false (by omega)];rfl
  |succ e Y =>
   intro k l h J hk z O u y;obtain⟨k,rfl⟩:∃ H,k=H+1:=⟨k-1,by omega⟩;show ∃ r,Rt v r/\Q45.s0 K _ _ _=_;simp only[Q45.s0];by_cases hl:l<h
   ·rw[decide_eq_true (show (l:Int)<(h:Int) by omega)];have Z:wr .i64 ((l:Int)+(h:Int))=(l:Int)+h:=aC (by omega) (by omega);have e2:wr .i64 ((l:Int)+(h:Int)+1)=((l+h+1:Nat):Int):=(aC (by omega) (by omega)).trans (by omega);have e3:Gh ((l+h+1:Nat):Int) 2=(((l+h+1) / 2:Nat):Int):=by
     rw[GG (by omega)];omega
    rw[Z,e2,e3];have hm:l<(l+h+1) / 2/\(l+h+1) / 2<=h:=by omega
    have X:h-(l+h+1) / 2<2 ^ e/\(l+h+1) / 2-1-l<2 ^ e:=by
     rw[Nat.pow_succ]at J;omega
    generalize (l+h+1) / 2=m at *;have e4:wr .i64 (m:Int)=m:=aC (by omega) (by omega);have e5:Gh (v:Int) (m:Int)=((v / m:Nat):Int):=by
     rw[GG (by omega)];rfl
    have a1:v / m<=v:=Nat.div_le_self _ _;have R:m<=v / m<->m*m<=v:=Nat.le_div_iff_mul_le (by omega);generalize v / m=q at *;have e6:wr .i64 (q:Int)=(q:Int):=aC (by omega) (by omega);rw[e4,e5,e6,decide_eq_false (show ¬ (m:Int)=0 by omega)];simp only[cond_true,cond_false];by_cases M:m<=q
    ·rw[decide_eq_true (by omega)];exact Y k m h X.1 (by omega) (by omega) O (R.1 M) y
    ·rw[decide_eq_false (by omega)];have a0:¬ m*m<=v:=λh4=>M (R.2 h4)
     have e7:wr .i64 ((m:Int)-1)=((m-1:Nat):Int):=ft m (by omega) (by omega);rw[e7];exact Y k l (m-1) X.2 (by omega) (by omega) (by omega) u (by rw[show m-1+1=m by omega];omega)
   ·have:l=h:=by omega
    subst this;refine⟨l,⟨u,y⟩,?_⟩;rw[decide_eq_false (by omega)];rfl
 exact I 31 K 0 1500000000 (by decide) (by omega) (by omega) (by omega) (by omega) hv
def gb (x:Int):Int:=if x< -1000000000 then -1000000000 else if x>1000000000 then 1000000000 else x
theorem kS (K:Nat)(x:Int):Q44.f K (x,())=some ((gb x,()),()):=by
 simp only[Q44.f,Q41.f,gb];by_cases h:x< -1000000000
 ·rw[decide_eq_true h,if_pos h];rfl
 ·rw[decide_eq_false h,if_neg h];by_cases r:x>1000000000
  ·rw[decide_eq_true r,if_pos r];rfl
  ·rw[decide_eq_false r,if_neg r];rfl
theorem uz (x:Int):-1000000000<=gb x/\gb x<=1000000000:=by
 unfold gb;split
 ·omega
 ·split <;> omega
theorem Bb {a:Int}(h:-1000000000<=a/\a<=1000000000):0<=a*a/\a*a<=1000000000000000000:=by
 have e:∃ b:Nat,b<=1000000000/\a*a=((b*b:Nat):Int):=by
  refine⟨a.natAbs,by omega,?_⟩;exact (Int.natAbs_mul_self).symm
 obtain⟨b,r,u⟩:=e;have:=Ge r r;omega
theorem yS (K:Nat)(x y:Int)(I:1048577<K):Tot (Q46.f K (x,y,())) λ_=>True:=by
 simp only[Q46.f];rw[kS K x,kS K y];simp only[FJ];have M:=Bb (uz x);have O:=Bb (uz y);generalize gb x*gb x=a at *;generalize gb y*gb y=b at *;have u:wr .i64 a=a:=aC (by omega) (by omega);have z:wr .i64 b=b:=aC (by omega) (by omega);have H:wr .i64 (a+b)=(((a+b).toNat:Nat):Int):=(aC (by omega) (by omega)).trans (by omega);rw[u,z,H];obtain⟨r,_,J⟩:=yR K (a+b).toNat (by omega) I;rw[J];simp only[FJ];rw[kS K r];exact⟨_,rfl,trivial⟩
theorem CF (K:Nat)(c d:cW)(r:1048577<K):Tot (Q47.f K (c,d,())) λ_=>True:=by
 simp only[Q47.f];exact Tot.bind (fu K c).tot λ_ _=>Tot.cnd (λ_=>Tot.ret trivial) λ_=>Tot.bind (fu K d).tot λ_ _=>Tot.cnd (λ_=>Tot.ret trivial) λ_=>Tot.bind (yS K _ _ r) λ_ _=>Tot.ret trivial
theorem lz (K:Nat)(n y u:Int)(h:y<=u):Tot (Q41.f K (n,y,u,())) λr=>InP r.1.1 y u:=by
 simp only[Q41.f];exact Tot.cnd (λ_=>Tot.ret ⟨GE _,h⟩) λz=>Tot.cnd (λ_=>Tot.ret ⟨h,GE _⟩) λH=>Tot.ret ⟨Int.not_lt.1 (of_decide_eq_false z),Int.not_lt.1 (of_decide_eq_false H)⟩
theorem CG (K:Nat)(c b:cW)(t s:Int)(H:bX c)(R:1048577<K):Tot (Q52.f K (c,b,t,s,())) λr=>bX r.1.1:=by
 simp only[Q52.f];refine Tot.bind (fu K c).tot λv M=>Tot.cnd (λh=>?_) λ_=>Tot.bind (fu K b).tot λv M=>Tot.cnd (λ_=>Tot.ret H) λy=>Tot.bind (cK K _ _ _).tot λv' O=>Tot.cnd (λ_=>Tot.ret H) λz=>?_
 ·rw[M.2 H]at h;cases h
 have Z:=M.1 (by simpa using y);have ht:=O.1 (by simpa using z);obtain⟨_,_,_,⟨c1,c2⟩⟩:=H;obtain⟨_,_,_,⟨b1,b2⟩⟩:=Z;obtain⟨t1,t2⟩:=ht;have Y:¬ wr .i64 (c.2.2.2+b.2.2.2)=0:=by rw[aC (by omega) (by omega)];omega
 have u:∀ w:Int,Tot (Q51.f K (c,b,w,t,())) λr=>InP r.1.1 1 1500:=λw=>by
  simp only[Q51.f,Q50.f];refine Tot.bind (P:=λ_=>True) (Tot.cnd (λ_=>Tot.ret trivial) λ_=>Tot.ret trivial) λ_ _=>Tot.not (decide_eq_false (show ¬ t=0 by omega)) (Tot.bind (lz K _ _ _ (by omega)) λ_ _=>Tot.not (decide_eq_false Y) (Tot.bind (lz K _ _ _ (by omega)) λ_ h=>Tot.ret h))
 refine Tot.bind (CF K c b R) λ_ _=>?_
 simp only[Q48.f];refine Tot.bind (P:=λ_=>True) (Tot.not (decide_eq_false Y) (Tot.ret trivial)) λ_ _=>Tot.bind (yS K _ _ R) λn _=>Tot.cnd (λ_=>?_) λh=>?_
 ·simp only[Q49.f];refine Tot.bind (P:=λ_=>True) (Tot.cnd (λ_=>Tot.ret trivial) λ_=>Tot.cnd (λ_=>Tot.ret trivial) λ_=>Tot.cnd (λ_=>Tot.ret trivial) λ_=>Tot.ret trivial) λ_ _=>Tot.cnd (λ_=>?_) λ_=>?_ <;>
  exact Tot.bind (lz K _ _ _ (by omega)) λ_ I=>Tot.bind (lz K _ _ _ (by omega)) λ_ y=>Tot.bind (lz K _ _ _ (by omega)) λ_ z=>Tot.bind (u _) λ_ J=>Tot.ret ⟨I,y,z,J⟩
 ·have X:¬ n.1.1=0:=by simpa using h
  refine Tot.cnd (λ_=>?_) λ_=>?_ <;>
  exact Tot.not (decide_eq_false X) (Tot.bind (lz K _ _ _ (by omega)) λ_ I=>Tot.not (decide_eq_false X) (Tot.bind (lz K _ _ _ (by omega)) λ_ y=>Tot.bind (lz K _ _ _ (by omega)) λ_ z=>Tot.bind (u _) λ_ J=>Tot.ret ⟨I,y,z,J⟩))
noncomputable def lg (K:Nat)(c b:cW)(t s:Int):cW:=((Q52.f K (c,b,t,s,())).getD (((0,0,0,0),()),())).1.1
noncomputable def lA (K:Nat)(l:List Int):Int:=((Q53.f K (l,())).getD ((0,()),())).1.1
theorem uA (K:Nat)(c b:cW)(t s:Int)(u:bX c)(r:1048577<K):Q52.f K (c,b,t,s,())=some ((lg K c b t s,()),())/\bX (lg K c b t s):=by
 obtain⟨⟨⟨v,⟨⟩⟩,⟨⟩⟩,e,h⟩:=CG K c b t s u r;unfold lg;rw[e];exact⟨rfl,h⟩
theorem med_t (K:Nat)(l:List Int)(hl:l.length<=100)(hK:1048577<K):Tot (Q53.f K (l,())) λ_=>True:=by
 simp only[Q53.f,Q53.pre];have u:∀ J:List Int,J.length<=100->Tot (Q53.l0 K (l,()) (J,[],0)) λ_=>True:=λJ hx=>by
  refine Tot.iter (step:=λrec a=>Q53.s0 K (l,()) (Q53.l1 K (l,()) rec) rec a) (λa=>a.1=J/\0<=a.2.2/\a.2.2<=J.length/\(a.2.1.length:Int)=a.2.2) (λa=>J.length-a.2.2.toNat) ?_ K _ (by show J.length-FL 0<K;omega) ⟨rfl,by show (0:Int)<=0;omega,by show (0:Int)<=_;omega,rfl⟩;rintro rec ⟨ys,H,i⟩ ⟨rfl,X,h1,h2⟩ Z;simp only at X h1 h2 hx Z ⊢;simp only[Q53.s0];obtain⟨i,rfl⟩:=FP X;refine Tot.cnd (λh=>?_) λ_=>Tot.cnd (λ_=>Tot.ret trivial) λh=>?_
  ·have I:=of_decide_eq_true h;clear h;refine Tot.iter (step:=λz a=>Q53.s1 K (l,()) rec z a) (λa=>a.1=ys/\a.2.1=H/\a.2.2.1=i/\0<=a.2.2.2/\a.2.2.2<=H.length) (λa=>H.length-a.2.2.2.toNat) ?_ K _ (by show H.length-FL 0<K;omega) ⟨rfl,rfl,rfl,by show (0:Int)<=0;omega,by show (0:Int)<=_;omega⟩;rintro z ⟨R,r,j,k⟩ ⟨rfl,rfl,e,k0,k1⟩ O;simp only at e k0 k1 I h1 h2 hx O Z ⊢;subst e;simp only[Q53.s1];obtain⟨k,rfl⟩:=FP k0;have a0:∀ y:Int,Tot (rec (R,(([]++((r.take (FL (k:Int))).drop (FL 0)))++([y]))++((r.take (FL (FK r:Int))).drop (FL (k:Int))),wr .i64 ((i:Int)+1))) λ_=>True:=λy=>by
    rw[ar i (by omega)];refine Z _ ⟨rfl,by show (0:Int)<=((i+1:Nat):Int);omega,by show ((i+1:Nat):Int)<=_;omega,?_⟩ (by show R.length-FL ((i+1:Nat):Int)<R.length-FL (i:Int);omega);simp only[FN,Gf,GB,FX,FZ,GC,GF,FT,FW];omega
   have M:Tot (bif decide (0<=0)&&decide ((0:Int)<=(k:Int))&&decide ((k:Int)<=(FK r:Int))&&true then (bif decide ((FK ([]:List (Ty.den (.int .i64)))+FK ((r.take (FL (k:Int))).drop (FL 0)))*8<=am) then ((idx R (i:Int)).bind λy3=>bif decide ((FK ([]++((r.take (FL (k:Int))).drop (FL 0)))+FK ([y3]))*8<=am) then (bif decide ((0:Int)<=(k:Int))&&decide ((k:Int)<=(FK r:Int))&&decide ((FK r:Int)<=(FK r:Int))&&true then (bif decide ((FK (([]++((r.take (FL (k:Int))).drop (FL 0)))++([y3]))+FK ((r.take (FL (FK r:Int))).drop (FL (k:Int))))*8<=am) then (rec (R,(([]++((r.take (FL (k:Int))).drop (FL 0)))++([y3]))++((r.take (FL (FK r:Int))).drop (FL (k:Int))),wr .i64 ((i:Int)+1))) else none) else none) else none) else none) else none) λ_=>True:=by
    refine Tot.must (by simp only[GK,decide_eq_true_eq,Gx];omega) (Tot.fit (Tot.ix X I λy _ _=>Tot.fit (Tot.must (by simp only[GK,decide_eq_true_eq,Gx];omega) (Tot.fit (a0 y) (by omega) ?_)) (by omega) ?_) (by omega) ?_) <;>
    simp only[FN,Gf,GB,FX,FZ,GC,GF,FT,FW] <;> omega
   refine Tot.cnd (λY=>?_) λ_=>M
   have Y:=of_decide_eq_true Y;refine Tot.ix k0 Y λy1 _ _=>Tot.ix X I λy2 _ _=>Tot.cnd (λ_=>?_) λ_=>M
   rw[ar k (by omega)];exact O _ ⟨rfl,rfl,rfl,by show (0:Int)<=((k+1:Nat):Int);omega,by show ((k+1:Nat):Int)<=_;omega⟩ (by show r.length-FL ((k+1:Nat):Int)<r.length-FL (k:Int);omega)
  ·have h:¬ (H.length:Int)=0:=by simpa using h
   rw[aC (n:=(H.length:Int)-1) (by omega) (by omega)];have e:Gh ((H.length:Int)-1) 2=((H.length:Int)-1) / 2:=by rw[GG (by omega)]
   rw[e,aC (by omega) (by omega)];exact Tot.ix (by omega) (by omega) λy _ _=>Tot.ret trivial
 refine Tot.cnd (λh=>?_) λ_=>u l hl
 have h:=of_decide_eq_true h;rw[aC (n:=(l.length:Int)-3) (by omega) (by omega)];exact Tot.must (by simp only[GK,decide_eq_true_eq,Gx];omega) (u _ (by simp only[GF,GC];omega))
theorem Bc (K:Nat)(l:List Int)(u:l.length<=100)(r:1048577<K):Q53.f K (l,())=some ((lA K l,()),()):=by
 obtain⟨⟨⟨v,⟨⟩⟩,⟨⟩⟩,e,_⟩:=med_t K l u r;unfold lA;rw[e];rfl
theorem sE {α A R:Type}(k:α->Int)(x:α)(t:List α)(hA:Asc k t)(Y S1:List α->Nat->A)(I:List α->Option R){step:(A->Option R)->A->Option R}
  (h0:∀ (rec:A->Option R) (r:List α) (i:Nat) (O:i<t.length),r.length=i->(∀ y∈t.take i,k y<k x)->step rec (Y r i)=if k t[i]<k x then rec (Y (r++[t[i]]) (i+1)) else if k t[i]=k x then rec (S1 (r++[x]) (i+1)) else rec (S1 (r++[x]++[t[i]]) (i+1)))
  (h1:∀ (rec:A->Option R) (r:List α) (i:Nat) (O:i<t.length),r.length<=i+1->k x<k t[i]->step rec (S1 r i)=rec (S1 (r++[t[i]]) (i+1)))
  (e0:∀ (rec:A->Option R) (r:List α),r.length=t.length->(∀ y∈t,k y<k x)->step rec (Y r t.length)=I (r++[x]))
  (e1:∀ (rec:A->Option R) (r:List α),r.length<=t.length+1->step rec (S1 r t.length)=I r) {K:Nat} (Z:t.length<K):ae step K (Y [] 0)=I (bD k x t):=by
 have r1:∀ (n i K:Nat) (r:List α),i+n=t.length->n<K->r.length<=i+1->(∀ y∈t.drop i,k x<k y)->ae step K (S1 r i)=I (r++t.drop i):=by
  intro n;induction n with
  |zero =>
   intro i K r O Z M _;obtain⟨K,rfl⟩:∃ X,K=X+1:=⟨K-1,by omega⟩;have:i=t.length:=by omega
   subst this;show step (ae step K) _=_;rw[e1 _ _ M,Gl,FY]
  |succ n ih =>
   intro i K r O Z M hg;obtain⟨K,rfl⟩:∃ X,K=X+1:=⟨K-1,by omega⟩;have u:i<t.length:=by omega
   rw[FU u]at hg;show step (ae step K) _=_;rw[h1 _ _ _ u M (hg _ (.head _)),ih (i+1) K _ (by omega) (by omega) (by simp;omega) (λy z=>hg y (.tail _ z)),FU u];simp
 have H:∀ i (O:i<t.length),∀ y∈t.drop (i+1),k t[i]<k y:=λi O y z=>by
  have:=List.Pairwise.drop (i:=i) hA;rw[FU O]at this;exact (F7.1 this).1 y z
 have r0:∀ (n i K:Nat) (r:List α),i+n=t.length->n<K->r=t.take i->(∀ y∈t.take i,k y<k x)->ae step K (Y r i)=I (bD k x t):=by
  intro n;induction n with
  |zero =>
   intro i K r O Z M J;obtain⟨K,rfl⟩:∃ X,K=X+1:=⟨K-1,by omega⟩;have:i=t.length:=by omega
   subst this;rw[GR]at M J;subst M;show step (ae step K) _=_;rw[e0 _ _ rfl J];unfold bD;rw[F1.2 (by simpa using J),F6.2 (λy z=>by have:=J y z;simp;omega)]
  |succ n ih =>
   intro i K r O Z M J;obtain⟨K,rfl⟩:∃ X,K=X+1:=⟨K-1,by omega⟩;have u:i<t.length:=by omega
   subst M;have a1:(t.take i).length=i:=by rw[GC];omega
   show step (ae step K) _=_;rw[h0 _ _ _ u a1 J];have a0:k x<=k t[i]->bD k x t=t.take i++x::(t.drop i).filter (λy=>decide (k x<k y)):=λhc=>by
    unfold bD;conv=>lhs;rw[<- Gk i t]
    rw[GJ,GJ,F1.2 (by simpa using J),(F6 (l:=t.take i)).2 (λy z=>by have:=J y z;simp;omega),FX];rw[FU u,F3,if_neg (by simp;omega),F6.2 (λy z=>by have:=H i u y z;simp;omega),FY]
   by_cases hc:k t[i]<k x
   ·rw[if_pos hc];refine ih (i+1) K _ (by omega) (by omega) (by rw[HE,FV u];rfl) λy z=>?_
    rw[HE,FV u]at z;rcases GO.1 z with z|z
    ·exact J y z
    ·simp at z;rw[z];exact hc
   ·rw[if_neg hc,a0 (by omega),FU u];by_cases he:k t[i]=k x
    ·rw[if_pos he,r1 n (i+1) K _ (by omega) (by omega) (by simp;omega) (λy z=>by have:=H i u y z;omega),F3,if_neg (by simp;omega),F1.2 (λy z=>by have:=H i u y z;simp;omega)];simp
    ·rw[if_neg he,r1 n (i+1) K _ (by omega) (by omega) (by simp;omega) (λy z=>by have:=H i u y z;omega),F3,if_pos (by simp;omega),F1.2 (λy z=>by have:=H i u y z;simp;omega)];simp
 exact r0 t.length 0 K [] (by omega) Z rfl (by simp)
theorem yT {t:List ah}{f:ah}(h:∀ g∈t,g.1<f.1):(bZ t f).1=t++[f]:=by
 rw[iU (λg r e=>by have:=h g r;omega)];unfold bD;rw[F1.2 (by simpa using h),F6.2 (λy u=>by have:=h y u;simp;omega)]
theorem qS:∀ {fs t:List ah},Asc (λf:ah=>f.1) fs->(∀ g∈t,∀ f∈fs,g.1<f.1)->fG t fs=t++fs
 |[],t,_,_=>by simp[fG]
 |f::fs,t,u,h=>by
  show fG (bZ t f).1 fs=_;rw[yT (λg r=>h g r f (by simp)),qS (F7.1 u).2 ?_]
  ·simp
  ·intro g r e y;rcases GO.1 r with r|r
   ·exact h g r e (by simp[y])
   ·rw[F9.1 r];exact (F7.1 u).1 e y
theorem xq {fs:List ah}(h:aE fs):fG [] fs=fs:=by
 rw[qS h.2 (by simp)];rfl
theorem BP (K:Nat)(a b:List ah)(r:aE a)(u:aE b)(y:1048577<K):Q33.f K (a,b,())=some ((fG a b,()),()):=by
 simp only[Q33.f,Q33.pre];obtain⟨R,I,J⟩:=gW K a (cf r) y;obtain⟨X,M,O⟩:=gW K b (cf u) y;have:=cf r;have:=cf u;rw[I,M,J.2 r,O.2 u];simp only[FJ,FO,cond_false];rw[szb _ _ _ (by omega) (by show (FK ([]:List ah))+a.length<=_;simp;omega)];simp only[cond_true,FX];refine pq a b r u.1 (step:=λrec x=>Q33.s0 K (a,b,()) rec x) (λt=>some ((t,()),())) ?_ ?_ (by omega)
 ·intro rec t i H z;simp only[Q33.s0];rw[bt (by omega:(i:Int)<(FK b:Int)),af H,ar i (by omega)];simp only[cond_true,FJ];rw[xh K t _ (cf z) z.2 y];rfl
 ·intro rec t;simp only[Q33.s0,aS];rfl
theorem qd {u:Int}{l:List ch}(h:dn u l)(s:Int):aE (fg l s):=by
 rcases sn (l:=l) (s:=s) with e|⟨x,r,_,e⟩ <;> rw[e]
 ·exact⟨by simp,List.Pairwise.nil⟩
 ·exact (h.1 x r).2.2.2.1
theorem olen {u:Int}{l:List ch}(h:dn u l):l.length<=1048576:=GA (jx h.2 λx r=>⟨(h.1 x r).1.1,Gi (h.1 x r).1.2 (by decide)⟩) (by decide)
theorem yU (K:Nat)(n:aa)(s:Int)(t:List ah)(h:dn n.1 (aa.others n))(r:aE t)(y:1048577<K):Q34.f K (n,s,t,())=some ((fG (fg (aa.others n) s) t,()),()):=by
 have z:=olen h;refine qG (step:=λrec a=>Q34.s0 K (n,s,t,()) rec a) (aa.others n) s (λl=>some ((fG l t,()),())) ?_ ?_ (aa.others n).length 0 K (by omega) (by omega)
 ·intro rec i u;simp only[Q34.s0];rw[bt (by omega:(i:Int)<(FK (aa.others n):Int)),af u,ar i (by omega)];simp only[cond_true,FJ];cases (aa.others n)[i].1==s with
  |false=>rfl
  |true=>exact (congrArg (λo=>FQ o _) (BP K _ t (h.1 _ (FM u)).2.2.2.1 r y)).trans rfl
 ·intro rec;simp only[Q34.s0,aS,cond_false];rw[xq r];refine (congrArg (λb=>bif b then _ else _) (szb (FK ([]:List ah)) t.length 32 (by omega) ?_)).trans rfl;have:=cf r;simp;omega
theorem sum_s (K:Nat)(n:aa)(s:Int)(t:List ah)(h:dn n.1 (aa.others n))(R:1048577<K):Q35.f K (n,s,t,())=some ((oa n (bD (λx:ch=>x.1) (s,t) (aa.others n)),()),()):=by
 have X:=olen h;refine sE (step:=λrec a=>Q35.s0 K (n,s,t,()) rec a) (λx:ch=>x.1) (s,t) (aa.others n) h.2 (λr i=>(r,false,(i:Int))) (λr i=>(r,true,(i:Int))) (λo=>some ((oa n o,()),())) ?_ ?_ ?_ ?_ (by omega)
 ·intro rec r i I H _;simp only[Q35.s0,zcp4,zcp8];rw[bt (by omega:(i:Int)<(FK (aa.others n):Int)),af I,ar i (by omega)];simp only[cond_true,FJ,F4];have z:=szb r.length 1 32 (by omega) (by omega);have O:=szb (r++[(s,t)]).length 1 32 (by omega) (by simp;omega);generalize (aa.others n)[i]=y at *;by_cases J:y.1<s
  ·rw[if_pos J,show decide (y.1>=s)=false from decide_eq_false (by omega),show (y.1 != s)=true by simp;omega];exact (congrArg (λb=>bif b then _ else _) z).trans rfl
  ·rw[if_neg J,show decide (y.1>=s)=true from decide_eq_true (by omega)];refine (congrArg (λb=>bif b then _ else _) z).trans ?_;by_cases u:y.1=s
   ·rw[if_pos u,show (y.1 != s)=false by simpa using u];rfl
   ·rw[if_neg u,show (y.1 != s)=true by simpa using u];exact (congrArg (λb=>bif b then _ else _) O).trans rfl
 ·intro rec r i I H M;simp only[Q35.s0,zcp4,zcp8];rw[bt (by omega:(i:Int)<(FK (aa.others n):Int)),af I,ar i (by omega)];simp only[cond_true,FJ,FO,cond_false];have z:=szb r.length 1 32 (by omega) (by omega);rw[show ((aa.others n)[i].1 != s)=true by simp;have:s<_:=M;omega];exact (congrArg (λb=>bif b then _ else _) z).trans rfl
 ·intro rec r H _;simp only[Q35.s0,zcp4,zcp8,aS,cond_false,F4,cond_true];exact (congrArg (λb=>bif b then _ else _) (szb r.length 1 32 (by omega) (by omega))).trans rfl
 ·intro rec r H;simp only[Q35.s0,zcp4,zcp8,aS,cond_false,FO];rfl
theorem At (K:Nat)(a b:List ah)(Z:a.length<=1048576)(Y:1048577<K):Q36.f K (a,b,())=rb (decide (a≠b)):=by
 simp only[Q36.f,Q36.pre];by_cases M:a.length=b.length
 ·rw[show ((FK a:Int) != (FK b:Int))=false by simp;omega];have:=cG (step:=λrec x=>Q36.s0 K (a,b,()) rec x) a.length (λi=>(i:Int)) (λj=>∃ (h:j<a.length) (X:j<b.length),a[j]≠b[j]) (rb false) (λ_=>rb true) ?_ ?_ a.length K 0 (by omega) (by omega)
  ·rcases this with ⟨H,u⟩|⟨j,_,H,⟨y,I,O⟩,_,u⟩
   ·refine (u:Q36.l0 K (a,b,()) 0=_).trans ?_;rw[decide_eq_false];rintro z;exact z (Gz M λi y I=>GN.1 λR=>H i (F5 _) y ⟨y,I,R⟩)
   ·refine (u:Q36.l0 K (a,b,()) 0=_).trans ?_;rw[decide_eq_true];rintro rfl;exact O rfl
  ·intro rec i J;simp only[Q36.s0];rw[bt (by omega:(i:Int)<(FK a:Int)),af J,ar i (by omega),af (show i<b.length by omega)];simp only[cond_true,FJ];rw[show Ty.eqv t2 a[i] (b[i]'(by omega))=decide (a[i]=b[i]'(by omega)) from iE _ _];by_cases r:a[i]=b[i]'(by omega)
   ·exact .inl ⟨λ⟨_,_,h⟩=>h r,by rw[decide_eq_true r];rfl⟩
   ·exact .inr ⟨⟨J,by omega,r⟩,by rw[decide_eq_false r];rfl⟩
  ·intro rec;simp only[Q36.s0,aS];rfl
 ·rw[show ((FK a:Int) != (FK b:Int))=true by simp;omega,decide_eq_true (show a≠b from λe=>M (by rw[e]))];rfl
theorem rP (K:Nat)(l:List Int)(t:Int)(u:l.length<=1048576):Q42.f K (l,t,())=some ((dC l t,()),()):=by
 simp only[Q42.f];rw[szb _ _ _ (by omega) (by show (FK ([]:List Int))+l.length<=_;simp;omega)];simp only[cond_true,FX];rw[szb _ _ _ (by omega) (by show l.length+[t].length<=_;simp;omega)];simp only[cond_true];have r:(l++[t]).length=l.length+1:=by simp
 show (bif decide (((l++[t]).length:Int)>3) then (bif decide (0<=wr .i64 (((l++[t]).length:Int)-3))&&decide (wr .i64 (((l++[t]).length:Int)-3)<=((l++[t]).length:Int))&&decide (((l++[t]).length:Int)<=((l++[t]).length:Int))&&true then some ((((l++[t]).take (FL ((l++[t]).length:Int))).drop (FL (wr .i64 (((l++[t]).length:Int)-3))),()),()) else none) else some ((l++[t],()),()))=_;by_cases h:l.length+1>3
 ·rw[aC (by omega) (by omega),decide_eq_true (by omega:((l++[t]).length:Int)>3),decide_eq_true (by omega:(0:Int)<=((l++[t]).length:Int)-3),decide_eq_true (by omega:((l++[t]).length:Int)-3<=((l++[t]).length:Int)),decide_eq_true (GE _)];simp only[Gb,cond_true,dC];rw[show FL (((l++[t]).length:Int)-3)=(l++[t]).length-3 by omega,FN,GR]
 ·rw[decide_eq_false (by omega:¬ ((l++[t]).length:Int)>3)];simp only[cond_false,dC];rw[show (l++[t]).length-3=0 by omega,GB]
theorem plen {u:Int}{l:List cm}(h:eT u l):l.length<=1048576:=GA (jx h.2 λx r=>(h.1 x r).1) (by decide)
theorem pA {y:Int}{l:List cm}(h:eT y l)(r:Int):(ci l r).length<=3:=by
 unfold ci;cases u:l.find? λp=>p.1==r with
 |none=>simp
 |some p =>
  have:=(h.1 p (GQ u)).2.2.2.2.1.2;show p.2.2.length<=3;omega
theorem BQ (K:Nat)(l:List cm)(r:Int)(c:cW)(t:Int)(me:Int)(h:eT me l)(hK:1048577<K):Q43.f K (l,r,c,t,())=some ((jQ l r c t,()),()):=by
 have hl:=plen h;have h3:=pA h r;refine sE (step:=λrec a=>Q43.s0 K (l,r,c,t,()) rec a) (λx:cm=>x.1) (r,c,dC (ci l r) t) l h.2 (λu i=>(u,false,(i:Int),[])) (λu i=>(u,true,(i:Int),dC (ci l r) t)) (λo=>some ((o,()),())) ?_ ?_ ?_ ?_ (by omega)
 ·intro rec u i I J z;simp only[Q43.s0];rw[bt (by omega:(i:Int)<(FK l:Int)),af I,ar i (by omega)];simp only[cond_true,FJ,F4];have X:=szb u.length 1 64 (by omega) (by omega);have z2:=szb (u++[(r,c,dC (ci l r) t)]).length 1 64 (by omega) (by simp;omega);have M:l[i].1=r->ci l r=l[i].2.2:=λe=>by unfold ci;rw[mR h.2 I e];rfl
  have O:r<l[i].1->ci l r=[]:=λe=>by
   unfold ci;rw[mo (k:=λp:cm=>p.1)]
   ·rfl
   intro y R;obtain⟨j,hj,rfl⟩:=FS R;by_cases a0:j<i
   ·have:=z l[j] (by rw[Gt];exact⟨j,by omega,rfl⟩);show l[j].1≠r;have:l[j].1<r:=this;omega
   ·have:l[i].1<=l[j].1:=by
     by_cases e:i=j
     ·subst e;exact GE _
     ·exact Gr (ct.1 h.2 i j I hj (by omega))
    show l[j].1≠r;omega
  have a1:=(h.1 _ (FM I)).2.2.2.2.1.2;generalize l[i]=y at *;by_cases Y:y.1<r
  ·rw[if_pos Y,show decide (y.1>=r)=false from decide_eq_false (by omega),show (y.1 != r)=true by simp;omega,show (y.1==r)=false by simp;omega];exact (congrArg (λb=>bif b then _ else _) X).trans rfl
  ·rw[if_neg Y,show decide (y.1>=r)=true from decide_eq_true (by omega)];by_cases H:y.1=r
   ·rw[if_pos H,show (y.1 != r)=false by simpa using H,show (y.1==r)=true by simpa using H];simp only[cond_true,cond_false];rw[<- M H];refine (congrArg (λo=>FQ o _) (rP K _ t (by omega))).trans ?_;exact (congrArg (λb=>bif b then _ else _) X).trans rfl
   ·rw[if_neg H,show (y.1 != r)=true by simpa using H,show (y.1==r)=false by simpa using H];simp only[cond_true,cond_false];have e:=O (by omega);rw[e]at z2 ⊢;refine (congrArg (λo=>FQ o _) (rP K [] t (by simp))).trans ?_;refine (congrArg (λb=>bif b then _ else _) X).trans ?_;exact (congrArg (λb=>bif b then _ else _) z2).trans rfl
 ·intro rec u i I J Z;simp only[Q43.s0];rw[bt (by omega:(i:Int)<(FK l:Int)),af I,ar i (by omega)];have Z:r<l[i].1:=Z;simp only[cond_true,FJ,FO,cond_false];rw[show (l[i].1 != r)=true by simp;omega,show (l[i].1==r)=false by simp;omega];exact (congrArg (λb=>bif b then _ else _) (szb u.length 1 64 (by omega) (by omega))).trans rfl
 ·intro rec u J z;simp only[Q43.s0,aS,cond_false,F4,cond_true];have e:ci l r=[]:=by
   unfold ci;rw[mo (k:=λp:cm=>p.1) (λy R=>by have:y.1<r:=z y R;show y.1≠r;omega)];rfl
  rw[e];refine (congrArg (λo=>FQ o _) (rP K [] t (by simp))).trans ?_;exact (congrArg (λb=>bif b then _ else _) (szb u.length 1 64 (by omega) (by omega))).trans rfl
 ·intro rec u J;simp only[Q43.s0,aS,cond_false,FO]
def iZ (n u r:Int):Int:=if n<u then u else if n>r then r else n
theorem di (K:Nat)(n z y:Int):Q41.f K (n,z,y,())=some ((iZ n z y,()),()):=by
 simp only[Q41.f,iZ];by_cases r:n<z
 ·rw[decide_eq_true r,if_pos r];rfl
 ·rw[decide_eq_false r,if_neg r];by_cases u:n>y
  ·rw[decide_eq_true u,if_pos u];rfl
  ·rw[decide_eq_false u,if_neg u];rfl
theorem BR {n u r:Int}(h:u<=r):InP (iZ n u r) u r:=by
 unfold iZ;split
 ·exact⟨GE _,h⟩
 ·split
  ·exact⟨h,GE _⟩
  ·exact⟨by omega,by omega⟩
def gy (n:aa):Int:=iZ ((cg n-(aa.probe n).2.1)*1000+500) 1 60000
noncomputable def nc (K:Nat)(w:aj)(c:cW)(p:cm):cW:=bif p.1==w.2.2.1 then lg K c (aj.coord w) (lA K p.2.2) w.2.2.2.2.1 else c
def gI (n:aa)(w:aj):List cm:=jQ (aa.places n) w.2.2.1 (aj.coord w) (gy n)
def jR (n:aa)(w:aj):Bool:=!decide ((aa.probe n).1<0)&&(aa.probe n).1==w.2.2.1&&(aa.probe n).2.2.1==w.2.2.2.2.1&&w.2.2.2.2.2.1==w.2.2.1
noncomputable def cX (K:Nat)(n:aa)(w:aj):aa:=bif jR n w then oc n ((gI n w).foldl (nc K w) (aa.coord n)) (gI n w) else n
theorem wt {K:Nat}{w:aj}{c:cW}{p:cm}(r:bX c)(u:1048577<K):bX (nc K w c p):=by
 unfold nc;cases p.1==w.2.2.1 with
 |false=>exact r
 |true=>exact (uA K c _ _ _ r u).2
theorem nd {n:aa}(h:UpX n)(H:¬ (aa.probe n).1<0):(aa.probe n).1≠n.1/\InP (aa.probe n).1 0 7/\ak (aa.probe n).1=ak n.1/\InP (aa.probe n).2.1 0 (cg n):=by
 have r:=h.probe;unfold dm at r;rw[if_neg (by omega)]at r;obtain⟨y,⟨f,u,e⟩,z,_⟩:=r;exact⟨y,e ▸ (h.table.1 f u).1,e ▸ h.site f u,z⟩
theorem rQ {n:aa}{w:aj}(h:UpX n)(J:bX (aj.coord w))(r:jR n w=true):eT n.1 (gI n w):=by
 simp only[jR,GK,HF,decide_eq_false_iff_not,beq_iff_eq]at r;obtain⟨⟨⟨H,I⟩,M⟩,O⟩:=r;obtain⟨u,y,z,_⟩:=nd h H;rw[I]at u y z;exact xo h.places y z u J (BR (by decide))
theorem ack_s (K:Nat)(n:aa)(w:aj)(h:UpN n)(hw:bX (aj.coord w))(J:1048577<K):Q54.f K (n,w,())=some ((cX K n w,()),()):=by
 simp only[Q54.f,Q54.pre,zc00556];have H:jR n w=(!decide ((aa.probe n).1<0)&&(aa.probe n).1==w.2.2.1&&(aa.probe n).2.2.1==w.2.2.2.2.1&&w.2.2.2.2.2.1==w.2.2.1):=rfl;by_cases r:(aa.probe n).1<0
 ·rw[show decide (n.2.2.2.2.2.2.2.2.2.2.1.1<0)=true from decide_eq_true r];rw[show cX K n w=n by unfold cX;rw[H,decide_eq_true r];rfl];rfl
 ·rw[show decide (n.2.2.2.2.2.2.2.2.2.2.1.1<0)=false from decide_eq_false r];cases u:(aa.probe n).1==w.2.2.1 with
  |false =>
   rw[show cX K n w=n by unfold cX;rw[H,decide_eq_false r,u];rfl];rw[show (n.2.2.2.2.2.2.2.2.2.2.1.1 != w.2.2.1)=true by unfold bne;rw[show (n.2.2.2.2.2.2.2.2.2.2.1.1==w.2.2.1)=false from u];rfl];rfl
  |true =>
   rw[show (n.2.2.2.2.2.2.2.2.2.2.1.1 != w.2.2.1)=false by unfold bne;rw[show (n.2.2.2.2.2.2.2.2.2.2.1.1==w.2.2.1)=true from u];rfl];cases z:(aa.probe n).2.2.1==w.2.2.2.2.1 with
   |false =>
    rw[show cX K n w=n by unfold cX;rw[H,decide_eq_false r,u,z];rfl];rw[show (n.2.2.2.2.2.2.2.2.2.2.1.2.2.1 != w.2.2.2.2.1)=true by unfold bne;rw[show (n.2.2.2.2.2.2.2.2.2.2.1.2.2.1==w.2.2.2.2.1)=false from z];rfl];rfl
   |true =>
    rw[show (n.2.2.2.2.2.2.2.2.2.2.1.2.2.1 != w.2.2.2.2.1)=false by unfold bne;rw[show (n.2.2.2.2.2.2.2.2.2.2.1.2.2.1==w.2.2.2.2.1)=true from z];rfl];cases I:w.2.2.2.2.2.1==w.2.2.1 with
    |false =>
     rw[show cX K n w=n by unfold cX;rw[H,decide_eq_false r,u,z,I];rfl];rw[show (w.2.2.2.2.2.1 != w.2.2.1)=true by unfold bne;rw[I];rfl];rfl
    |true =>
     have O:jR n w=true:=by rw[H,decide_eq_false r,u,z,I];rfl
     rw[show (w.2.2.2.2.2.1 != w.2.2.1)=false by unfold bne;rw[I];rfl];have Y:=(nd h.x r).2.2.2;have hn:=h.now1;have R:=rQ h.x hw O;simp only[cond_false];rw[show wr .i64 (wr .i64 (wr .i64 (n.2.2.2.2.2.1-n.2.2.2.2.2.2.2.2.2.2.1.2.1)*1000)+500)=(cg n-(aa.probe n).2.1)*1000+500 by
      obtain⟨p1,p2⟩:=Y;show wr .i64 (wr .i64 (wr .i64 (cg n-(aa.probe n).2.1)*1000)+500)=_;rw[aC (n:=cg n-_) (by omega) (by omega),aC (n:=_*1000) (by omega) (by omega),aC (by omega) (by omega)]]
     rw[di];simp only[FJ];refine (congrArg (λo=>FQ o _) (BQ K (aa.places n) w.2.2.1 (aj.coord w) (gy n) n.1 h.x.places J)).trans ?_;simp only[FJ];rw[show cX K n w=oc n ((gI n w).foldl (nc K w) (aa.coord n)) (gI n w) by unfold cX;rw[O];rfl];show Q54.l0 K (n,w,()) (0,(aa.coord n).1,(aa.coord n).2.1,(aa.coord n).2.2.1,(aa.coord n).2.2.2,gI n w)=_;have hl:=plen R;refine lw (step:=λrec a=>Q54.s0 K (n,w,()) rec a) (gI n w) (nc K w) bX (λc i=>((i:Int),c.1,c.2.1,c.2.2.1,c.2.2.2,gI n w)) (λc=>some ((oc n c (gI n w),()),())) (aa.coord n) h.x.coord ?_ ?_ (by omega)
     ·intro rec c i X M;refine⟨?_,wt M J⟩;simp only[Q54.s0,zc00556,zcp8];rw[bt (by omega:(i:Int)<(FK (gI n w):Int)),FN,af X,ar i (by omega)];simp only[cond_true,FJ];have Z:=(R.1 _ (FM X)).2.2.2.2.1.2;generalize (gI n w)[i]=y at *;unfold nc;cases y.1==w.2.2.1 with
      |false=>rfl
      |true =>
       simp only[cond_true];refine (congrArg (λo=>FQ o _) (Bc K y.2.2 (by omega) J)).trans ?_;refine (congrArg (λo=>FQ o _) (uA K c (aj.coord w) (lA K y.2.2) w.2.2.2.2.1 M J).1).trans ?_;rfl
     ·intro rec c M;simp only[Q54.s0,zc00556,zcp8,aS,cond_false];rfl
theorem CH {K:Nat}{n:aa}{w:aj}(h:UpN n)(z:bX (aj.coord w))(r:1048577<K):UpN (cX K n w)/\(cX K n w).1=n.1/\(cX K n w).2.2.1=n.2.2.1:=by
 unfold cX;cases u:jR n w with
 |false=>exact⟨h,rfl,rfl⟩
 |true=>exact⟨h.heard (mW (Inv:=bX) h.x.coord λc p _ y=>wt y r) (rQ h.x z u),rfl,rfl⟩
def ge (n:aa)(w:aj):Prop:=n.2.1=true/\n.2.2.1=false/\w.2.2.2.1=n.1/\w.2.2.1≠n.1 /\
 (if w.1=2 then w.2.1=6/\ak w.2.2.1≠ak n.1/\(cn (aj.table w) (ak n.1)\/cn (aj.table w) (ak w.2.2.1)) else ak w.2.2.1=ak n.1/\(w.2.1≠6\/¬ cn (aj.table w) (ak n.1)))
theorem rR (K:Nat)(n:aa)(w:aj)(J:(aj.table w).length<=1048576)(I:1048577<K):Ret (Q21.f K (n,w,())) (ge n w):=by
 refine (Ret.cndN (P:=¬ n.2.1=true) (b:=!n.2.1) (by simp) λ_=>Ret.cndN (P:=n.2.2.1=true) (b:=n.2.2.1) Iff.rfl λ_=>Ret.cndN (P:=w.2.2.2.1≠n.1) (b:=w.2.2.2.1 != n.1) (by simp) λ_=>Ret.cndN (P:=w.2.2.1=n.1) (b:=w.2.2.1==n.1) (by simp) λ_ =>
  (?_:Ret _ (if w.1=2 then w.2.1=6/\ak w.2.2.1≠ak n.1/\(cn (aj.table w) (ak n.1)\/cn (aj.table w) (ak w.2.2.1)) else ak w.2.2.1=ak n.1/\(w.2.1≠6\/¬ cn (aj.table w) (ak n.1))))).iff ?_
 ·refine Ret.vl (de K n.1) ?_;obtain⟨z,H,y⟩:=eo K (aj.table w) (ak n.1) J I;obtain⟨M,O,R⟩:=eo K (aj.table w) (ak w.2.2.1) J I;by_cases u:w.1=2
  ·rw[show (w.1==2)=true by simpa using u,if_pos u];refine Ret.cnd (P:=w.2.1=6) (b:=w.2.1==6) (by simp) λ_=>?_
   refine Ret.cnd (P:=ak w.2.2.1≠ak n.1) (b:=ak w.2.2.1 != ak n.1) (by simp) λ_=>Ret.vl H ?_
   cases z with
   |true=>exact Ret.yes (.inl (y.1 rfl))
   |false =>
    refine Ret.vl O ?_;exact Ret.of (b:=M) (R.trans ⟨.inr,λh=>h.resolve_left λh=>by have:=y.2 h;cases this⟩)
  ·rw[show (w.1==2)=false by simpa using u,if_neg u];refine Ret.cnd (P:=ak w.2.2.1=ak n.1) (b:=ak w.2.2.1==ak n.1) (by simp) λ_=>?_
   by_cases r:w.2.1=6
   ·show Ret (bif w.2.1 != 6 then _ else _) _;rw[show (w.2.1 != 6)=false by simpa using r];refine Ret.vl H (Ret.of (b:=!z) ?_);rw[HF,<- HK,y];exact⟨.inr,λh=>h.resolve_left λh=>h r⟩
   ·show Ret (bif w.2.1 != 6 then _ else _) _;rw[show (w.2.1 != 6)=true by simpa using r];exact Ret.yes (.inl r)
 ·unfold ge;rw[GN,HK,GN]
def qT (u:Int)(n:aa)(to y r:Int)(t:List ah):aj:=(1,u,n.1,to,y,r,aa.coord n,t)
theorem qU (K:Nat)(n:aa)(u to y r:Int)(t:List ah)(z:t.length<=1048576):Q22.f K (n,u,to,y,r,t,())=some ((qT u n to y r t,()),()):=by
 simp only[Q22.f];rw[szb _ _ _ (by omega) (by show (FK ([]:List ah))+t.length<=_;simp;omega)];rfl
def ne (t:List ah)(s:Int):Bool:=t.all λf=>ak f.1==s
theorem lB {t:List ah}{s:Int}:ne t s=true<->cn t s:=by simp[ne,cn]
def cz (t:List ah):ah:=(t.head?).getD (0,0,0,false)
def bN (n:aa)(w:aj):List ah:=fG (fg (aa.others n) (ak (cz (aj.table w)).1)) (aj.table w)
def xt (n:aa)(w:aj):aj:=(2,6,n.1,w.2.2.1,0,n.1,aa.coord n,bN n w)
def DE (n:aa)(w:aj):aa:=oa n (bD (λx:ch=>x.1) (ak (cz (aj.table w)).1,bN n w) (aa.others n))
def fw (n:aa)(w:aj):aa×List aj:=bif ne (aj.table w) (ak n.1) then (gB n (aj.table w) n.1,[]) else
 (DE n w,bif w.1==2&&decide (aj.table w≠bN n w) then [xt n w] else [])
theorem qW:∀ {fs t:List ah} {g:ah},g∈fG t fs->g∈t\/g∈fs
 |[],_,_,h=>.inl h
 |f::fs,t,g,h=>by
  rcases qW (fs:=fs) h with h|h
  ·have h:g∈(bZ t f).1:=h;rcases iF t f with e|e
   ·rw[e]at h;exact .inl h
   ·rw[e]at h;rcases bd.1 h with rfl|⟨h,_⟩
    ·exact .inr (by simp)
    ·exact .inl h
  ·exact .inr (by simp[h])
theorem qX:∀ {fs t:List ah} {g:ah},g∈t->∃ y∈fG t fs,y.1=g.1
 |[],_,g,h=>⟨g,h,rfl⟩
 |f::fs,t,g,h=>by
  obtain⟨J,H,r⟩:=nV (f:=f) h;obtain⟨z,I,u⟩:=qX (fs:=fs) H;exact⟨z,I,u.trans r⟩
theorem vM {t:List ah}(H:Asc (λg:ah=>g.1) t)(f:ah):∃ g∈(bZ t f).1,g.1=f.1:=by
 by_cases h:∃ g∈t,g.1=f.1
 ·obtain⟨g,r,e⟩:=h;obtain⟨u,y,z⟩:=nV (f:=f) r;exact⟨u,y,z.trans e⟩
 ·rw[iU λg r e=>h ⟨g,r,e⟩];exact⟨f,bd.2 (.inl rfl),rfl⟩
theorem lC {n:aa}{w:aj}(h:dn n.1 (aa.others n))(M:aE (aj.table w))(u:mS (aj.table w)):aE (bN n w)/\bN n w≠[]/\cn (bN n w) (ak (cz (aj.table w)).1):=by
 have z:=qd h (ak (cz (aj.table w)).1);refine⟨su z M.1,?_,?_⟩
 ·unfold bN;cases y:aj.table w with
  |nil=>rw[y]at u;exact u.elim
  |cons f l =>
   obtain⟨g,I,_⟩:=vM (f:=f) (t:=fg (aa.others n) (ak (cz (f::l)).1)) (by rw[y]at z;exact z.2);obtain⟨R,J,_⟩:=qX (fs:=l) I;exact HB J
 ·intro g r;rcases qW r with r|r
  ·rcases sn (l:=aa.others n) (s:=ak (cz (aj.table w)).1) with e|⟨x,O,H,e⟩
   ·rw[e]at r;cases r
   ·rw[e]at r;rw[<- H];exact (h.1 x O).2.2.2.2 g r
  ·cases y:aj.table w with
   |nil=>rw[y]at u;exact u.elim
   |cons f l =>
    rw[y]at u r;exact u g r
theorem wu {x:Int}(h:InP x 0 7):InP (ak x) 0 1:=by
 rw[jO h];obtain⟨r,u⟩:=h;constructor <;> omega
theorem uB {t:List ah}(r:mS t)(u:aE t):InP (cz t).1 0 7:=by
 cases t with
 |nil=>exact r.elim
 |cons f l=>exact (u.1 f (by simp)).1
theorem yV (K:Nat)(n:aa)(w:aj)(h:UpN n)(r:aE (aj.table w))(z:mS (aj.table w))(u:1048577<K):Q37.f K (n,w,())=some (((fw n w).1,(fw n w).2,()),()):=by
 simp only[Q37.f];rw[de K n.1];simp only[FJ];obtain⟨H,J,M⟩:=eo K (aj.table w) (ak n.1) (cf r) u;have O:ne (aj.table w) (ak n.1)=H:=by rw[GT,lB,M]
 unfold fw;rw[O];refine (congrArg (λo=>FQ o _) J).trans ?_;simp only[rb,FJ];cases H with
 |true =>
  simp only[cond_true];refine (congrArg (λo=>FQ o _) (wm K n (aj.table w) n.1 h.learns r.1 (cf r) h.x.me u)).trans rfl
 |false =>
  simp only[cond_false];obtain⟨I,X,Y⟩:=lC (n:=n) h.x.others r z;have y:idx (aj.table w) 0=some (cz (aj.table w)):=by
   cases R:aj.table w with
   |nil=>rw[R]at z;exact z.elim
   |cons f l=>rfl
  refine (congrArg (λo=>FQ o _) y).trans ?_;simp only[FJ];rw[de K];simp only[FJ];refine (congrArg (λo=>FQ o _) (yU K n (ak (cz (aj.table w)).1) (aj.table w) h.x.others r u)).trans ?_;simp only[FJ];refine (congrArg (λo=>FQ o _) (sum_s K n (ak (cz (aj.table w)).1) (bN n w) h.x.others u)).trans ?_;simp only[FJ];cases w.1==2 with
  |false=>rfl
  |true =>
   simp only[cond_true,GL];refine (congrArg (λo=>FQ o _) (At K (aj.table w) (bN n w) (cf r) u)).trans ?_;simp only[rb,FJ];cases decide (aj.table w≠bN n w) with
   |false=>rfl
   |true =>
    simp only[cond_true];refine (congrArg (λo=>FQ o _) (qU K (DE n w) 6 w.2.2.1 0 n.1 (bN n w) (cf I))).trans rfl
theorem xu {n:aa}{w:aj}(h:UpN n)(z:n.2.2.1=false)(y:aE (aj.table w))(r:mS (aj.table w)):UpN (fw n w).1/\(fw n w).1.1=n.1/\(fw n w).1.2.2.1=false:=by
 unfold fw;cases u:ne (aj.table w) (ak n.1) with
 |true=>exact jP h z y (lB.1 u) (fX.me h.x.me)
 |false =>
  obtain⟨I,J,M⟩:=lC (n:=n) h.x.others y r;refine⟨h.setOthers (xn h.x.others (wu (uB r y)) (λe=>?_) J I M),rfl,z⟩;have:cn (aj.table w) (ak n.1):=by
   cases H:aj.table w with
   |nil=>rw[H]at r;exact r.elim
   |cons f l=>rw[H]at r e;rw[<- e];exact r
  rw[lB.2 this]at u;cases u
noncomputable def er (K:Nat)(n:aa)(w:aj):aa×List aj :=
 bif w.2.1==1 then (bif ak w.2.2.2.2.2.1 != ak n.1 then (n,[]) else bif w.2.2.2.2.2.1==n.1 then (n,[]) else (jz n,[qT 2 (jz n) w.2.2.2.2.2.1 w.2.2.2.2.1 n.1 (iH n w.2.2.2.2.2.1)]))
 else bif w.2.1==3 then (bif ak w.2.2.2.2.2.1 != ak n.1 then (n,[]) else bif w.2.2.2.2.2.1==n.1 then (n,[]) else bif w.2.2.2.2.2.1==w.2.2.1 then (n,[]) else (jz n,[qT 1 (jz n) w.2.2.2.2.2.1 w.2.2.2.2.1 w.2.2.1 (iH n w.2.2.2.2.2.1)]))
 else bif w.2.1==4 then (n,[qT 5 n w.2.2.1 0 n.1 (aa.table n)]) else bif w.2.1==2 then (cX K n w,[]) else (n,[])
theorem Au (K:Nat)(n:aa)(w:aj)(h:UpN n)(z:bX (aj.coord w))(r:1048577<K):Q55.f K (n,w,())=some (((er K n w).1,(er K n w).2,()),()):=by
 simp only[Q55.f];rw[de K n.1];simp only[FJ];have u:=wo K n w.2.2.2.2.2.1 h.x.say r;have y:=cf (o6 h.x.say w.2.2.2.2.2.1);unfold er;cases w.2.1==1 with
 |true =>
  simp only[cond_true];rw[de K];simp only[FJ];cases ak w.2.2.2.2.2.1 != ak n.1 with
  |true=>rfl
  |false =>
   simp only[cond_false];cases w.2.2.2.2.2.1==n.1 with
   |true=>rfl
   |false =>
    simp only[cond_false];refine (congrArg (λo=>FQ o _) u).trans ?_;simp only[FJ];refine (congrArg (λo=>FQ o _) (qU K (jz n) 2 w.2.2.2.2.2.1 w.2.2.2.2.1 n.1 _ y)).trans rfl
 |false =>
  simp only[cond_false];cases w.2.1==3 with
  |true =>
   simp only[cond_true];rw[de K];simp only[FJ];cases ak w.2.2.2.2.2.1 != ak n.1 with
   |true=>rfl
   |false =>
    simp only[cond_false];cases w.2.2.2.2.2.1==n.1 with
    |true=>rfl
    |false =>
     simp only[cond_false];cases w.2.2.2.2.2.1==w.2.2.1 with
     |true=>rfl
     |false =>
      simp only[cond_false];refine (congrArg (λo=>FQ o _) u).trans ?_;simp only[FJ];refine (congrArg (λo=>FQ o _) (qU K (jz n) 1 w.2.2.2.2.2.1 w.2.2.2.2.1 w.2.2.1 _ y)).trans rfl
  |false =>
   simp only[cond_false];cases w.2.1==4 with
   |true=>exact (congrArg (λo=>FQ o _) (qU K n 5 w.2.2.1 0 n.1 (aa.table n) (cf h.x.table))).trans rfl
   |false =>
    simp only[cond_false];cases w.2.1==2 with
    |true=>exact (congrArg (λo=>FQ o _) (ack_s K n w h z r)).trans rfl
    |false=>rfl
theorem yW {K:Nat}{n:aa}{w:aj}(h:UpN n)(u:bX (aj.coord w))(r:1048577<K):UpN (er K n w).1/\(er K n w).1.1=n.1/\(er K n w).1.2.2.1=n.2.2.1:=by
 unfold er;cases w.2.1==1 <;> cases w.2.1==3 <;> cases w.2.1==4 <;> cases w.2.1==2 <;> cases ak w.2.2.2.2.2.1 != ak n.1 <;> cases w.2.2.2.2.2.1==n.1 <;> cases w.2.2.2.2.2.1==w.2.2.1 <;> first|exact⟨h,rfl,rfl⟩|exact⟨h.way,rfl,rfl⟩|exact CH h u r
open Classical in
noncomputable def bO (K:Nat)(n:aa)(w:aj):aa×List aj :=
 if dz w/\ge n w then (if w.2.1=6 then fw n w else er K (gB n (aj.table w) w.2.2.1) w) else (n,[])
theorem jC {n:aa}{w:aj}(H:dz w)(h:ge n w)(u:w.2.1≠6):cn (aj.table w) (ak n.1)/\fX n w.2.2.1:=by
 obtain⟨_,_,w3,_,_,_,_,_,z⟩:=H;rw[if_neg u]at z;obtain⟨_,_,_,_,r⟩:=h;by_cases y:w.1=2
 ·rw[if_pos y]at r;exact absurd r.1 u
 ·rw[if_neg y]at r;exact⟨r.1 ▸ z,w3,r.1⟩
theorem yX (K:Nat)(n:aa)(w:aj)(h:n.2.1=true->UpN n)(J:(aj.table w).length<=1048576)(y:1048577<K):Q56.f K (n,w,())=some (((bO K n w).1,(bO K n w).2,()),()):=by
 simp only[Q56.f];obtain⟨Y,e1,M⟩:=mT K w J y;obtain⟨Z,e2,O⟩:=rR K n w J y;rw[e1];cases Y with
 |false =>
  unfold bO;rw[if_neg λh=>by have:=M.2 h.1;cases this];rfl
 |true =>
  have z:=M.1 rfl;simp only[rb,FJ,FO,cond_false];refine (congrArg (λo=>FQ o _) e2).trans ?_;cases Z with
  |false =>
   unfold bO;rw[if_neg λh=>by have:=O.2 h.2;cases this];rfl
  |true =>
   have H:=O.1 rfl;have I:=h H.1;simp only[rb,FJ,FO,cond_false];unfold bO;rw[if_pos ⟨z,H⟩];have r:=z.2.2.2.2.2.2.2.1;by_cases u:w.2.1=6
   ·rw[if_pos u,show (w.2.1==6)=true by simpa using u];have X:=z.2.2.2.2.2.2.2.2;rw[if_pos u]at X;exact (congrArg (λo=>FQ o _) (yV K n w I r X y)).trans rfl
   ·rw[if_neg u,show (w.2.1==6)=false by simpa using u];obtain⟨hs,R⟩:=jC z H u;have hl:=(jP I H.2.1 r hs R).1;refine (congrArg (λo=>FQ o _) (wm K n (aj.table w) w.2.2.1 I.learns r.1 J R.1 y)).trans ?_;exact (congrArg (λo=>FQ o _) (Au K _ w hl z.2.2.2.2.2.2.1 y)).trans rfl
theorem rS {K:Nat}{n:aa}{w:aj}(h:UpN n)(M:1048577<K):UpN (bO K n w).1/\(bO K n w).1.1=n.1/\(bO K n w).1.2.2.1=n.2.2.1:=by
 unfold bO;split
 ·rename_i R;obtain⟨y,r⟩:=R;have u:=y.2.2.2.2.2.2.2.1;split
  ·rename_i H;have J:=y.2.2.2.2.2.2.2.2;rw[if_pos H]at J;rw[r.2.1];exact xu h r.2.1 u J
  ·rename_i H;obtain⟨X,O⟩:=jC y r H;have I:=jP h r.2.1 u X O;have z:=yW (w:=w) I.1 y.2.2.2.2.2.2.1 M;exact⟨z.1,z.2.1.trans I.2.1,z.2.2.trans (I.2.2.trans r.2.1.symm)⟩
 ·exact⟨h,rfl,rfl⟩
theorem nf {K:Nat}{n:aa}{w:aj}(h:UpN n)(hK:1048577<K):(bO K n w).2.length<=1/\∀ x∈(bO K n w).2,InP x.2.2.2.1 0 7/\(aj.table x).length<=1048576:=by
 unfold bO;split
 ·rename_i X;obtain⟨u,I⟩:=X;have y:=u.2.2.2.2.2.2.2.1;split
  ·rename_i z;have J:=u.2.2.2.2.2.2.2.2;rw[if_pos z]at J;obtain⟨O,a2,a3⟩:=lC (n:=n) h.x.others y J;unfold fw;cases ne (aj.table w) (ak n.1) with
   |true=>exact⟨by simp,by simp⟩
   |false =>
    simp only[cond_false];cases w.1==2&&decide (aj.table w≠bN n w) with
    |false=>exact⟨by simp,by simp⟩
    |true=>exact⟨by simp,λx r=>by rw[F9.1 r];exact⟨u.2.2.1,cf O⟩⟩
  ·rename_i z;obtain⟨Y,R⟩:=jC u I z;have M:=jP h I.2.1 y Y R;have Z:=cf (o6 M.1.x.say w.2.2.2.2.2.1);have H:=cf M.1.x.table;have w3:=u.2.2.1;have w6:=u.2.2.2.2.2.1;generalize gB n (aj.table w) w.2.2.1=m at *;unfold er;cases w.2.1==1 <;> cases w.2.1==3 <;> cases w.2.1==4 <;> cases w.2.1==2 <;> cases ak w.2.2.2.2.2.1 != ak m.1 <;> cases w.2.2.2.2.2.1==m.1 <;> cases w.2.2.2.2.2.1==w.2.2.1 <;>
    first|exact⟨F0 _,λx r=>by rw[F9.1 r];exact⟨w6,Z⟩⟩|exact⟨F0 _,λx r=>by rw[F9.1 r];exact⟨w3,H⟩⟩|exact⟨F5 _,λx r=>nomatch r⟩
 ·exact⟨by simp,by simp⟩
structure lR (n m:aa):Prop where
 ok:cH m
 me:m.1=n.1
 now_:m.2.2.2.2.2.1=n.2.2.2.2.2.1
 seq:m.2.2.2.2.2.2.1=n.2.2.2.2.2.2.1
 turn:m.2.2.2.2.2.2.2.1=n.2.2.2.2.2.2.2.1
 rest:m.2.2.2.2.2.2.2.2.2.2.2.2=n.2.2.2.2.2.2.2.2.2.2.2.2
 by_:∀ d∈aa.doubts m,d.2.2.2.length<=1048576
theorem lR.say {n m:aa}(h:lR n m){f:ah}(b:Int)(I:bw f):lR n (sayOf m f b):=by
 obtain⟨u,_,_,_,_,y,z,H,_,r⟩:=jy m f b;exact⟨iV h.ok I,u.trans h.me,y.trans h.now_,z.trans h.seq,H.trans h.turn,r.trans h.rest,Ab h.by_⟩
theorem lR.setP {n m:aa}(h:lR n m)(p:ah):lR n (setP m p):=⟨h.ok.setP p,h.me,h.now_,h.seq,h.turn,h.rest,h.by_⟩
theorem lR.nb {n m:aa}(h:lR n m)(u:NB n):NB m:=by
 have z:aa.places m=aa.places n:=congrArg (λr=>r.2.1) h.rest;have y:aa.others m=aa.others n:=congrArg (λr=>r.2.2) h.rest;exact⟨h.ok.lt,h.ok.lc,h.ok.ld,h.by_,by rw[z];exact u.places,by rw[z];exact u.trips,by rw[y];exact u.others,by rw[y];exact u.facts⟩
theorem lR.far {n m:aa}(h:lR n m)(u:o7 n):o7 m:=by
 have y:aa.others m=aa.others n:=congrArg (λr=>r.2.2) h.rest;exact⟨by rw[y];exact u.short,by rw[y];exact u.table⟩
theorem Eb (K:Nat)(n y:aa)(z:List aj)(r:Int)(J:NB n)(u:Q163.f K (n,())=rb true)(I:Q186.f K (n,r,())=some ((z,()),(y,())))(H:1048577<K):Q189.f K (n,r,())=some ((y,z,()),()):=by
 simp only[Q189.f,Q188.f];rw[u];simp only[FJ,FO,cond_false];rw[Aa K n J H];simp only[FJ,Q187.f];rw[I];simp only[FJ,Q169.f];simp
end Go.Proofs.YtmibehbhnkeaiaaGreatEv
