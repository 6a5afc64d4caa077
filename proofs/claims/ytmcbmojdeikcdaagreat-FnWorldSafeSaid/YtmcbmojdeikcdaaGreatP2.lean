/- The marks that a law writes into what was answered, and the look whether they still stand. -/
import Derived.Test.YtmcbmojdeikcdaaGreatP1
import Derived.Test.YtmcbmojdeikcdaaGreatE0
import Derived.Laws.Strings
set_option linter.unusedVariables false
set_option linter.unusedSimpArgs false
open Bool renaming not_true->AI,not_false->Ad,and_eq_true->Al,true_and->Ao,false_and->A2,and_self->A8,eq_iff_iff->A9,false_or->BM,and_true->BN,true_or->BQ,not_eq_true'->Bf,not_eq_true->Bl,and_false->Bp,or_true->Br
open ByteArray renaming size_extract->BD
open Classical renaming not_not->AS,byContradiction->A7
open Eq renaming trans->Bd
open Go.ByteArray renaming toList_eq->BX
open Go.IntKind renaming wrap_i64->Bi
open Int renaming toNat->AC,eq_ofNat_of_zero_le->AE,toNat_natCast->AF,le_refl->Ab,tdiv_eq_ediv_of_nonneg->Ai,fdiv->Am,tmod->Aw,tmod_eq_emod_of_nonneg->A5,toNat_zero->BA,tdiv->BB,le_trans->BC,le_of_lt->BI,tmod_lt_of_pos->Ba,tdiv_le_self->Bj,tmod_nonneg->Bn,tdiv_nonneg->Bo
open List renaming length->AB,getElem_mem->AD,length_cons->AG,mem_filter->AJ,getElem_of_mem->AK,drop_eq_getElem_cons->AL,getElem?_eq_getElem->AM,length_append->AN,length_nil->AO,append_nil->AP,nil_append->AQ,filter_eq_self->AR,filter_eq_nil_iff->AT,pairwise_cons->AU,mem_singleton->AV,filter_cons->AW,mem_map->AY,drop_zero->AZ,length_take->Aa,eq_nil_of_length_eq_zero->Ac,length_map->Ae,length_drop->Af,pairwise_map->Ag,filter_append->Ak,mem_append->An,take_length->Ap,mem_of_find?_eq_some->Aq,append_assoc->Ar,take_succ_eq_append_getElem->At,take_of_length_le->Au,take_append_drop->Ax,getElem?_eq_none->Ay,length_singleton->Az,reverse_cons->A0,pairwise_append->A1,reverse_reverse->A4,pairwise_iff_getElem->A6,length_filter_le->BE,drop_length->BF,mem_cons->BG,length_pos_iff->BH,mem_take_iff_getElem->BK,getElem_take->BL,pairwise_singleton->BO,ext_getElem->BP,find?_cons->BR,find?_some->BS,map_append->BT,length_take_le->BU,length_reverse->BV,flatMap_append->BW,map_cons->BY,find?_eq_none->BZ,ne_nil_of_mem->Bb,getElem_drop->Bc,take_add_one->Be,perm_middle->Bg,flatMap_nil->Bk,length_set->Bm,mem_range->Bq
open List.Pairwise renaming filter->A3
open Nat renaming le_refl->AX,le_trans->Ah,zero_le->Aj,lt_or_eq_of_le->Av,mul_le_mul->BJ
open Option renaming bind_some->AA,bind->AH,getD_some->Bh
namespace Go.Proofs.YtmcbmojdeikcdaaGreatEv
open Go
theorem jY {α β R:Type}(t:List α)(p:α->Bool)(g:α->β)(n:Nat)(fin:List β->Option R){step:(List β×Int->Option R)->List β×Int->Option R}
  (h:∀ (rec:List β×Int->Option R) (acc:List β) (i:Nat) (hi:i<t.length),acc.length<=i->acc.length<n->step rec (acc,(i:Int))=rec (bif p t[i] then acc++[g t[i]] else acc,((i+1:Nat):Int)))
  (hn:∀ (rec:List β×Int->Option R) (acc:List β) (i:Nat),i<t.length->acc.length<=i->n<=acc.length->step rec (acc,(i:Int))=fin acc)
  (hend:∀ (rec:List β×Int->Option R) (acc:List β),acc.length<=t.length->step rec (acc,(t.length:Int))=fin acc) :
  ∀ (d i k:Nat) (acc:List β),i+d=t.length->d<k->acc.length<=i->acc.length<=n->ae step k (acc,(i:Int))=fin (acc++(((t.drop i).filter p).map g).take (n-acc.length)):=by
 intro d;induction d with
 |zero =>
  intro i k acc hi hk ha _;obtain⟨k,rfl⟩:∃ k',k=k'+1:=⟨k-1,by omega⟩;have:i=t.length:=by omega
  subst this;show step (ae step k) _=_;rw[hend _ _ ha];simp
 |succ d ih =>
  intro i k acc hi hk ha hle;obtain⟨k,rfl⟩:∃ k',k=k'+1:=⟨k-1,by omega⟩;have hlt:i<t.length:=by omega
  show step (ae step k) _=_;by_cases hc:acc.length<n
  ·rw[h _ _ _ hlt ha hc,AL hlt,AW];cases hp:p t[i] with
   |true =>
    simp only[cond_true,if_true,BY];rw[ih (i+1) k _ (by omega) (by omega) (by simp;omega) (by simp;omega)];congr 1;obtain⟨m,hm⟩:∃ m,n-acc.length=m+1:=⟨n-acc.length-1,by omega⟩;rw[hm,List.take_succ_cons,Ar];simp only[AN,AG,AO];rw[show n-(acc.length+(0+1))=m by omega];rfl
   |false =>
    simp only[cond_false];rw[ih (i+1) k _ (by omega) (by omega) (by omega) (by omega)];rfl
  ·rw[hn _ _ _ hlt ha (by omega)];rw[show n-acc.length=0 by omega];simp
theorem tT {α β R:Type}(t:List α)(p:α->Bool)(g:α->β)(fin:List β->Option R){step:(List β×Int->Option R)->List β×Int->Option R}
  (h:∀ (rec:List β×Int->Option R) (acc:List β) (i:Nat) (hi:i<t.length),acc.length<=i->step rec (acc,(i:Int))=rec (bif p t[i] then acc++[g t[i]] else acc,((i+1:Nat):Int)))
  (hend:∀ (rec:List β×Int->Option R) (acc:List β),acc.length<=t.length->step rec (acc,(t.length:Int))=fin acc) {k:Nat} (hk:t.length<k) :
  ae step k ([],0)=fin ((t.filter p).map g):=by
 have:=jY t p g (t.length+1) fin (λrec acc i hi ha _=>h rec acc i hi ha) (λrec acc i hi ha hn=>by omega) hend t.length 0 k [] (by omega) hk (AX _) (by simp);refine this.trans ?_;congr 1;simp only[AQ,AO,AZ];exact Au (by have:=BE p t;simp;omega)
theorem wB {e:Ty}{b:Nat}{xs:List e.den}(h:xs.length*b<=140737488355328):jc e b xs=some ((xs,()),()):=by
 unfold jc;rw[decide_eq_true (by simpa[aj]using h)];rfl
theorem u9 {α β:Type}{xs ys:List α}{b:Nat}{x y:β}(h:(xs.length+ys.length)*b<=140737488355328):(bif decide ((AB xs+AB ys)*b<=aj) then x else y)=x:=by
 rw[decide_eq_true (by simpa[aj]using h)];rfl
def lI (f:af):Bool:=f.2.2.2&&f.2.2.1==1
def eV (t:List af):List Int:=((t.filter lI).map (·.1)).take 2
theorem sZ (K:Nat)(t:List af)(ht:t.length<=1048576)(hK:1048577<K):Q139.f K (t,2,())=some ((eV t,()),()):=by
 have:=jY (step:=λrec a=>Q139.l0.step K (t,2,()) rec a) t lI (λf=>f.1) 2 (λxs=>some ((xs,()),())) ?_ ?_ ?_ t.length 0 K [] (by omega) (by omega) (AX _) (by simp)
 ·exact this
 ·intro rec acc i hi ha hn;simp only[Q139.l0.step];rw[bC (by omega:(i:Int)<(AB t:Int)),ah hi,aw i (by omega),decide_eq_true (by omega:(AB acc:Int)<2)];simp only[cond_true,AA,lI];cases t[i].2.2.2 with
  |true =>
   simp only[cond_true,Ao];cases t[i].2.2.1==1 with
   |true=>simp only[cond_true];rw[u9 (by simp;omega)]
   |false=>rfl
  |false=>rfl
 ·intro rec acc i hi ha hn;simp only[Q139.l0.step];rw[bC (by omega:(i:Int)<(AB t:Int)),decide_eq_false (by omega:¬ (AB acc:Int)<2)];rfl
 ·intro rec acc _;simp only[Q139.l0.step,aR];rfl
theorem va (t:List af):(eV t).length<=2:=by
 unfold eV;exact BU _ _
def ey (l:List cB)(s:Int):List af:=((l.find? λx=>x.1==s).map (·.2)).getD []
theorem tU {R:Type}(l:List cB)(s:Int)(fin:List af->Option R){step:(Int->Option R)->Int->Option R}
  (h:∀ (rec:Int->Option R) (i:Nat) (hi:i<l.length),step rec (i:Int)=bif l[i].1==s then fin l[i].2 else rec ((i+1:Nat):Int))
  (hend:∀ rec:Int->Option R,step rec (l.length:Int)=fin []) :
  ∀ (d i k:Nat),i+d=l.length->d<k->ae step k (i:Int)=fin (ey (l.drop i) s):=by
 intro d;induction d with
 |zero =>
  intro i k hi hk;obtain⟨k,rfl⟩:∃ k',k=k'+1:=⟨k-1,by omega⟩;have:i=l.length:=by omega
  subst this;show step (ae step k) _=_;rw[hend];simp[ey]
 |succ d ih =>
  intro i k hi hk;obtain⟨k,rfl⟩:∃ k',k=k'+1:=⟨k-1,by omega⟩;have hlt:i<l.length:=by omega
  show step (ae step k) _=_;rw[h _ _ hlt,AL hlt];simp only[ey,BR];cases l[i].1==s with
  |true=>rfl
  |false=>exact ih (i+1) k (by omega) (by omega)
theorem pG {l:List cB}{s:Int}:ey l s=[]\/∃ x∈l,x.1=s/\ey l s=x.2:=by
 unfold ey;cases h:l.find? λx=>x.1==s with
 |none=>exact .inl rfl
 |some x=>exact .inr ⟨x,Aq h,by simpa using BS h,rfl⟩
def bO {α:Type}(k:α->Int)(x:α)(xs:List α):List α:=xs.filter (λy=>decide (k y<k x))++x::xs.filter (λy=>decide (k x<k y))
theorem pH {α:Type}{k:α->Int}{xs:List α}{v:Int}{m:Nat}(hm:m<=xs.length)(lo:∀ i,(hi:i<xs.length)->i<m->k xs[i]<v)(hi:∀ i,(h:i<xs.length)->m<=i->v<=k xs[i]):xs.filter (λy=>decide (k y<v))=xs.take m:=by
 conv=>lhs;rw[<- Ax m xs]
 rw[Ak];have h1:(xs.take m).filter (λy=>decide (k y<v))=xs.take m:=by
  rw[AR];intro y hy;obtain⟨i,h1,rfl⟩:=AK hy;rw[Aa]at h1;rw[BL];exact decide_eq_true (lo i (by omega) (by omega))
 have h2:(xs.drop m).filter (λy=>decide (k y<v))=[]:=by
  rw[AT];intro y hy;obtain⟨i,h1,rfl⟩:=AK hy;rw[Af]at h1;rw[Bc];have:=hi (m+i) (by omega) (by omega);simp only[decide_eq_true_eq];omega
 rw[h1,h2,AP]
theorem pI {α:Type}{k:α->Int}{xs:List α}{v:Int}{m:Nat}(hm:m<=xs.length)(lo:∀ i,(hi:i<xs.length)->i<m->k xs[i]<=v)(hi:∀ i,(h:i<xs.length)->m<=i->v<k xs[i]):xs.filter (λy=>decide (v<k y))=xs.drop m:=by
 conv=>lhs;rw[<- Ax m xs]
 rw[Ak];have h1:(xs.take m).filter (λy=>decide (v<k y))=[]:=by
  rw[AT];intro y hy;obtain⟨i,h1,rfl⟩:=AK hy;rw[Aa]at h1;rw[BL];have:=lo i (by omega) (by omega);simp only[decide_eq_true_eq];omega
 have h2:(xs.drop m).filter (λy=>decide (v<k y))=xs.drop m:=by
  rw[AR];intro y hy;obtain⟨i,h1,rfl⟩:=AK hy;rw[Af]at h1;rw[Bc];exact decide_eq_true (hi (m+i) (by omega) (by omega))
 rw[h1,h2,AQ]
theorem nq {α:Type}{k:α->Int}{xs:List α}{x:α}{m:Nat}(h:Asc k xs)(hm:m<xs.length)(e:k xs[m]=k x):xs.set m x=bO k x xs:=by
 have hg:=ea.1 h;have lt:∀ i,(hi:i<xs.length)->i<m->k xs[i]<k x:=λi hi hlt=>by rw[<- e];exact hg i m hi hm hlt
 have gt:∀ i,(hi:i<xs.length)->m<i->k x<k xs[i]:=λi hi hlt=>by rw[<- e];exact hg m i hm hi hlt
 rw[bO,pH (m:=m) (by omega) lt (λi hi hmi=>by
   rcases Av hmi with h1|h1
   ·exact BI (gt i hi h1)
   ·subst h1;omega),
  pI (m:=m+1) (by omega) (λi hi hmi=>by
   rcases Av (Nat.le_of_lt_succ hmi) with h1|h1
   ·exact BI (lt i hi h1)
   ·subst h1;omega) (λi hi hmi=>gt i hi hmi),
  List.set_eq_take_append_cons_drop,if_pos hm]
theorem nr {α:Type}{k:α->Int}{xs:List α}{x:α}{m:Nat}(hm:m<=xs.length)(lo:∀ i,(hi:i<xs.length)->i<m->k xs[i]<k x)(hi:∀ i,(h:i<xs.length)->m<=i->k x<k xs[i]):xs.take m++[x]++xs.drop m=bO k x xs:=by
 rw[bO,pH hm lo (λi h1 h2=>BI (hi i h1 h2)),pI hm (λi h1 h2=>BI (lo i h1 h2)) hi,Ar];rfl
theorem a7 {α:Type}{k:α->Int}{xs:List α}{x y:α}:y∈bO k x xs<->y=x\/(y∈xs/\k y≠k x):=by
 simp only[bO,An,BG,AJ,decide_eq_true_eq];constructor
 ·rintro (⟨h1,h2⟩|rfl|⟨h1,h2⟩)
  ·exact .inr ⟨h1,by omega⟩
  ·exact .inl rfl
  ·exact .inr ⟨h1,by omega⟩
 ·rintro (rfl|⟨h1,h2⟩)
  ·exact .inr (.inl rfl)
  ·rcases Int.lt_or_gt_of_ne h2 with h3|h3
   ·exact .inl ⟨h1,h3⟩
   ·exact .inr (.inr ⟨h1,h3⟩)
theorem ew {α:Type}{k:α->Int}{xs:List α}{x:α}(h:Asc k xs):Asc k (bO k x xs):=by
 unfold Asc bO;rw[A1,AU];refine⟨h.filter _,⟨λy hy=>?_,h.filter _⟩,λy hy z hz=>?_⟩
 ·simpa using (AJ.1 hy).2
 ·have h1:k y<k x:=by simpa using (AJ.1 hy).2
  rcases BG.1 hz with rfl|hz
  ·exact h1
  ·have h2:k x<k z:=by simpa using (AJ.1 hz).2
   omega
theorem wC {α:Type}{k:α->Int}{xs:List α}{x:α}:(bO k x xs).length<=xs.length+1:=by
 have:∀ l:List α,(l.filter (λy=>decide (k y<k x))).length+(l.filter (λy=>decide (k x<k y))).length<=l.length:=by
  intro l;induction l with
  |nil=>simp
  |cons y l ih =>
   simp only[AW,AG];by_cases h1:k y<k x
   ·rw[if_pos (decide_eq_true h1),if_neg (by simp;omega)];simp only[AG];omega
   ·rw[if_neg (by simpa using h1)];split <;> (try simp only[AG]) <;> omega
 have:=this xs;simp only[bO,AN,AG];omega
theorem nu {α:Type}{k:α->Int}{xs:List α}(h:Asc k xs){i:Nat}(hi:i<xs.length){v:Int}(e:k xs[i]=v):xs.find? (λy=>k y==v)=some xs[i]:=by
 cases h1:xs.find? (λy=>k y==v) with
 |none =>
  have:=BZ.1 h1 xs[i] (AD hi);simp[e]at this
 |some y =>
  have h2:k y=v:=by simpa using BS h1
  obtain⟨j,hj,rfl⟩:=AK (Aq h1);have:=qX h hj hi (by rw[h2,e]);subst this;rfl
theorem mB {α:Type}{k:α->Int}{xs:List α}{v:Int}(h:∀ y∈xs,k y≠v):xs.find? (λy=>k y==v)=none:=by
 rw[BZ];intro y hy;simpa using h y hy
def iQ {α:Type}(k:α->Int)(x:α):Bool->List α->List α
 |d,[]=>bif d then [] else [x]
 |d,y::ys=>(bif !d&&decide (k x<=k y) then [x] else [])++((bif k y != k x then [y] else [])++iQ k x (d||decide (k x<=k y)) ys)
theorem nU {α:Type}{k:α->Int}{x:α}:∀ {ys:List α},(∀ y∈ys,k x<k y)->iQ k x true ys=ys
 |[],_=>rfl
 |y::ys,h=>by
  have h1:=h y (by simp);simp only[iQ,AI,A2,cond_false,BQ,AQ];rw[nU (λz hz=>h z (by simp[hz])),show (k y != k x)=true by simp;omega];rfl
theorem jZ {α:Type}{k:α->Int}{x:α}:∀ {xs:List α},Asc k xs->iQ k x false xs=bO k x xs
 |[],_=>rfl
 |y::ys,h=>by
  have h':Asc k ys:=(AU.1 h).2;have hy:∀ z∈ys,k y<k z:=(AU.1 h).1;simp only[iQ,Ad,Ao,BM];by_cases hk:k x<=k y
  ·rw[decide_eq_true hk,nU (λz hz=>by have:=hy z hz;omega)];simp only[cond_true,bO,AW];have e1:ys.filter (λz=>decide (k z<k x))=[]:=by
    rw[AT];intro z hz;have:=hy z hz;simp;omega
   have e2:ys.filter (λz=>decide (k x<k z))=ys:=by
    rw[AR];intro z hz;have:=hy z hz;simp;omega
   rw[e1,e2,if_neg (by simp;omega)];by_cases he:k y=k x
   ·rw[if_neg (by simp;omega),show (k y != k x)=false by simpa using he];rfl
   ·rw[if_pos (by simp;omega),show (k y != k x)=true by simpa using he];rfl
  ·rw[decide_eq_false hk,jZ h',show (k y != k x)=true by simp;omega];simp only[cond_false,cond_true,bO,AW,AQ];rw[if_pos (by simp;omega),if_neg (by simp;omega)];rfl
theorem q9 {α A R:Type}(k:α->Int)(x:α)(t:List α)(q:α->Bool)(r0:Option R)(fin:List α->Option R)(S:List α->Bool->Nat->A){step:(A->Option R)->A->Option R}
  (h:∀ (rec:A->Option R) (acc:List α) (d:Bool) (i:Nat) (hi:i<t.length),acc.length<=i+1->(d=false->acc.length<=i)->step rec (S acc d i)=bif q t[i] then r0 else rec (S ((acc++(bif !d&&decide (k x<=k t[i]) then [x] else []))++(bif k t[i] != k x then [t[i]] else [])) (d||decide (k x<=k t[i])) (i+1)))
  (hend:∀ (rec:A->Option R) (acc:List α) (d:Bool),acc.length<=t.length+1->(d=false->acc.length<=t.length)->step rec (S acc d t.length)=fin (acc++(bif d then [] else [x]))) :
  ∀ (n i K:Nat) (acc:List α) (d:Bool),i+n=t.length->n<K->acc.length<=i+1->(d=false->acc.length<=i)->ae step K (S acc d i)=bif (t.drop i).any q then r0 else fin (acc++iQ k x d (t.drop i)):=by
 intro n;induction n with
 |zero =>
  intro i K acc d hi hK ha hd;obtain⟨K,rfl⟩:∃ k',K=k'+1:=⟨K-1,by omega⟩;have:i=t.length:=by omega
  subst this;show step (ae step K) _=_;rw[hend _ _ _ ha hd,BF];rfl
 |succ n ih =>
  intro i K acc d hi hK ha hd;obtain⟨K,rfl⟩:∃ k',K=k'+1:=⟨K-1,by omega⟩;have hlt:i<t.length:=by omega
  show step (ae step K) _=_;rw[h _ _ _ _ hlt ha hd,AL hlt,List.any_cons];cases hq:q t[i] with
  |true=>rfl
  |false =>
   simp only[cond_false,BM,iQ];rw[ih (i+1) K _ _ (by omega) (by omega) ?_ ?_]
   ·simp only[Ar]
   ·cases d with
    |true =>
     simp only[AI,A2,cond_false,AP];cases k t[i] != k x <;> simp <;> omega
    |false =>
     have:=hd rfl;cases hc:decide (k x<=k t[i]) <;> cases k t[i] != k x <;> simp <;> omega
   ·intro hdd;rw[Bool.or_eq_false_iff]at hdd;obtain⟨rfl,hc⟩:=hdd;have:=hd rfl;rw[hc];cases k t[i] != k x <;> simp <;> omega
theorem sx (K:Nat)(n:aa)(hn:NB n)(hK:1048577<K):∃ b,Q187.f K (n,())=rb b/\Q39.f K (n,())=rb b/\(b=true<->eU n):=by
 obtain⟨b,h1,h2⟩:=qZ K n hn hK;obtain⟨b',h3,h4⟩:=q8 K n hn hK;have:b=b':=by rw[A9,h2,h4]
 subst this;exact⟨b,h1,h3,h2⟩
theorem eU.up {n:aa}(h:eU n)(hu:n.2.1=true):UpP n:=by
 have:=h.2.2.2.2.2
 rwa [if_pos hu]at this
abbrev av:=Int×Int×Int×Int×Int×Int×dc×List af
abbrev av.table (w:av):List af:=w.2.2.2.2.2.2.2
abbrev av.coord (w:av):dc:=w.2.2.2.2.2.2.1
def nV:List af->Prop
 |[]=>False
 |f::l=>bX (f::l) (ar f.1)
def gO (w:av):Prop:=InP w.1 1 2/\InP w.2.1 1 6/\InP w.2.2.1 0 7/\InP w.2.2.2.1 0 7/\InP w.2.2.2.2.1 0 999999/\InP w.2.2.2.2.2.1 0 7/\co (av.coord w)/\aB (av.table w) /\
 (if w.2.1=6 then nV (av.table w) else bX (av.table w) (ar w.2.2.1))
theorem ra (K:Nat)(w:av)(hw:(av.table w).length<=1048576)(hK:1048577<K):Ret (Q65.f K (w,())) (gO w):=by
 refine Ret.nx (ch K _ _ _) λ_=>Ret.nx (ch K _ _ _) λ_=>Ret.nx (ch K _ _ _) λ_=>Ret.nx (ch K _ _ _) λ_=>Ret.nx (ch K _ _ _) λ_=>Ret.nx (ch K _ _ _) λ_=>Ret.nx (gD K _) λ_=>Ret.nx (fv K _ hw hK) λ_=>?_
 dsimp only;by_cases h:w.2.1=6
 ·rw[show (w.2.1==6)=true by simpa using h,if_pos h];obtain⟨w1,w2,w3,w4,w5,w6,w7,t⟩:=w;cases t with
  |nil=>exact Ret.no (λh=>h)
  |cons f l =>
   rw[show decide ((AB (f::l):Int)>0)=true from decide_eq_true (by simp only[AG];omega)];simp only[cond_true];exact Ret.vl (ah (xs:=f::l) (i:=0) (by simp)) (fw K _ _ hw hK).id
 ·rw[show (w.2.1==6)=false by simpa using h,if_neg h];exact (fw K _ _ hw hK).id
theorem lJ {α A R:Type}(xs:List α)(S:List α->Nat->A)(fin:Option R){step:(A->Option R)->A->Option R}
  (h:∀ (rec:A->Option R) (acc:List α) (i:Nat) (hi:i<xs.length),acc.length=i->step rec (S acc i)=rec (S (acc++[xs[i]]) (i+1))) (hend:∀ rec:A->Option R,step rec (S xs xs.length)=fin) {k:Nat} (hk:xs.length<k):ae step k (S [] 0)=fin:=by
 refine kt (step:=step) xs.length (λi=>S (xs.take i) i) fin ?_ ?_ hk
 ·intro rec i hi;show step rec (S (xs.take i) i)=rec (S (xs.take (i+1)) (i+1));rw[h rec (xs.take i) i hi (by simp;omega),At hi]
 ·intro rec;show step rec (S (xs.take xs.length) xs.length)=fin;rw[Ap];exact hend rec
theorem szb (a b c:Nat)(hc:c<=64)(h:a+b<=2097152):decide ((a+b)*c<=aj)=true:=by
 have:=BJ h hc;exact decide_eq_true (by unfold aj;omega)
theorem vb (K:Nat)(n:aa)(hn:NB n)(hK:1048577<K):Q54.f K (n,())=some ((n,()),()):=by
 have b1:=hn.table;have b2:=hn.cast;have b3:=hn.doubts;have b4:=hn.places;have b5:=hn.others;simp only[Q54.f,Q54.pre];rw[szb _ _ _ (by omega) (by show (AB ([]:List af))+(aa.table n).length<=_;simp;omega),szb _ _ _ (by omega) (by show (AB ([]:List aZ))+(aa.cast n).length<=_;simp;omega)];simp only[cond_true];refine lJ (aa.doubts n) (step:=λrec a=>Q54.l0.step K (n,()) (Q54.l1 K (n,())) rec a) (λacc i=>((i:Int),acc)) _ ?_ ?_ (by omega)
 ·intro rec acc i hi ha;have:=hn.by_ _ (AD hi);simp only[Q54.l0.step];rw[bC (by omega:(i:Int)<(AB (aa.doubts n):Int)),ah hi,aw i (by omega)];simp only[cond_true,AA];rw[szb _ _ _ (by omega) (by simp;omega),szb _ _ _ (by omega) (by simp;omega)];rfl
 ·intro rec;simp only[Q54.l0.step,aR,cond_false];refine lJ (aa.places n) (step:=λrec a=>Q54.l1.step K (n,()) (Q54.l2 K (n,())) rec a) (λacc i=>((i:Int),aa.doubts n,acc)) _ ?_ ?_ (by omega)
  ·intro rec acc i hi ha;have:=hn.trips _ (AD hi);simp only[Q54.l1.step];rw[bC (by omega:(i:Int)<(AB (aa.places n):Int)),ah hi,aw i (by omega)];simp only[cond_true,AA];rw[szb _ _ _ (by omega) (by simp;omega),szb _ _ _ (by omega) (by simp;omega)];rfl
  ·intro rec;simp only[Q54.l1.step,aR,cond_false];refine lJ (aa.others n) (step:=λrec a=>Q54.l2.step K (n,()) rec a) (λacc i=>((i:Int),aa.doubts n,aa.places n,acc)) _ ?_ ?_ (by omega)
   ·intro rec acc i hi ha;have:=hn.facts _ (AD hi);simp only[Q54.l2.step];rw[bC (by omega:(i:Int)<(AB (aa.others n):Int)),ah hi,aw i (by omega)];simp only[cond_true,AA];rw[szb _ _ _ (by omega) (by simp;omega),szb _ _ _ (by omega) (by simp;omega)];rfl
   ·intro rec;simp only[Q54.l2.step,aR,cond_false];rfl
instance (f g:af):Decidable (bN f g):=by unfold bN;infer_instance
theorem nW (K:Nat)(f g:af):Q78.f K (f,g,())=rb (decide (bN f g)):=by
 obtain⟨b,h1,h2⟩:=nT K f g;rw[h1,show b=decide (bN f g) by rw[A9,h2];simp]
def bY (t:List af)(f:af):List af×Bool :=
 match t.find? (λg=>g.1==f.1) with
 |some g=>if bN f g then (bO (λg=>g.1) f t,true) else (t,false)
 |none=>(bO (λg=>g.1) f t,true)
theorem kV {t:List af}{f:af}(hA:Asc (λg:af=>g.1) t){i:Nat}(hi:i<t.length)(e:t[i].1=f.1):bY t f=if bN f t[i] then (bO (λg=>g.1) f t,true) else (t,false):=by
 unfold bY;rw[show t.find? (λg=>g.1==f.1)=some t[i] from nu hA hi e]
theorem hZ {t:List af}{f:af}(h:∀ g∈t,g.1≠f.1):bY t f=(bO (λg=>g.1) f t,true):=by
 unfold bY;rw[show t.find? (λg=>g.1==f.1)=none from mB h]
theorem put_s (K:Nat)(t:List af)(f:af)(ht:t.length<=1048576)(hA:Asc (λg:af=>g.1) t)(hK:1048577<K):Q95.f K (t,f,())=some (((bY t f).1,(bY t f).2,()),()):=by
 simp only[Q95.f,Q95.pre];obtain⟨o,ho,h1⟩:=eF K t f.1 ht hK;rw[h1];simp only[AA];cases ho with
 |at_ i hi e =>
  simp only;rw[kV hA hi e,decide_eq_true (by omega:((i:Nat):Int)>=0),ah hi];simp only[cond_true,AA];rw[show Q78.f K (f,t[i],())=_ from nW K f t[i]];simp only[AA];by_cases ho:bN f t[i]
  ·rw[decide_eq_true ho,if_pos ho];simp only[AI,cond_false];rw[szb _ _ _ (by omega) (by show (AB ([]:List af))+t.length<=_;simp;omega)];simp only[cond_true,AQ,ah hi,AA,AF];rw[nq (k:=λg:af=>g.1) hA hi e]
  ·rw[decide_eq_false ho,if_neg ho];rfl
 |no h =>
  simp only;rw[hZ h,decide_eq_false (by omega:¬ (-1:Int)>=0)];simp only[cond_false];have fit:∀ m:Nat,m<=t.length->(bif decide ((0:Int)<=0)&&decide ((0:Int)<=(m:Int))&&decide ((m:Int)<=(AB t:Int))&&true then (bif decide ((AB ([]:List af)+AB ((t.take (AC (m:Int))).drop (AC 0)))*32<=aj) then (bif decide ((AB ([]++((t.take (AC (m:Int))).drop (AC 0)))+AB ([f]))*32<=aj) then (bif decide ((0:Int)<=(m:Int))&&decide ((m:Int)<=(AB t:Int))&&decide ((AB t:Int)<=(AB t:Int))&&true then (bif decide ((AB (([]++((t.take (AC (m:Int))).drop (AC 0)))++([f]))+AB ((t.take (AC (AB t:Int))).drop (AC (m:Int))))*32<=aj) then (some (((([]++((t.take (AC (m:Int))).drop (AC 0)))++([f]))++((t.take (AC (AB t:Int))).drop (AC (m:Int))),true,()),())) else none) else none) else none) else none) else (none:Option ((List af×Bool×Unit)×Unit)))=some ((t.take m++[f]++t.drop m,true,()),()):=by
   intro m hm;rw[decide_eq_true (by omega:(0:Int)<=0),decide_eq_true (by omega:(0:Int)<=(m:Int)),decide_eq_true (by omega:(m:Int)<=(AB t:Int)),decide_eq_true (by omega:(AB t:Int)<=(AB t:Int))];simp only[AF,BA,AZ,AQ,Ap,A8,cond_true];have h1:(t.take m).length=m:=by rw[Aa];omega
   have h2:(t.drop m).length=t.length-m:=Af;rw[szb _ _ _ (by omega) (by simp only[AO];omega),szb _ _ _ (by omega) (by simp only[AG,AO];omega),szb _ _ _ (by omega) (by simp only[AN,AG,AO];omega)];rfl
  have:=cC (step:=λrec a=>Q95.l0.step K (t,f,()) rec a) t.length (λi=>(i:Int)) (λj=>∃ h:j<t.length,¬ t[j].1<f.1) (some ((t.take t.length++[f]++t.drop t.length,true,()),())) (λj=>some ((t.take j++[f]++t.drop j,true,()),())) ?_ ?_ t.length K 0 (by omega) (by omega)
  ·have fin:∀ m,m<=t.length->(∀ i,(hi:i<t.length)->i<m->t[i].1<f.1)->(∀ i,(hi:i<t.length)->m<=i->f.1<t[i].1)->t.take m++[f]++t.drop m=bO (λg=>g.1) f t:=λm hm lo hi=>nr (k:=λg:af=>g.1) hm lo hi
   rcases this with ⟨h1,h2⟩|⟨j,_,h1,⟨h3,h4⟩,h5,h2⟩
   ·rw[fin t.length (AX _) (λi hi _=>by
     have:=h1 i (Aj _) hi;exact AS.1 λh=>this ⟨hi,h⟩) (λi hi h=>by omega)]at h2
    exact h2
   ·rw[fin j (by omega) (λi hi hij=>by
     have:=h5 i (Aj _) hij;exact AS.1 λh=>this ⟨hi,h⟩) (λi hi hij=>by
     have hne:=h t[i] (AD hi);rcases Av hij with h6|h6
     ·have:=ea.1 hA j i h3 hi h6;omega
     ·subst h6;omega)]at h2
    exact h2
  ·intro rec i hi;simp only[Q95.l0.step];rw[bC (by omega:(i:Int)<(AB t:Int)),ah hi,aw i (by omega)];simp only[cond_true,AA];by_cases hlt:t[i].1<f.1
   ·exact .inl ⟨λ⟨_,h⟩=>h hlt,by rw[decide_eq_true hlt];rfl⟩
   ·exact .inr ⟨⟨hi,hlt⟩,by rw[decide_eq_false hlt];exact fit i (by omega)⟩
  ·intro rec;simp only[Q95.l0.step,aR,cond_false];exact fit t.length (AX _)
def eH (l:List aZ)(f:af):List aZ:=if ∃ x∈l,x.1.1=f.1/\¬ bN f x.1 then l else bO (λx=>x.1.1) (f,4) l
theorem sy {l:List aZ}{f:af}:eH l f=bif l.any (λx=>x.1.1==f.1&&!decide (bN f x.1)) then l else bO (λx=>x.1.1) (f,4) l:=by
 unfold eH;have:(∃ x∈l,x.1.1=f.1/\¬ bN f x.1)<->l.any (λx=>x.1.1==f.1&&!decide (bN f x.1))=true:=by
  rw[List.any_eq_true];simp
 by_cases h:∃ x∈l,x.1.1=f.1/\¬ bN f x.1
 ·rw[if_pos h,this.1 h];rfl
 ·rw[if_neg h,show l.any (λx=>x.1.1==f.1&&!decide (bN f x.1))=false by rw[Bool.eq_false_iff];exact λhh=>h (this.2 hh)];rfl
theorem xO (K:Nat)(l:List aZ)(f:af)(hl:l.length<=1048576)(hA:Asc (λx:aZ=>x.1.1) l)(hK:1048577<K):Q96.f K (l,f,())=some ((eH l f,()),()):=by
 have:=q9 (step:=λrec a=>Q96.l0.step K (l,f,()) rec a) (λx:aZ=>x.1.1) (f,4) l (λx=>x.1.1==f.1&&!decide (bN f x.1)) (some ((l,()),())) (λxs=>some ((xs,()),())) (λacc d i=>(acc,d,(i:Int))) ?_ ?_ l.length 0 K [] false (by omega) (by omega) (by simp) (by simp)
 ·refine Bd (this:Q96.f K (l,f,())=_) ?_;rw[AZ,sy,jZ hA];cases l.any (λx=>x.1.1==f.1&&!decide (bN f x.1)) <;> rfl
 ·intro rec acc d i hi ha hd;simp only[Q96.l0.step];rw[bC (by omega:(i:Int)<(AB l:Int)),ah hi,aw i (by omega)];simp only[cond_true,AA];have z1:decide ((acc.length+[((f,4):af×Nat)].length)*40<=aj)=true:=szb _ _ _ (by omega) (by simp;omega);have z2:decide (((acc++[((f,4):aZ)]).length+[l[i]].length)*40<=aj)=true:=szb _ _ _ (by omega) (by simp;omega);have z3:decide ((acc.length+[l[i]].length)*40<=aj)=true:=szb _ _ _ (by omega) (by simp;omega);by_cases he:l[i].1.1=f.1
  ·rw[show (l[i].1.1==f.1)=true by simpa using he,show (l[i].1.1 != f.1)=false by simpa using he,show decide (f.1<=l[i].1.1)=true from decide_eq_true (by omega)];simp only[cond_true,cond_false,Ao,BN,Br,AP];rw[show Q78.f K (f,l[i].1,())=_ from nW K f l[i].1];simp only[AA];cases decide (bN f l[i].1) with
   |false=>rfl
   |true =>
    simp only[AI,cond_false];cases d with
    |true=>simp only[AI,cond_false,AP]
    |false =>
     simp only[Ad,cond_true];rw[z1];rfl
  ·rw[show (l[i].1.1==f.1)=false by simpa using he,show (l[i].1.1 != f.1)=true by simpa using he];simp only[cond_true,cond_false,A2];cases d with
   |true =>
    simp only[AI,cond_false,A2,AP,BQ];rw[z3];rfl
   |false =>
    simp only[Ad,cond_true,Ao,BM];cases decide (f.1<=l[i].1.1) with
    |true =>
     simp only[cond_true];rw[z1];simp only[cond_true];rw[z2];rfl
    |false =>
     simp only[cond_false,AP];rw[z3];rfl
 ·intro rec acc d ha hd;simp only[Q96.l0.step,aR];cases d with
  |true=>simp only[AI,cond_false,cond_true,AP]
  |false =>
   have:=hd rfl;have z1:decide ((acc.length+[((f,4):af×Nat)].length)*40<=aj)=true:=szb _ _ _ (by omega) (by simp;omega);simp only[Ad,cond_true,cond_false];rw[z1];rfl
theorem mP {α:Type}{k:α->Int}{x:α}:∀ {ys:List α},iQ k x true ys=ys.filter (λy=>k y != k x)
 |[]=>rfl
 |y::ys=>by
  simp only[iQ,AI,A2,cond_false,BQ,AQ,AW];rw[mP];cases k y != k x <;> rfl
def mkD (now:Int)(f:af)(b:Int):cb:=(f.1,f.2.1,now,[b])
def cY (now:Int)(ds:List cb)(f:af)(b:Int):List cb:=if f.2.2.1=2 then bO (λd=>d.1) (mkD now f b) ds else ds.filter (λd=>!(d.1==f.1))
theorem xP (K:Nat)(n:aa)(f:af)(b:Int)(hl:(aa.doubts n).length<=1048576)(hA:Asc (λd:cb=>d.1) (aa.doubts n))(hK:1048577<K) :
  Q97.f K (n,f,b,())=some ((cY n.2.2.2.2.2.1 (aa.doubts n) f b,()),()):=by
 have:=q9 (step:=λrec a=>Q97.l0.step K (n,f,b,()) rec a) (λd:cb=>d.1) (mkD n.2.2.2.2.2.1 f b) (aa.doubts n) (λ_=>false) none (λxs=>some ((xs,()),())) (λacc d i=>(acc,d,(i:Int))) ?_ ?_ (aa.doubts n).length 0 K [] (f.2.2.1 != 2) (by omega) (by omega) (by simp) (by simp)
 ·refine Bd (this:Q97.f K (n,f,b,())=_) ?_;rw[AZ,show (aa.doubts n).any (λ_=>false)=false by simp,cY];by_cases h2:f.2.2.1=2
  ·rw[if_pos h2,show (f.2.2.1 != 2)=false by simpa using h2,jZ hA];rfl
  ·rw[if_neg h2,show (f.2.2.1 != 2)=true by simpa using h2,mP];rfl
 ·intro rec acc d i hi ha hd;simp only[Q97.l0.step];rw[bC (by omega:(i:Int)<(AB (aa.doubts n):Int)),ah hi,aw i (by omega)];simp only[cond_true,cond_false,AA];have z1:decide ((acc.length+[mkD n.2.2.2.2.2.1 f b].length)*48<=aj)=true:=szb _ _ _ (by omega) (by simp;omega);have z2:decide (((acc++[mkD n.2.2.2.2.2.1 f b]).length+[(aa.doubts n)[i]].length)*48<=aj)=true:=szb _ _ _ (by omega) (by simp;omega);have z3:decide ((acc.length+[(aa.doubts n)[i]].length)*48<=aj)=true:=szb _ _ _ (by omega) (by simp;omega);show (bif !d then (bif decide (f.1<=(aa.doubts n)[i].1) then (bif decide ((acc.length+[mkD n.2.2.2.2.2.1 f b].length)*48<=aj) then (bif (aa.doubts n)[i].1 != f.1 then (bif decide (((acc++[mkD n.2.2.2.2.2.1 f b]).length+[(aa.doubts n)[i]].length)*48<=aj) then (rec ((acc++[mkD n.2.2.2.2.2.1 f b])++[(aa.doubts n)[i]],true,((i+1:Nat):Int))) else none) else (rec (acc++[mkD n.2.2.2.2.2.1 f b],true,((i+1:Nat):Int)))) else none) else (bif (aa.doubts n)[i].1 != f.1 then (bif decide ((acc.length+[(aa.doubts n)[i]].length)*48<=aj) then (rec (acc++[(aa.doubts n)[i]],d,((i+1:Nat):Int))) else none) else (rec (acc,d,((i+1:Nat):Int))))) else (bif (aa.doubts n)[i].1 != f.1 then (bif decide ((acc.length+[(aa.doubts n)[i]].length)*48<=aj) then (rec (acc++[(aa.doubts n)[i]],d,((i+1:Nat):Int))) else none) else (rec (acc,d,((i+1:Nat):Int)))))=rec ((acc++(bif !d&&decide (f.1<=(aa.doubts n)[i].1) then [mkD n.2.2.2.2.2.1 f b] else []))++(bif (aa.doubts n)[i].1 != f.1 then [(aa.doubts n)[i]] else []),d||decide (f.1<=(aa.doubts n)[i].1),((i+1:Nat):Int));rw[z1,z2,z3];cases d <;> cases decide (f.1<=(aa.doubts n)[i].1) <;> cases (aa.doubts n)[i].1 != f.1 <;> simp only[AI,Ad,Ao,A2,BQ,BM,cond_true,cond_false,AP]
 ·intro rec acc d ha hd;simp only[Q97.l0.step,aR];cases d with
  |true=>simp only[AI,cond_false,cond_true,AP]
  |false =>
   have:=hd rfl;have z1:decide ((acc.length+[mkD n.2.2.2.2.2.1 f b].length)*48<=aj)=true:=szb _ _ _ (by omega) (by simp;omega);show (bif decide ((acc.length+[mkD n.2.2.2.2.2.1 f b].length)*48<=aj) then some ((acc++[mkD n.2.2.2.2.2.1 f b],()),()) else none)=some ((acc++[mkD n.2.2.2.2.2.1 f b],()),());rw[z1];rfl
def ia (n:aa)(t:List af)(c:List aZ)(ds:List cb):aa :=
 (n.1,n.2.1,n.2.2.1,n.2.2.2.1,n.2.2.2.2.1,n.2.2.2.2.2.1,n.2.2.2.2.2.2.1,n.2.2.2.2.2.2.2.1,t,c,n.2.2.2.2.2.2.2.2.2.2.1,ds,n.2.2.2.2.2.2.2.2.2.2.2.2)
def jG (n:aa)(f:af):Bool:=decide (∃ g∈aa.table n,g.1=f.1/\g.2.1=f.2.1/\g.2.2.1=f.2.2.1)
def sayOf (n:aa)(f:af)(b:Int):aa :=
 bif (bY (aa.table n) f).2 then ia n (bY (aa.table n) f).1 (eH (aa.cast n) f) (bif jG n f then aa.doubts n else cY n.2.2.2.2.2.1 (aa.doubts n) f b) else n
structure cI (n:aa):Prop where
 table:aB (aa.table n)
 cast:cX (aa.cast n)
 asc:Asc (λd:cb=>d.1) (aa.doubts n)
 inp:∀ d∈aa.doubts n,InP d.1 0 7
 lt:(aa.table n).length<=1048576
 lc:(aa.cast n).length<=1048576
 ld:(aa.doubts n).length<=1048576
theorem wD {n:aa}{f g:af}(hT:Asc (λg:af=>g.1) (aa.table n))(hg:g∈aa.table n)(e:g.1=f.1):jG n f=(g.2.1==f.2.1&&g.2.2.1==f.2.2.1):=by
 rw[A9,jG,decide_eq_true_eq,Al,beq_iff_eq,beq_iff_eq];constructor
 ·rintro⟨x,hx,h1,h2,h3⟩;have:=gn hT hx hg (by rw[h1,e]);subst this;exact⟨h2,h3⟩
 ·rintro⟨h1,h2⟩;exact⟨g,hg,e,h1,h2⟩
theorem wE {n:aa}{f:af}(h:∀ g∈aa.table n,g.1≠f.1):jG n f=false :=
 decide_eq_false λ⟨g,hg,e,_⟩=>h g hg e
theorem nX (K:Nat)(n:aa)(f:af)(b:Int)(h:cI n)(hK:1048577<K):Q130.f K (n,f,b,())=some ((sayOf n f b,()),()):=by
 simp only[Q130.f];rw[show Q95.f K (n.2.2.2.2.2.2.2.2.1,f,())=_ from put_s K (aa.table n) f h.lt h.table.2 hK];simp only[AA];cases hp:(bY (aa.table n) f).2 with
 |false =>
  simp only[sayOf,hp];rfl
 |true =>
  simp only[sayOf,hp,AI,cond_false,cond_true];obtain⟨o,ho,h1⟩:=eF K (aa.table n) f.1 h.lt hK;rw[show Q94.f K (n.2.2.2.2.2.2.2.2.1,f.1,())=_ from h1];simp only[AA];have hd:=xP K (n.1,n.2.1,n.2.2.1,n.2.2.2.1,n.2.2.2.2.1,n.2.2.2.2.2.1,n.2.2.2.2.2.2.1,n.2.2.2.2.2.2.2.1,(bY (aa.table n) f).1,eH (aa.cast n) f,n.2.2.2.2.2.2.2.2.2.2) f b h.ld h.asc hK;have hc:=xO K (aa.cast n) f h.lc h.cast.2 hK;cases ho with
  |at_ i hi e =>
   simp only;rw[wD h.table.2 (AD hi) e,decide_eq_true (by omega:((i:Nat):Int)>=0)];simp only[cond_true];rw[show idx n.2.2.2.2.2.2.2.2.1 (i:Int)=some (aa.table n)[i] from ah hi];simp only[AA];rw[show Q96.f K (n.2.2.2.2.2.2.2.2.2.1,f,())=_ from hc];simp only[AA];rw[hd];cases (aa.table n)[i].2.1==f.2.1 with
   |true =>
    cases (aa.table n)[i].2.2.1==f.2.2.1 <;> rfl
   |false=>rfl
  |no hno =>
   simp only;rw[wE hno,decide_eq_false (by omega:¬ (-1:Int)>=0)];simp only[cond_false];rw[show Q96.f K (n.2.2.2.2.2.2.2.2.2.1,f,())=_ from hc];simp only[AA];rw[hd];rfl
theorem nY {α:Type}{k:α->Int}{xs:List α}(h:Asc k xs)(p:α->Bool):Asc k (xs.filter p):=A3 p h
theorem gP {α:Type}{k:α->Int}{xs:List α}(h:Asc k xs)(h7:∀ x∈xs,InP (k x) 0 7):xs.length<=8:=by
 have:=(hX (xs.map k) [0,1,2,3,4,5,6,7] (by unfold Asc at h;rw[Ag];exact h) (by decide) (λy hy=>by
  obtain⟨x,hx,rfl⟩:=AY.1 hy;obtain⟨h1,h2⟩:=h7 x hx;simp only[BG,List.not_mem_nil,or_false];omega)).1
 rw[Ae]at this;exact this
theorem fZ (t:List af)(f:af):(bY t f).1=t\/(bY t f).1=bO (λg=>g.1) f t:=by
 unfold bY;split
 ·split
  ·exact .inr rfl
  ·exact .inl rfl
 ·exact .inr rfl
theorem ji {t:List af}{f:af}(h:aB t)(hf:bB f):aB (bY t f).1:=by
 rcases fZ t f with e|e
 ·rw[e];exact h
 ·rw[e];refine⟨λg hg=>?_,ew h.2⟩;rcases a7.1 hg with rfl|⟨h1,_⟩
  ·exact hf
  ·exact h.1 g h1
theorem nZ {l:List aZ}{f:af}(h:cX l)(hf:bB f):cX (eH l f):=by
 unfold eH;split
 ·exact h
 ·refine⟨λx hx=>?_,ew h.2⟩;rcases a7.1 hx with rfl|⟨h1,_⟩
  ·exact⟨hf,show (1:Int)<=4 by omega,show (4:Int)<=4 by omega⟩
  ·exact h.1 x h1
theorem lK {now:Int}{ds:List cb}{f:af}{b:Int}{d:cb}(h:d∈cY now ds f b):d=mkD now f b\/d∈ds:=by
 unfold cY at h;split at h
 ·rcases a7.1 h with h|h
  ·exact .inl h
  ·exact .inr h.1
 ·exact .inr (AJ.1 h).1
theorem re {now:Int}{ds:List cb}{f:af}{b:Int}(h:Asc (λd:cb=>d.1) ds):Asc (λd:cb=>d.1) (cY now ds f b):=by
 unfold cY;split
 ·exact ew h
 ·exact nY h _
theorem iy (n:aa)(f:af)(b:Int):∃ t c ds,sayOf n f b=ia n t c ds/\(t=aa.table n\/t=(bY (aa.table n) f).1)/\(c=aa.cast n\/c=eH (aa.cast n) f)/\(ds=aa.doubts n\/ds=cY n.2.2.2.2.2.1 (aa.doubts n) f b):=by
 unfold sayOf;cases (bY (aa.table n) f).2 with
 |false=>exact⟨aa.table n,aa.cast n,aa.doubts n,rfl,.inl rfl,.inl rfl,.inl rfl⟩
 |true =>
  cases jG n f with
  |true=>exact⟨_,_,_,rfl,.inr rfl,.inr rfl,.inl rfl⟩
  |false=>exact⟨_,_,_,rfl,.inr rfl,.inr rfl,.inr rfl⟩
theorem cI.mk' {n:aa}(ht:aB (aa.table n))(hc:cX (aa.cast n))(ha:Asc (λd:cb=>d.1) (aa.doubts n))(h7:∀ d∈aa.doubts n,InP d.1 0 7):cI n where
 table:=ht
 cast:=hc
 asc:=ha
 inp:=h7
 lt:=Ah (gP ht.2 (λg hg=>(ht.1 g hg).1)) (by decide)
 lc:=Ah (gP hc.2 (λx hx=>(hc.1 x hx).1.1)) (by decide)
 ld:=Ah (gP ha h7) (by decide)
theorem jj {n:aa}{f:af}{b:Int}(h:cI n)(hf:bB f):cI (sayOf n f b):=by
 obtain⟨t,c,ds,e,h1,h2,h3⟩:=iy n f b;rw[e];refine cI.mk' ?_ ?_ ?_ ?_
 ·show aB t;rcases h1 with rfl|rfl
  ·exact h.table
  ·exact ji h.table hf
 ·show cX c;rcases h2 with rfl|rfl
  ·exact h.cast
  ·exact nZ h.cast hf
 ·show Asc _ ds;rcases h3 with rfl|rfl
  ·exact h.asc
  ·exact re h.asc
 ·show ∀ d∈ds,InP d.1 0 7;rcases h3 with rfl|rfl
  ·exact h.inp
  ·intro d hd;rcases lK hd with rfl|hd
   ·exact hf.1
   ·exact h.inp d hd
theorem UpP.say {n:aa}(h:UpP n):cI n:=by
 obtain⟨h1,_,_,⟨h4,_⟩,_,h6,_⟩:=h;refine cI.mk' h1 h4 h6.2.1 λd hd=>?_
 obtain⟨f,hf,e,_⟩:=(h6.1 d hd).1;rw[<- e];exact (h1.1 f hf).1
theorem o7 {α β A R:Type}(t:List α)(p:α->Bool)(g:α->β)(S:List β->Nat->A)(fin:List β->Option R){step:(A->Option R)->A->Option R}
  (h:∀ (rec:A->Option R) (acc:List β) (i:Nat) (hi:i<t.length),acc.length<=i->step rec (S acc i)=rec (S (bif p t[i] then acc++[g t[i]] else acc) (i+1)))
  (hend:∀ (rec:A->Option R) (acc:List β),acc.length<=t.length->step rec (S acc t.length)=fin acc) {k:Nat} (hk:t.length<k) :
  ae step k (S [] 0)=fin ((t.filter p).map g):=by
 have:∀ (d i k:Nat) (acc:List β),i+d=t.length->d<k->acc.length<=i->ae step k (S acc i)=fin (acc++((t.drop i).filter p).map g):=by
  intro d;induction d with
  |zero =>
   intro i k acc hi hk ha;obtain⟨k,rfl⟩:∃ k',k=k'+1:=⟨k-1,by omega⟩;have:i=t.length:=by omega
   subst this;show step (ae step k) _=_;rw[hend _ _ ha];simp
  |succ d ih =>
   intro i k acc hi hk ha;obtain⟨k,rfl⟩:∃ k',k=k'+1:=⟨k-1,by omega⟩;have hlt:i<t.length:=by omega
   show step (ae step k) _=_;rw[h _ _ _ hlt ha,AL hlt,AW];cases p t[i] with
   |true =>
    simp only[cond_true,if_true,BY];rw[ih (i+1) k _ (by omega) (by omega) (by simp;omega),Ar];rfl
   |false =>
    simp only[cond_false];rw[ih (i+1) k _ (by omega) (by omega) (by omega)];rfl
 have:=this t.length 0 k [] (by omega) hk (AX _)
 rwa [AZ,AQ]at this
theorem szw (a b c:Nat)(hc:c<=128)(h:a+b<=2097152):decide ((a+b)*c<=aj)=true:=by
 have:=BJ h hc;exact decide_eq_true (by unfold aj;omega)
def jH (n:aa):aa:=(n.1,n.2.1,true,n.2.2.2)
def n9 (kind:Int)(n:aa)(to:Int):av:=(1,kind,n.1,to,0,n.1,aa.coord n,aa.table n)
theorem mC (K:Nat)(n:aa)(kind to:Int)(hn:(aa.table n).length<=1048576):Q93.f K (n,kind,to,0,n.1,aa.table n,())=some ((n9 kind n to,()),()):=by
 simp only[Q93.f];rw[szb _ _ _ (by omega) (by show (AB ([]:List af))+(aa.table n).length<=_;simp;omega)];rfl
def dW (f:af):Bool:=f.2.2.1==1||f.2.2.1==2
theorem ta (K:Nat)(t:List af)(f:af)(hT:aB t)(ht:t.length<=1048576)(hf:f∈t)(hK:1048577<K):Q132.f K (t,f.1,())=rb (dW f):=by
 simp only[Q132.f];obtain⟨o,ho,h1⟩:=eF K t f.1 ht hK;rw[h1];simp only[AA];cases ho with
 |at_ i hi e =>
  simp only;rw[decide_eq_true (by omega:((i:Nat):Int)>=0),ah hi];simp only[cond_true,AA];rw[gn hT.2 (AD hi) hf e,dW];cases f.2.2.1==1 <;> rfl
 |no h=>exact absurd rfl (h f hf)
def rg (n:aa)(f:af):Bool:=f.1 != n.1&&dW f
def ku (n:aa):List av:=((aa.table n).filter (rg n)).map λf=>n9 5 n f.1
def lL (n:aa):aa:=jH (sayOf n (n.1,n.2.2.2.2.1,4,n.2.2.2.1) n.1)
theorem rh (K:Nat)(x:ab Q148.ps)(m:aa)(hT:aB (aa.table m))(ht:(aa.table m).length<=1048576)(hK:1048577<K) :
  Q148.l0 K x ([],0,m.1,m.2.1,m.2.2.2.1,m.2.2.2.2.1,m.2.2.2.2.2.1,m.2.2.2.2.2.2.1,m.2.2.2.2.2.2.2.1,m.2.2.2.2.2.2.2.2.1,m.2.2.2.2.2.2.2.2.2.1,m.2.2.2.2.2.2.2.2.2.2.1.1,m.2.2.2.2.2.2.2.2.2.2.1.2.1,m.2.2.2.2.2.2.2.2.2.2.1.2.2.1,m.2.2.2.2.2.2.2.2.2.2.1.2.2.2,m.2.2.2.2.2.2.2.2.2.2.2.1,m.2.2.2.2.2.2.2.2.2.2.2.2.1.1,m.2.2.2.2.2.2.2.2.2.2.2.2.1.2.1,m.2.2.2.2.2.2.2.2.2.2.2.2.1.2.2.1,m.2.2.2.2.2.2.2.2.2.2.2.2.1.2.2.2,m.2.2.2.2.2.2.2.2.2.2.2.2.2.1,m.2.2.2.2.2.2.2.2.2.2.2.2.2.2)=some ((jH m,ku (jH m),()),()):=by
 refine o7 (step:=λrec a=>Q148.l0.step K x rec a) (aa.table m) (rg (jH m)) (λf=>n9 5 (jH m) f.1) (λacc i=>(acc,(i:Int),m.1,m.2.1,m.2.2.2.1,m.2.2.2.2.1,m.2.2.2.2.2.1,m.2.2.2.2.2.2.1,m.2.2.2.2.2.2.2.1,m.2.2.2.2.2.2.2.2.1,m.2.2.2.2.2.2.2.2.2.1,m.2.2.2.2.2.2.2.2.2.2.1.1,m.2.2.2.2.2.2.2.2.2.2.1.2.1,m.2.2.2.2.2.2.2.2.2.2.1.2.2.1,m.2.2.2.2.2.2.2.2.2.2.1.2.2.2,m.2.2.2.2.2.2.2.2.2.2.2.1,m.2.2.2.2.2.2.2.2.2.2.2.2.1.1,m.2.2.2.2.2.2.2.2.2.2.2.2.1.2.1,m.2.2.2.2.2.2.2.2.2.2.2.2.1.2.2.1,m.2.2.2.2.2.2.2.2.2.2.2.2.1.2.2.2,m.2.2.2.2.2.2.2.2.2.2.2.2.2.1,m.2.2.2.2.2.2.2.2.2.2.2.2.2.2)) (λws=>some ((jH m,ws,()),())) ?_ ?_ (by omega)
 ·intro rec acc i hi ha;simp only[Q148.l0.step];rw[show decide ((i:Int)<(AB m.2.2.2.2.2.2.2.2.1:Int))=true from bC (by omega:(i:Int)<(AB (aa.table m):Int)),show idx m.2.2.2.2.2.2.2.2.1 (i:Int)=some (aa.table m)[i] from ah hi,aw i (by omega)];simp only[cond_true,AA,rg];rw[show (jH m).1=m.1 from rfl];cases hb:(aa.table m)[i].1 != m.1 with
  |false=>rfl
  |true =>
   simp only[cond_true,Ao];rw[show Q132.f K (m.2.2.2.2.2.2.2.2.1,(aa.table m)[i].1,())=_ from ta K (aa.table m) _ hT ht (AD hi) hK];simp only[AA];cases dW (aa.table m)[i] with
   |false=>rfl
   |true =>
    simp only[cond_true];refine (congrArg (λo=>AH o _) (mC K (jH m) 5 (aa.table m)[i].1 ht)).trans ?_;simp only[AA];rw[szw _ _ _ (by omega) (by simp;omega)];rfl
 ·intro rec acc ha;simp only[Q148.l0.step];rw[show decide ((AB (aa.table m):Int)<(AB m.2.2.2.2.2.2.2.2.1:Int))=false from aR _];rfl
theorem tV {n:aa}(hP:eU n):bB (n.1,n.2.2.2.2.1,4,n.2.2.2.1):=⟨hP.1,hP.2.2.2.2.1,show (1:Int)<=4 by omega,show (4:Int)<=4 by omega⟩
theorem xQ (K:Nat)(n:aa)(hn:NB n)(hP:eU n)(hu:n.2.1=true)(hg:n.2.2.1=false)(hK:1048577<K):Q148.f K (n,())=some ((lL n,ku (lL n),()),()):=by
 have hs:=(hP.up hu).say;have h1:=jj (b:=n.1) hs (tV hP);simp only[Q148.f,Q148.pre];rw[hu,hg];simp only[AI,cond_false];rw[nX K n _ n.1 hs hK];exact rh K _ _ h1.table h1.lt hK
theorem lM {α σ A R:Type}(ds:List α)(st:σ->α->σ)(Inv:σ->Prop)(S:σ->Nat->A)(fin:σ->Option R){step:(A->Option R)->A->Option R}(n:σ)(h0:Inv n)
  (h:∀ (rec:A->Option R) (m:σ) (i:Nat) (hi:i<ds.length),Inv m->step rec (S m i)=rec (S (st m ds[i]) (i+1))/\Inv (st m ds[i]))
  (hend:∀ (rec:A->Option R) (m:σ),Inv m->step rec (S m ds.length)=fin m) {k:Nat} (hk:ds.length<k):ae step k (S n 0)=fin (ds.foldl st n):=by
 have:∀ (d i k:Nat) (m:σ),i+d=ds.length->d<k->Inv m->ae step k (S m i)=fin ((ds.drop i).foldl st m):=by
  intro d;induction d with
  |zero =>
   intro i k m hi hk hm;obtain⟨k,rfl⟩:∃ k',k=k'+1:=⟨k-1,by omega⟩;have:i=ds.length:=by omega
   subst this;show step (ae step k) _=_;rw[hend _ _ hm,BF];rfl
  |succ d ih =>
   intro i k m hi hk hm;obtain⟨k,rfl⟩:∃ k',k=k'+1:=⟨k-1,by omega⟩;have hlt:i<ds.length:=by omega
   show step (ae step k) _=_;obtain⟨h1,h2⟩:=h (ae step k) m i hlt hm;rw[h1,AL hlt];exact ih (i+1) k _ (by omega) (by omega) h2
 have:=this ds.length 0 k n (by omega) hk h0
 rwa [AZ]at this
theorem kW {α σ:Type}{st:σ->α->σ}{Inv:σ->Prop}:∀ {ds:List α} {n:σ},Inv n->(∀ m,∀ d∈ds,Inv m->Inv (st m d))->Inv (ds.foldl st n)
 |[],_,h,_=>h
 |d::ds,n,h,hs=>kW (ds:=ds) (hs n d (by simp) h) (λm d' hd'=>hs m d' (by simp[hd']))
def aX (t:List af)(node:Int):af:=(t.find? λg=>g.1==node).getD (0,0,0,false)
theorem jI {t:List af}(hA:Asc (λg:af=>g.1) t){f:af}(hf:f∈t):aX t f.1=f:=by
 obtain⟨i,hi,e⟩:=AK hf;unfold aX;rw[show t.find? (λg=>g.1==f.1)=some t[i] from nu hA hi (by rw[e]),e];rfl
theorem jJ {t:List af}{node:Int}(h:∀ g∈t,g.1≠node):aX t node=(0,0,0,false):=by
 unfold aX;rw[show t.find? (λg=>g.1==node)=none from mB h];rfl
theorem ri (K:Nat)(t:List af)(node:Int)(hT:aB t)(ht:t.length<=1048576)(hK:1048577<K):Q132.f K (t,node,())=rb (dW (aX t node)):=by
 by_cases h:∃ f∈t,f.1=node
 ·obtain⟨f,hf,rfl⟩:=h;rw[ta K t f hT ht hf hK,jI hT.2 hf]
 ·have h0:∀ g∈t,g.1≠node:=λg hg e=>h ⟨g,hg,e⟩
  simp only[Q132.f];obtain⟨o,ho,h1⟩:=eF K t node ht hK;rw[h1,jJ h0];cases ho with
  |at_ i hi e=>exact absurd e (h0 _ (AD hi))
  |no _=>rfl
theorem jk (n:aa)(f:af)(b:Int):(sayOf n f b).1=n.1/\(sayOf n f b).2.1=n.2.1/\(sayOf n f b).2.2.1=n.2.2.1/\(sayOf n f b).2.2.2.1=n.2.2.2.1/\(sayOf n f b).2.2.2.2.1=n.2.2.2.2.1/\(sayOf n f b).2.2.2.2.2.1=n.2.2.2.2.2.1/\(sayOf n f b).2.2.2.2.2.2.1=n.2.2.2.2.2.2.1/\(sayOf n f b).2.2.2.2.2.2.2.1=n.2.2.2.2.2.2.2.1/\aa.probe (sayOf n f b)=aa.probe n/\(sayOf n f b).2.2.2.2.2.2.2.2.2.2.2.2=n.2.2.2.2.2.2.2.2.2.2.2.2:=by
 obtain⟨t,c,ds,e,_⟩:=iy n f b;rw[e];exact⟨rfl,rfl,rfl,rfl,rfl,rfl,rfl,rfl,rfl,rfl⟩
theorem lN {t:List af}{f g:af}(hg:g∈t):∃ g'∈(bY t f).1,g'.1=g.1:=by
 rcases fZ t f with e|e
 ·rw[e];exact⟨g,hg,rfl⟩
 ·rw[e];by_cases h:g.1=f.1
  ·exact⟨f,a7.2 (.inl rfl),h.symm⟩
  ·exact⟨g,a7.2 (.inr ⟨hg,h⟩),rfl⟩
theorem iz {n:aa}{f:af}{b:Int}{g:af}(hg:g∈aa.table n):∃ g'∈aa.table (sayOf n f b),g'.1=g.1:=by
 obtain⟨t,c,ds,e,h1,_⟩:=iy n f b;rw[e];rcases h1 with rfl|rfl
 ·exact⟨g,hg,rfl⟩
 ·exact lN hg
def o8 (now since:Int)(len:Nat):Bool:=decide (now-since>=if 6-(len:Int)+1<3 then 3 else 6-(len:Int)+1)
def jK (f:af):af:=(f.1,f.2.1,3,f.2.2.2)
def gp (n:aa)(d:cb):aa:=bif o8 n.2.2.2.2.2.1 d.2.2.1 d.2.2.2.length then sayOf n (jK (aX (aa.table n) d.1)) n.1 else n
def jl (n:aa):aa:=(aa.doubts n).foldl gp n
theorem due_s (K:Nat)(now:Int)(d:cb)(h0:0<=d.2.2.1)(h1:d.2.2.1<=now)(h2:now<=1000000)(hl:d.2.2.2.length<=1048576):Q129.f K (now,d,())=rb (o8 now d.2.2.1 d.2.2.2.length):=by
 simp only[Q129.f];rw[aM (n:=6-(AB d.2.2.2:Int)) (by omega) (by omega),aM (n:=6-(AB d.2.2.2:Int)+1) (by omega) (by omega),aM (n:=now-d.2.2.1) (by omega) (by omega)];unfold o8;by_cases h:6-(AB d.2.2.2:Int)+1<3
 ·rw[decide_eq_true h,if_pos h];rfl
 ·rw[decide_eq_false h,if_neg h];rfl
structure oa (ds:List cb) (now:Int) (n:aa):Prop where
 ok:cI n
 key:∀ d∈ds,∃ f∈aa.table n,f.1=d.1
 now_:n.2.2.2.2.2.1=now
theorem tc {f:af}(h:bB f):bB (jK f):=⟨h.1,h.2.1,show (1:Int)<=3 by omega,show (3:Int)<=4 by omega⟩
theorem ei {t:List af}{node:Int}(hT:aB t)(h:∃ f∈t,f.1=node):bB (aX t node)/\(aX t node).1=node/\aX t node∈t:=by
 obtain⟨f,hf,rfl⟩:=h;rw[jI hT.2 hf];exact⟨hT.1 f hf,rfl,hf⟩
theorem sA {ds:List cb}{now:Int}{n:aa}{d:cb}(h:oa ds now n)(hd:d∈ds):oa ds now (gp n d):=by
 unfold gp;cases o8 n.2.2.2.2.2.1 d.2.2.1 d.2.2.2.length with
 |false=>exact h
 |true =>
  have hf:=tc (ei h.ok.table (h.key d hd)).1;refine⟨jj h.ok hf,λd' hd'=>?_,(jk n _ _).2.2.2.2.2.1.trans h.now_⟩;obtain⟨g,hg,e⟩:=h.key d' hd';obtain⟨g',hg',e'⟩:=iz (f:=jK (aX (aa.table n) d.1)) (b:=n.1) hg;exact⟨g',hg',e'.trans e⟩
theorem yL (K:Nat)(n:aa)(h:oa (aa.doubts n) n.2.2.2.2.2.1 n)(hd:∀ d∈aa.doubts n,0<=d.2.2.1/\d.2.2.1<=n.2.2.2.2.2.1/\d.2.2.2.length<=1048576)(hnow:n.2.2.2.2.2.1<=1000000)(hK:1048577<K):Q131.f K (n,())=some ((jl n,()),()):=by
 have hl:=h.ok.ld;refine lM (step:=λrec a=>Q131.l0.step K (n,()) rec a) (aa.doubts n) gp (oa (aa.doubts n) n.2.2.2.2.2.1) (λm i=>((i:Int),m.1,m.2.1,m.2.2.1,m.2.2.2.1,m.2.2.2.2.1,m.2.2.2.2.2.1,m.2.2.2.2.2.2.1,m.2.2.2.2.2.2.2.1,m.2.2.2.2.2.2.2.2.1,m.2.2.2.2.2.2.2.2.2.1,m.2.2.2.2.2.2.2.2.2.2.1.1,m.2.2.2.2.2.2.2.2.2.2.1.2.1,m.2.2.2.2.2.2.2.2.2.2.1.2.2.1,m.2.2.2.2.2.2.2.2.2.2.1.2.2.2,m.2.2.2.2.2.2.2.2.2.2.2.1,m.2.2.2.2.2.2.2.2.2.2.2.2.1.1,m.2.2.2.2.2.2.2.2.2.2.2.2.1.2.1,m.2.2.2.2.2.2.2.2.2.2.2.2.1.2.2.1,m.2.2.2.2.2.2.2.2.2.2.2.2.1.2.2.2,m.2.2.2.2.2.2.2.2.2.2.2.2.2.1,m.2.2.2.2.2.2.2.2.2.2.2.2.2.2)) (λm=>some ((m,()),())) n h ?_ ?_ (by omega)
 ·intro rec m i hi hm;refine⟨?_,sA hm (AD hi)⟩;simp only[Q131.l0.step];obtain⟨d0,d1,d2⟩:=hd _ (AD hi);rw[show decide ((i:Int)<(AB n.2.2.2.2.2.2.2.2.2.2.2.1:Int))=true from bC (by omega:(i:Int)<(AB (aa.doubts n):Int)),show idx n.2.2.2.2.2.2.2.2.2.2.2.1 (i:Int)=some (aa.doubts n)[i] from ah hi,aw i (by omega)];simp only[cond_true,AA];rw[due_s K m.2.2.2.2.2.1 (aa.doubts n)[i] d0 (by rw[hm.now_];exact d1) (by rw[hm.now_];exact hnow) d2];simp only[AA];have hkey:=hm.key _ (AD hi);generalize (aa.doubts n)[i]=d at hkey d0 d1 d2 ⊢;unfold gp;cases o8 m.2.2.2.2.2.1 d.2.2.1 d.2.2.2.length with
  |false=>rfl
  |true =>
   simp only[cond_true];have hft:=ei hm.ok.table hkey;obtain⟨o,ho,h1⟩:=eF K (aa.table m) d.1 hm.ok.lt hK;rw[show Q94.f K (m.2.2.2.2.2.2.2.2.1,d.1,())=_ from h1];simp only[AA];cases ho with
   |no h=>exact absurd hkey (λ⟨f,hf,e⟩=>h f hf e)
   |at_ j hj e =>
    simp only;rw[show idx m.2.2.2.2.2.2.2.2.1 ((j:Nat):Int)=some (aa.table m)[j] from ah hj,gn hm.ok.table.2 (AD hj) hft.2.2 (by rw[e,hft.2.1])];simp only[AA];refine (congrArg (λo=>AH o _) (nX K m (jK (aX (aa.table m) d.1)) m.1 hm.ok hK)).trans ?_;rfl
 ·intro rec m hm;simp only[Q131.l0.step];rw[show decide ((AB (aa.doubts n):Int)<(AB n.2.2.2.2.2.2.2.2.2.2.2.1:Int))=false from aR _];rfl
def setP (n:aa)(p:af):aa:=(n.1,n.2.1,n.2.2.1,n.2.2.2.1,n.2.2.2.2.1,n.2.2.2.2.2.1,n.2.2.2.2.2.2.1,n.2.2.2.2.2.2.2.1,n.2.2.2.2.2.2.2.2.1,n.2.2.2.2.2.2.2.2.2.1,p,n.2.2.2.2.2.2.2.2.2.2.2)
def noP:af:=(-1,0,0,false)
def oc (f:af):af:=(f.1,f.2.1,2,f.2.2.2)
def tW (n:aa)(f:af):Bool:=f.2.2.1==1&&f.1 != n.1&&f.1 != (aa.probe n).1
def eQ (n:aa):List Int:=(((aa.table n).filter (tW n)).map (·.1)).take 2
def askW (n:aa)(to:Int):av:=(1,3,n.1,to,(aa.probe n).2.2.1,(aa.probe n).1,aa.coord n,[])
def kv (n:aa):aa:=setP n ((aa.probe n).1,(aa.probe n).2.1,(aa.probe n).2.2.1,true)
def cZ (n:aa):aa×List av :=
 bif (aa.probe n).1==-1 then (n,[]) else
 bif !dW (aX (aa.table n) (aa.probe n).1) then (setP n noP,[]) else
 bif decide (n.2.2.2.2.2.1-(aa.probe n).2.1>=4) then (bif (aX (aa.table n) (aa.probe n).1).2.2.1==1 then sayOf (setP n noP) (oc (aX (aa.table n) (aa.probe n).1)) n.1 else setP n noP,[]) else
 bif decide (n.2.2.2.2.2.1-(aa.probe n).2.1>=2) then (bif !(aa.probe n).2.2.2 then (kv n,(eQ n).map (askW n)) else (n,[])) else (n,[])
theorem cI.setP {n:aa}(h:cI n)(p:af):cI (setP n p):=⟨h.table,h.cast,h.asc,h.inp,h.lt,h.lc,h.ld⟩
theorem xR {f:af}(h:bB f):bB (oc f):=⟨h.1,h.2.1,show (1:Int)<=2 by omega,show (2:Int)<=4 by omega⟩
theorem f9 {t:List af}{node:Int}(h:dW (aX t node)=true):∃ f∈t,f.1=node:=by
 by_cases h1:∃ f∈t,f.1=node
 ·exact h1
 ·rw[jJ (λg hg e=>h1 ⟨g,hg,e⟩)]at h;simp[dW]at h
theorem vc (K:Nat)(n:aa)(ht:(aa.table n).length<=1048576)(hK:1048577<K):Q133.f K (n,())=some ((eQ n,()),()):=by
 have:=jY (step:=λrec a=>Q133.l0.step K (n,()) rec a) (aa.table n) (tW n) (λf=>f.1) 2 (λxs=>some ((xs,()),())) ?_ ?_ ?_ (aa.table n).length 0 K [] (by omega) (by omega) (AX _) (by simp)
 ·exact this
 ·intro rec acc i hi ha hn;simp only[Q133.l0.step];rw[show decide ((i:Int)<(AB n.2.2.2.2.2.2.2.2.1:Int))=true from bC (by omega:(i:Int)<(AB (aa.table n):Int)),show idx n.2.2.2.2.2.2.2.2.1 (i:Int)=some (aa.table n)[i] from ah hi,aw i (by omega),decide_eq_true (by omega:(AB acc:Int)<2)];simp only[cond_true,AA,tW];show (bif (aa.table n)[i].1 != n.1 then (bif (aa.table n)[i].1 != (aa.probe n).1 then (bif (aa.table n)[i].2.2.1==1 then (bif decide ((AB acc+AB ([(aa.table n)[i].1]))*8<=aj) then (rec (acc++([(aa.table n)[i].1]),((i+1:Nat):Int))) else none) else (rec (acc,((i+1:Nat):Int)))) else (rec (acc,((i+1:Nat):Int)))) else (rec (acc,((i+1:Nat):Int))))=_;rw[szb _ _ _ (by omega) (by simp;omega)];cases (aa.table n)[i].1 != n.1 <;> cases (aa.table n)[i].1 != (aa.probe n).1 <;> cases (aa.table n)[i].2.2.1==1 <;> rfl
 ·intro rec acc i hi ha hn;simp only[Q133.l0.step];rw[show decide ((i:Int)<(AB n.2.2.2.2.2.2.2.2.1:Int))=true from bC (by omega:(i:Int)<(AB (aa.table n):Int)),decide_eq_false (by omega:¬ (AB acc:Int)<2)];rfl
 ·intro rec acc _;simp only[Q133.l0.step];rw[show decide ((AB (aa.table n):Int)<(AB n.2.2.2.2.2.2.2.2.1:Int))=false from aR _];rfl
theorem yM (K:Nat)(n:aa)(h:cI n)(hp:(aa.probe n).1≠-1)(h0:0<=(aa.probe n).2.1)(h1:(aa.probe n).2.1<=1000000)(hn0:0<=n.2.2.2.2.2.1)(hn1:n.2.2.2.2.2.1<=1000000)(hK:1048577<K) :
  Q134.f K (n,())=some (((cZ n).1,(cZ n).2,()),()):=by
 simp only[Q134.f,Q134.pre,cZ];rw[show ((aa.probe n).1==-1)=false by simpa using hp];simp only[cond_false];rw[show Q132.f K (n.2.2.2.2.2.2.2.2.1,n.2.2.2.2.2.2.2.2.2.2.1.1,())=_ from ri K (aa.table n) (aa.probe n).1 h.table h.lt hK];simp only[AA];cases hl:dW (aX (aa.table n) (aa.probe n).1) with
 |false=>rfl
 |true =>
  have hf:=ei h.table (f9 hl);simp only[AI,cond_false];rw[aM (n:=n.2.2.2.2.2.1-n.2.2.2.2.2.2.2.2.2.2.1.2.1) (by show -9223372036854775808<=n.2.2.2.2.2.1-(aa.probe n).2.1;omega) (by show n.2.2.2.2.2.1-(aa.probe n).2.1<=9223372036854775807;omega)];show (bif decide (n.2.2.2.2.2.1-(aa.probe n).2.1>=4) then _ else _)=_;cases decide (n.2.2.2.2.2.1-(aa.probe n).2.1>=4) with
  |true =>
   simp only[cond_true];obtain⟨o,ho,e1⟩:=eF K (aa.table n) (aa.probe n).1 h.lt hK;rw[show Q94.f K (n.2.2.2.2.2.2.2.2.1,n.2.2.2.2.2.2.2.2.2.2.1.1,())=_ from e1];simp only[AA];cases ho with
   |no hno=>exact absurd (f9 hl) (λ⟨f,hf,e⟩=>hno f hf e)
   |at_ j hj e =>
    simp only;rw[show idx n.2.2.2.2.2.2.2.2.1 ((j:Nat):Int)=some (aa.table n)[j] from ah hj,gn h.table.2 (AD hj) hf.2.2 (by rw[e,hf.2.1])];simp only[AA];cases (aX (aa.table n) (aa.probe n).1).2.2.1==1 with
    |true =>
     simp only[cond_true];refine (congrArg (λo=>AH o _) (nX K (setP n noP) (oc (aX (aa.table n) (aa.probe n).1)) n.1 (h.setP noP) hK)).trans ?_;rfl
    |false=>rfl
  |false =>
   simp only[cond_false];show (bif decide (n.2.2.2.2.2.1-(aa.probe n).2.1>=2) then _ else _)=_;cases decide (n.2.2.2.2.2.1-(aa.probe n).2.1>=2) with
   |false=>rfl
   |true =>
    simp only[cond_true];show (bif !(aa.probe n).2.2.2 then _ else _)=_;cases hask:(aa.probe n).2.2.2 with
    |true=>rfl
    |false =>
     simp only[Ad,cond_true];refine (congrArg (λo=>AH o _) (vc K (kv n) h.lt hK)).trans ?_;simp only[AA];rw[show eQ (kv n)=eQ n from rfl];have hlen:(eQ n).length<=2:=BU _ _;refine Bd (o7 (step:=λrec a=>Q134.l0.step K (n,()) rec a) (eQ n) (λ_=>true) (askW n) (λacc i=>(acc,eQ n,(i:Int))) (λws=>some ((kv n,ws,()),())) ?_ ?_ (by omega)) (by rw[AR.2 (λ_ _=>rfl)])
     ·intro rec acc i hi ha;simp only[Q134.l0.step];rw[bC (by omega:(i:Int)<(AB (eQ n):Int)),ah hi,aw i (by omega),AF,ah hi];simp only[cond_true,AA,Q93.f];rw[szb _ _ _ (by omega) (by simp)];simp only[cond_true,AA];rw[szw _ _ _ (by omega) (by simp;omega)];rfl
     ·intro rec acc ha;simp only[Q134.l0.step,aR];rfl
def gq (n:aa)(i:Int):aa:=(n.1,n.2.1,n.2.2.1,n.2.2.2.1,i,n.2.2.2.2.2)
def eW (n:aa)(f:af):aa:=bif decide (bN f (aX (aa.table n) n.1))&&decide (f.2.1<999) then sayOf (gq n (f.2.1+1)) (n.1,f.2.1+1,1,n.2.2.2.1) n.1 else n
def dI (f:af)(b:Int)(d:cb):cb:=bif d.1==f.1&&d.2.1==f.2.1&&f.2.2.1==2 then (d.1,d.2.1,d.2.2.1,bO (λx:Int=>x) b d.2.2.2) else d
def jL (n:aa)(f:af)(b:Int):aa:=ia n (aa.table n) (aa.cast n) ((aa.doubts n).map (dI f b))
def dM (b:Int)(n:aa)(f:af):aa:=bif f.1==n.1 then eW n f else jL (sayOf n f b) f b
def ib (n:aa)(t:List af)(b:Int):aa:=t.foldl (dM b) n
def kX (l:List Int):Prop:=Asc (λx:Int=>x) l/\∀ x∈l,InP x 0 7
theorem kX.len {l:List Int}(h:kX l):l.length<=8:=gP h.1 h.2
theorem kX.put {l:List Int}{b:Int}(h:kX l)(hb:InP b 0 7):kX (bO (λx:Int=>x) b l) :=
 ⟨ew h.1,λx hx=>by
  rcases a7.1 hx with rfl|⟨hx,_⟩
  ·exact hb
  ·exact h.2 x hx⟩
structure dR (n:aa):Prop where
 say:cI n
 me:InP n.1 0 7
 has:∃ g∈aa.table n,g.1=n.1
 by_:∀ d∈aa.doubts n,kX d.2.2.2
theorem cI.inc {n:aa}(h:cI n)(i:Int):cI (gq n i):=⟨h.table,h.cast,h.asc,h.inp,h.lt,h.lc,h.ld⟩
theorem kY {n:aa}{f:af}{b:Int}(hb:InP b 0 7)(h:∀ d∈aa.doubts n,kX d.2.2.2):∀ d∈aa.doubts (sayOf n f b),kX d.2.2.2:=by
 obtain⟨t,c,ds,e,_,_,h3⟩:=iy n f b;rw[e];intro d hd;have hd:d∈ds:=hd;rcases h3 with rfl|rfl
 ·exact h d hd
 ·rcases lK hd with rfl|hd
  ·exact⟨BO _ _,λx hx=>by rw[AV.1 hx];exact hb⟩
  ·exact h d hd
theorem td {n:aa}{f:af}(hm:InP n.1 0 7)(hf:bB f)(h:f.2.1<999):bB (n.1,f.2.1+1,1,n.2.2.2.1):=by
 obtain⟨_,⟨h1,h2⟩,_⟩:=hf;exact⟨hm,⟨show (0:Int)<=f.2.1+1 by omega,show f.2.1+1<=999 by omega⟩,show (1:Int)<=1 by omega,show (1:Int)<=4 by omega⟩
theorem dR.refute {n:aa}{f:af}(h:dR n)(hf:bB f):dR (eW n f):=by
 unfold eW;cases hc:decide (bN f (aX (aa.table n) n.1))&&decide (f.2.1<999) with
 |false=>exact h
 |true =>
  have hi:f.2.1<999:=by
   rw[Al]at hc;exact of_decide_eq_true hc.2
  obtain⟨f1,_⟩:=jk (gq n (f.2.1+1)) (n.1,f.2.1+1,1,n.2.2.2.1) n.1;refine⟨jj (h.say.inc _) (td h.me hf hi),?_,?_,kY h.me h.by_⟩
  ·show InP (sayOf (gq n (f.2.1+1)) (n.1,f.2.1+1,1,n.2.2.2.1) n.1).1 0 7;rw[f1];exact h.me
  ·obtain⟨g,hg,e⟩:=h.has;obtain⟨g',hg',e'⟩:=iz (n:=gq n (f.2.1+1)) (f:=(n.1,f.2.1+1,1,n.2.2.2.1)) (b:=n.1) (g:=g) hg;refine⟨g',hg',?_⟩;show g'.1=(sayOf (gq n (f.2.1+1)) (n.1,f.2.1+1,1,n.2.2.2.1) n.1).1;rw[f1,e',e];rfl
theorem dR.confirm {n:aa}{f:af}{b:Int}(h:dR n)(hf:bB f)(hb:InP b 0 7):dR (jL (sayOf n f b) f b):=by
 have hs:=jj (b:=b) h.say hf;obtain⟨f1,_⟩:=jk n f b;have hby:=kY (f:=f) hb h.by_;obtain⟨g,hg,e⟩:=h.has;obtain⟨g',hg',e'⟩:=iz (n:=n) (f:=f) (b:=b) hg;have hk:∀ d,(dI f b d).1=d.1:=λd=>by unfold dI;cases d.1==f.1&&d.2.1==f.2.1&&f.2.2.1==2 <;> rfl
 refine⟨⟨hs.table,hs.cast,?_,λd hd=>?_,hs.lt,hs.lc,?_⟩,?_,⟨g',hg',?_⟩,λd hd=>?_⟩
 ·show Asc (λd:cb=>d.1) ((aa.doubts (sayOf n f b)).map (dI f b));unfold Asc;rw[Ag];exact hs.asc.imp λ {a c} h=>by show (dI f b a).1<(dI f b c).1;rw[hk,hk];exact h
 ·obtain⟨d',hd',rfl⟩:=AY.1 hd;rw[hk];exact hs.inp d' hd'
 ·show ((aa.doubts (sayOf n f b)).map (dI f b)).length<=_;rw[Ae];exact hs.ld
 ·show InP (sayOf n f b).1 0 7;rw[f1];exact h.me
 ·show g'.1=(sayOf n f b).1;rw[f1,e',e]
 ·obtain⟨d',hd',rfl⟩:=AY.1 hd;unfold dI;cases d'.1==f.1&&d'.2.1==f.2.1&&f.2.2.1==2 with
  |false=>exact hby d' hd'
  |true=>exact (hby d' hd').put hb
theorem dR.step {n:aa}{f:af}{b:Int}(h:dR n)(hf:bB f)(hb:InP b 0 7):dR (dM b n f):=by
 unfold dM;cases f.1==n.1 with
 |true=>exact h.refute hf
 |false=>exact h.confirm hf hb
theorem wF {α A R:Type}(ds:List α)(g:α->α)(S:List α->Nat->A)(fin:List α->Option R){step:(A->Option R)->A->Option R}
  (h:∀ (rec:A->Option R) (cur:List α) (i:Nat) (hi:i<ds.length),cur.length=ds.length->cur[i]?=some ds[i]->step rec (S cur i)=rec (S (cur.set i (g ds[i])) (i+1)))
  (hend:∀ (rec:A->Option R) (cur:List α),cur.length=ds.length->step rec (S cur ds.length)=fin cur) {k:Nat} (hk:ds.length<k):ae step k (S ds 0)=fin (ds.map g):=by
 have:∀ (d i k:Nat) (cur:List α),i+d=ds.length->d<k->cur.length=ds.length->(∀ j,(hj:j<ds.length)->cur[j]?=some (if j<i then g ds[j] else ds[j]))->ae step k (S cur i)=fin (ds.map g):=by
  intro d;induction d with
  |zero =>
   intro i k cur hi hk hl hc;obtain⟨k,rfl⟩:∃ k',k=k'+1:=⟨k-1,by omega⟩;have:i=ds.length:=by omega
   subst this;show step (ae step k) _=_;rw[hend _ _ hl];congr 1;refine List.ext_getElem? λj=>?_
   rw[List.getElem?_map];by_cases hj:j<ds.length
   ·rw[hc j hj,if_pos hj,AM hj];rfl
   ·rw[Ay (by omega),Ay (by omega)];rfl
  |succ d ih =>
   intro i k cur hi hk hl hc;obtain⟨k,rfl⟩:∃ k',k=k'+1:=⟨k-1,by omega⟩;have hlt:i<ds.length:=by omega
   show step (ae step k) _=_;rw[h (ae step k) cur i hlt hl (by rw[hc i hlt,if_neg (by omega)])];refine ih (i+1) k _ (by omega) (by omega) (by rw[Bm,hl]) λj hj=>?_
   rw[List.getElem?_set];by_cases e:i=j
   ·subst e;rw[if_pos rfl,if_pos (by omega),if_pos (by omega)]
   ·rw[if_neg e,hc j hj];by_cases h1:j<i
    ·rw[if_pos h1,if_pos (by omega)]
    ·rw[if_neg h1,if_neg (by omega)]
 exact this ds.length 0 k ds (by omega) hk rfl (λj hj=>by rw[if_neg (by omega),AM hj])
theorem rj {α:Type}{cur:List α}{i:Nat}{x:α}(h:cur[i]?=some x):cur.set i x=cur:=by
 obtain⟨hi,e⟩:=List.getElem?_eq_some_iff.1 h;rw[<- e,List.set_getElem_self]
theorem rl {by_:List Int}{b:Int}{m:Nat}(hm:m<=by_.length)(hl:by_.length<=8){R:Type}(G:List Int->Option R) :
  (bif decide ((0:Int)<=0)&&decide ((0:Int)<=(m:Int))&&decide ((m:Int)<=(AB by_:Int))&&true then (bif decide ((AB ([]:List Int)+AB ((by_.take (AC (m:Int))).drop (AC 0)))*8<=aj) then (bif decide ((AB ([]++((by_.take (AC (m:Int))).drop (AC 0)))+AB ([b]))*8<=aj) then (bif decide ((0:Int)<=(m:Int))&&decide ((m:Int)<=(AB by_:Int))&&decide ((AB by_:Int)<=(AB by_:Int))&&true then (bif decide ((AB (([]++((by_.take (AC (m:Int))).drop (AC 0)))++([b]))+AB ((by_.take (AC (AB by_:Int))).drop (AC (m:Int))))*8<=aj) then G ((([]++((by_.take (AC (m:Int))).drop (AC 0)))++([b]))++((by_.take (AC (AB by_:Int))).drop (AC (m:Int)))) else none) else none) else none) else none) else none)=G (by_.take m++[b]++by_.drop m):=by
 rw[decide_eq_true (by omega:(0:Int)<=0),decide_eq_true (by omega:(0:Int)<=(m:Int)),decide_eq_true (by omega:(m:Int)<=(AB by_:Int)),decide_eq_true (by omega:(AB by_:Int)<=(AB by_:Int))];simp only[AF,BA,AZ,AQ,Ap,A8,cond_true];have h1:(by_.take m).length=m:=by rw[Aa];omega
 have h2:(by_.drop m).length=by_.length-m:=Af;rw[szb _ _ _ (by omega) (by simp only[AO];omega),szb _ _ _ (by omega) (by simp only[AG,AO];omega),szb _ _ _ (by omega) (by simp only[AN,AG,AO];omega)];rfl
theorem vd (K:Nat)(n:aa)(f:af)(b:Int)(hd:∀ d∈aa.doubts n,kX d.2.2.2)(hl:(aa.doubts n).length<=1048576)(hK:1048577<K):Q100.f K (n,f,b,())=some ((jL n f b,()),()):=by
 simp only[Q100.f,Q100.pre];refine wF (step:=λrec a=>Q100.l0.step K (n,f,b,()) (Q100.l1 K (n,f,b,()) rec) rec a) (aa.doubts n) (dI f b) (λcur i=>((i:Int),cur)) (λcur=>some ((ia n (aa.table n) (aa.cast n) cur,()),())) ?_ ?_ (by omega)
 ·intro rec cur i hi hlen hget;have hi':i<cur.length:=by omega
  have hcur:cur[i]=(aa.doubts n)[i]:=by
   rw[AM hi']at hget;exact Option.some.inj hget
  have hby:=hd _ (AD hi);simp only[Q100.l0.step];rw[bC (by omega:(i:Int)<(AB cur:Int)),ah hi',aw i (by omega),AF,ah hi',hcur];simp only[cond_true,AA];generalize hdd:(aa.doubts n)[i]=d at hby hget ⊢;have hstay:rec (((i+1:Nat):Int),cur)=rec (((i+1:Nat):Int),cur.set i d):=by rw[rj hget]
  unfold dI;by_cases h1:d.1=f.1
  case neg =>
   rw[show (d.1 != f.1)=true by simpa using h1,show (d.1==f.1)=false by simpa using h1];exact hstay
  by_cases h2:d.2.1=f.2.1
  case neg =>
   rw[show (d.1 != f.1)=false by simpa using h1,show (d.2.1 != f.2.1)=true by simpa using h2,show (d.2.1==f.2.1)=false by simpa using h2,Bp];exact hstay
  by_cases h3:f.2.2.1=2
  case neg =>
   rw[show (d.1 != f.1)=false by simpa using h1,show (d.2.1 != f.2.1)=false by simpa using h2,show (f.2.2.1 != 2)=true by simpa using h3,show (f.2.2.1==2)=false by simpa using h3,Bp];exact hstay
  rw[show (d.1 != f.1)=false by simpa using h1,show (d.2.1 != f.2.1)=false by simpa using h2,show (f.2.2.1 != 2)=false by simpa using h3,show (d.1==f.1)=true by simpa using h1,show (d.2.1==f.2.1)=true by simpa using h2,show (f.2.2.1==2)=true by simpa using h3];simp only[cond_false,A8,cond_true];have hbl:=hby.len;have ins:∀ m:Nat,m<=d.2.2.2.length->(∀ j,(hj:j<d.2.2.2.length)->j<m->d.2.2.2[j]<b)->(∀ j,(hj:j<d.2.2.2.length)->m<=j->b<d.2.2.2[j])->d.2.2.2.take m++[b]++d.2.2.2.drop m=bO (λx:Int=>x) b d.2.2.2:=λm hm lo hi=>nr (k:=λx:Int=>x) hm lo hi
  have:=cC (step:=λr a=>Q100.l1.step K (n,f,b,()) rec r a) d.2.2.2.length (λj=>((i:Int),(j:Int),cur,d.1,d.2.1,d.2.2.1,d.2.2.2)) (λj=>∃ h:j<d.2.2.2.length,¬ d.2.2.2[j]<b)
   (rec (((i+1:Nat):Int),cur.set i (d.1,d.2.1,d.2.2.1,d.2.2.2.take d.2.2.2.length++[b]++d.2.2.2.drop d.2.2.2.length)))
   (λj=>if h:j<d.2.2.2.length then (if d.2.2.2[j]=b then rec (((i+1:Nat):Int),cur) else rec (((i+1:Nat):Int),cur.set i (d.1,d.2.1,d.2.2.1,d.2.2.2.take j++[b]++d.2.2.2.drop j))) else none) ?_ ?_ d.2.2.2.length K 0 (by omega) (by omega)
  ·rcases this with ⟨hno,he⟩|⟨j,_,hj,⟨hj',hge⟩,hlt,he⟩
   ·refine Bd he ?_;rw[ins _ (AX _) (λj hj _=>by
     by_cases hb:d.2.2.2[j]<b
     ·exact hb
     ·exact absurd ⟨hj,hb⟩ (hno j (Aj _) hj)) (λj hj hm=>by omega)]
   ·refine Bd he ?_;rw[dif_pos hj'];have lo:∀ m,(hm:m<d.2.2.2.length)->m<j->d.2.2.2[m]<b:=λm hm hmj=>by
     by_cases hb:d.2.2.2[m]<b
     ·exact hb
     ·exact absurd ⟨hm,hb⟩ (hlt m (Aj _) hmj)
    by_cases hbe:d.2.2.2[j]=b
    ·rw[if_pos hbe,<- nq (k:=λx:Int=>x) hby.1 hj' hbe];rw[show d.2.2.2.set j b=d.2.2.2 from rj (by rw[AM hj',hbe])];exact hstay
    ·rw[if_neg hbe,ins j (by omega) lo (λm hm hjm=>by
      rcases Av hjm with h4|rfl
      ·have:=ea.1 hby.1 j m (by omega) hm h4;omega
      ·omega)]
  ·intro r j hj;simp only[Q100.l1.step];rw[bC (by omega:(j:Int)<(AB d.2.2.2:Int)),ah hj,aw j (by omega)];simp only[cond_true,AA];by_cases hb:d.2.2.2[j]<b
   ·left;refine⟨λ⟨_,h⟩=>h hb,?_⟩;rw[decide_eq_true hb];rfl
   ·right;refine⟨⟨hj,hb⟩,?_⟩;rw[decide_eq_false hb,show ((j:Int)==(AB d.2.2.2:Int))=false by simp;omega,dif_pos hj];simp only[cond_false];by_cases hbe:d.2.2.2[j]=b
    ·rw[if_pos hbe,show (d.2.2.2[j] != b)=false by simpa using hbe,aw i (by omega)];rfl
    ·rw[if_neg hbe,show (d.2.2.2[j] != b)=true by simpa using hbe];simp only[cond_true];refine (rl (m:=j) (b:=b) (Nat.le_of_lt hj) hbl (λz=>(idx cur (i:Int)).bind λ_=>(idx cur (AC (i:Int):Nat)).bind λ_=>rec (wr .i64 ((i:Int)+1),cur.set (AC (i:Int)) (d.1,(d.2.1,(d.2.2.1,z)))))).trans ?_;rw[AF,ah hi',aw i (by omega)];rfl
  ·intro r;simp only[Q100.l1.step];rw[aR];simp only[cond_false,beq_self_eq_true,cond_true];refine (rl (b:=b) (AX _) hbl (λz=>(idx cur (i:Int)).bind λ_=>(idx cur (AC (i:Int):Nat)).bind λ_=>rec (wr .i64 ((i:Int)+1),cur.set (AC (i:Int)) (d.1,(d.2.1,(d.2.2.1,z)))))).trans ?_;rw[AF,ah hi',aw i (by omega)];rfl
 ·intro rec cur hlen;simp only[Q100.l0.step];rw[<- hlen,aR];rfl
theorem wG (K:Nat)(n:aa)(f:af)(h:dR n)(hf:bB f)(hK:1048577<K):Q99.f K (n,f,())=some ((eW n f,()),()):=by
 simp only[Q99.f];have hft:=ei h.say.table h.has;obtain⟨o,ho,h1⟩:=eF K (aa.table n) n.1 h.say.lt hK;rw[show Q94.f K (n.2.2.2.2.2.2.2.2.1,n.1,())=_ from h1];simp only[AA];cases ho with
 |no hno=>exact absurd h.has (λ⟨g,hg,e⟩=>hno g hg e)
 |at_ j hj e =>
  simp only;rw[show idx n.2.2.2.2.2.2.2.2.1 ((j:Nat):Int)=some (aa.table n)[j] from ah hj,gn h.say.table.2 (AD hj) hft.2.2 (by rw[e,hft.2.1])];simp only[AA];rw[nW];obtain⟨_,⟨i0,i1⟩,_⟩:=hf;simp only[rb,AA,eW];cases decide (bN f (aX (aa.table n) n.1)) with
  |false=>rfl
  |true =>
   simp only[AI,cond_false,Ao];by_cases hi:f.2.1<999
   ·rw[decide_eq_false (by omega:¬ f.2.1>=999),decide_eq_true hi,aM (by omega) (by omega)];simp only[cond_false,cond_true];refine (congrArg (λo=>AH o _) (nX K (gq n (f.2.1+1)) (n.1,f.2.1+1,1,n.2.2.2.1) n.1 (h.say.inc _) hK)).trans ?_;rfl
   ·rw[decide_eq_true (by omega:f.2.1>=999),decide_eq_false hi];rfl
theorem te (K:Nat)(n:aa)(t:List af)(b:Int)(h:dR n)(ht:∀ f∈t,bB f)(hl:t.length<=1048576)(hb:InP b 0 7)(hK:1048577<K):Q101.f K (n,t,b,())=some ((ib n t b,()),()):=by
 refine lM (step:=λrec a=>Q101.l0.step K (n,t,b,()) rec a) t (dM b) dR (λm i=>((i:Int),m.1,m.2.1,m.2.2.1,m.2.2.2.1,m.2.2.2.2.1,m.2.2.2.2.2.1,m.2.2.2.2.2.2.1,m.2.2.2.2.2.2.2.1,m.2.2.2.2.2.2.2.2.1,m.2.2.2.2.2.2.2.2.2.1,m.2.2.2.2.2.2.2.2.2.2.1.1,m.2.2.2.2.2.2.2.2.2.2.1.2.1,m.2.2.2.2.2.2.2.2.2.2.1.2.2.1,m.2.2.2.2.2.2.2.2.2.2.1.2.2.2,m.2.2.2.2.2.2.2.2.2.2.2.1,m.2.2.2.2.2.2.2.2.2.2.2.2.1.1,m.2.2.2.2.2.2.2.2.2.2.2.2.1.2.1,m.2.2.2.2.2.2.2.2.2.2.2.2.1.2.2.1,m.2.2.2.2.2.2.2.2.2.2.2.2.1.2.2.2,m.2.2.2.2.2.2.2.2.2.2.2.2.2.1,m.2.2.2.2.2.2.2.2.2.2.2.2.2.2)) (λm=>some ((m,()),())) n h ?_ ?_ (by omega)
 ·intro rec m i hi hm;have hf:=ht _ (AD hi);refine⟨?_,hm.step hf hb⟩;simp only[Q101.l0.step];rw[bC (by omega:(i:Int)<(AB t:Int)),ah hi,aw i (by omega)];simp only[cond_true,AA];generalize t[i]=f at hf ⊢;unfold dM;cases f.1==m.1 with
  |true =>
   simp only[cond_true];refine (congrArg (λo=>AH o _) (wG K m f hm hf hK)).trans ?_;rfl
  |false =>
   simp only[cond_false];refine (congrArg (λo=>AH o _) (nX K m f b hm.say hK)).trans ?_;simp only[AA];rw[vd K (sayOf m f b) f b (kY hb hm.by_) (jj hm.say hf).ld hK];rfl
 ·intro rec m hm;simp only[Q101.l0.step];rw[aR];rfl
def eI {α:Type}(lt:α->α->Bool)(x:α):List α->List α->List α
 |[],B=>x::B
 |y::A,B=>bif lt x y then eI lt x A (y::B) else (y::A).reverse++x::B
def ek {α:Type}(lt:α->α->Bool):List α->List α->List α
 |done,[]=>done
 |done,x::xs=>ek lt (eI lt x done.reverse []) xs
theorem rm {α:Type}(lt:α->α->Bool)(x:α):∀ (A B C:List α),eI lt x A (B++C)=eI lt x A B++C
 |[],B,C=>rfl
 |y::A,B,C=>by
  simp only[eI];cases lt x y with
  |true=>exact rm lt x A (y::B) C
  |false=>simp
theorem rq {α:Type}(lt:α->α->Bool)(x:α):∀ (A B:List α),(eI lt x A B).length=A.length+B.length+1
 |[],B=>by simp[eI]
 |y::A,B=>by
  simp only[eI];cases lt x y with
  |true=>simp only[cond_true];rw[rq lt x A (y::B)];simp;omega
  |false=>simp;omega
theorem pJ {α:Type}(lt:α->α->Bool)(x:α):∀ (A B:List α),(eI lt x A B).Perm (x::(A.reverse++B))
 |[],B=>by simp[eI]
 |y::A,B=>by
  simp only[eI];cases lt x y with
  |true=>exact (pJ lt x A (y::B)).trans (by simp)
  |false=>simp only[cond_false];exact Bg
theorem gQ {α:Type}(lt:α->α->Bool):∀ (xs done:List α),(ek lt done xs).Perm (done++xs)
 |[],done=>by simp[ek]
 |x::xs,done=>by
  simp only[ek];refine (gQ lt xs _).trans ?_;have:=pJ lt x done.reverse [];simp only[A4,AP]at this;exact (this.append_right xs).trans (by simpa using (Bg (a:=x) (l₁:=done) (l₂:=xs)).symm)
def rr {α:Type}(lt:α->α->Bool)(xs:List α):Prop:=xs.Pairwise λa b=>lt b a=false
theorem mQ {α:Type}(lt:α->α->Bool)(ht:∀ a b c,lt a b=false->lt b c=false->lt a c=false)(x:α) :
  ∀ (A B:List α),rr lt A.reverse->eI lt x A B=(A.reverse.filter λy=>!lt x y)++x::((A.reverse.filter λy=>lt x y)++B)
 |[],B,_=>rfl
 |y::A,B,h=>by
  simp only[eI];have hA:rr lt A.reverse:=by
   unfold rr at h ⊢;rw[A0,A1]at h;exact h.1
  cases hl:lt x y with
  |true =>
   simp only[cond_true];rw[mQ lt ht x A (y::B) hA];simp[hl,Ak]
  |false =>
   have hy:∀ a∈A.reverse,lt x a=false:=λa ha=>by
    unfold rr at h;rw[A0,A1]at h;exact ht x y a hl (h.2.2 a ha y (by simp))
   simp only[cond_false];have e1:(y::A).reverse.filter (λy=>!lt x y)=(y::A).reverse:=AR.2 λa ha=>by
    rw[A0,An,AV]at ha;rcases ha with ha|rfl
    ·rw[hy a ha];rfl
    ·rw[hl];rfl
   have e2:(y::A).reverse.filter (λy=>lt x y)=[]:=AT.2 λa ha=>by
    rw[A0,An,AV]at ha;rcases ha with ha|rfl
    ·rw[hy a ha];simp
    ·rw[hl];simp
   rw[e1,e2];rfl
abbrev SoR (α:Type):=Unit×(List α×Unit)
theorem tX {α R:Type}(lt:α->α->Bool)(i:Int)(fin:List α×Int->Option R){step:(List α×Int×Int->Option R)->List α×Int×Int->Option R}
  (h:∀ (rec:List α×Int×Int->Option R) (A:List α) (y x:α) (B:List α),A.length+B.length<=1048576->step rec (A++y::x::B,i,((A.length+1:Nat):Int))=bif lt x y then rec (A++x::y::B,i,(A.length:Int)) else fin (A++y::x::B,wr .i64 (i+1)))
  (h0:∀ (rec:List α×Int×Int->Option R) (ys:List α),step rec (ys,i,0)=fin (ys,wr .i64 (i+1))) :
  ∀ (A B:List α) (x:α) (k:Nat),A.length+B.length<=1048576->A.length<k->ae step k (A.reverse++x::B,i,(A.length:Int))=fin (eI lt x A B,wr .i64 (i+1)):=by
 intro A;induction A with
 |nil =>
  intro B x k hl hk;obtain⟨k,rfl⟩:∃ k',k=k'+1:=⟨k-1,by simp at hk;omega⟩;exact h0 (ae step k) (x::B)
 |cons y A ih =>
  intro B x k hl hk;simp only[AG]at hk hl;obtain⟨k,rfl⟩:∃ k',k=k'+1:=⟨k-1,by omega⟩;have h1:=h (ae step k) A.reverse y x B (by simp;omega);simp only[BV]at h1;show step (ae step k) _=_;rw[A0,Ar];simp only[AG,List.cons_append,AQ,eI];rw[h1];cases lt x y with
  |true=>exact ih (y::B) x k (by simp;omega) (by omega)
  |false=>simp
theorem sB {α:Type}(lt:α->α->Bool){step:(List α×Int->Option (SoR α))->List α×Int->Option (SoR α)}(n:Nat)(hn:n<=1048576)
  (h:∀ (rec:List α×Int->Option (SoR α)) (done:List α) (x:α) (xs:List α),done.length+1+xs.length=n->step rec (done++x::xs,(done.length:Int))=rec (eI lt x done.reverse xs,wr .i64 ((done.length:Int)+1)))
  (h0:∀ (rec:List α×Int->Option (SoR α)) (ys:List α) (i:Int),(n:Int)<=i->step rec (ys,i)=some ((),(ys,()))) :
  ∀ (xs done:List α) (k:Nat),done.length+xs.length=n->xs.length<k->ae step k (done++xs,(done.length:Int))=some ((),(ek lt done xs,())):=by
 intro xs;induction xs with
 |nil =>
  intro done k hl hk;obtain⟨k,rfl⟩:∃ k',k=k'+1:=⟨k-1,by omega⟩;show step (ae step k) _=_;rw[h0 _ _ _ (by simp at hl;omega)];simp[ek]
 |cons x xs ih =>
  intro done k hl hk;simp only[AG]at hk hl;obtain⟨k,rfl⟩:∃ k',k=k'+1:=⟨k-1,by omega⟩;show step (ae step k) _=_;rw[h _ _ _ _ (by omega),aw _ (by omega)];have e:eI lt x done.reverse xs=eI lt x done.reverse []++xs:=rm lt x done.reverse [] xs;have e2:(eI lt x done.reverse []).length=done.length+1:=by rw[rq];simp
  rw[e,<- e2];exact ih _ k (by rw[e2];omega) (by omega)
theorem wH {α:Type}(lt:α->α->Bool){step:(List α×Int->Option (SoR α))->List α×Int->Option (SoR α)}(xs:List α)(hn:xs.length<=1048576)
  (h:∀ (rec:List α×Int->Option (SoR α)) (done:List α) (x:α) (r:List α),done.length+1+r.length=xs.length->step rec (done++x::r,(done.length:Int))=rec (eI lt x done.reverse r,wr .i64 ((done.length:Int)+1)))
  (h0:∀ (rec:List α×Int->Option (SoR α)) (ys:List α) (i:Int),(xs.length:Int)<=i->step rec (ys,i)=some ((),(ys,()))) {k:Nat} (hk:xs.length<k) :
  ae step k (xs,1)=some ((),(ek lt [] xs,())):=by
 cases xs with
 |nil =>
  obtain⟨k,rfl⟩:∃ k',k=k'+1:=⟨k-1,by simp at hk;omega⟩;exact h0 (ae step k) [] 1 (by simp)
 |cons x xs =>
  simp only[AG]at hk;have:=sB lt (xs.length+1) (by simpa using hn) h h0 xs [x] k (by simp;omega) (by omega);exact this
theorem xS {α:Type}(A B:List α)(x:α):idx (A++x::B) (A.length:Int)=some x:=by
 rw[oX];simp
theorem wI {α:Type}(A B:List α)(y x:α):idx (A++y::x::B) ((A.length+1:Nat):Int)=some x:=by
 rw[oX];simp[List.getElem?_append_right]
theorem xT {α:Type}(A B:List α)(x v:α):(A++x::B).set A.length v=A++v::B:=by simp
theorem wJ {α:Type}(A B:List α)(y x v:α):(A++y::x::B).set (A.length+1) v=A++y::v::B:=by
 simp[List.set_append_right]
def dD (l:List aZ)(i:Int):Int:=((l[i.toNat]?).map (·.2)).getD 0
def ltL (l:List aZ)(a b:Int):Bool:=decide (dD l b<dD l a)
def lt2 (l:List aZ)(a b:Int):Prop:=dD l b<dD l a\/(dD l a=dD l b/\a<b)
def eJ (n:Nat):List Int:=(List.range n).map λ (i:Nat)=>(i:Int)
def bM (l:List aZ):List Int:=ek (ltL l) [] (eJ l.length)
theorem nv {n:Nat}{i:Int}:i∈eJ n<->0<=i/\i<n:=by
 unfold eJ;rw[AY];constructor
 ·rintro⟨j,hj,rfl⟩;have:=Bq.1 hj;omega
 ·rintro⟨h0,h1⟩;exact⟨i.toNat,Bq.2 (by omega),by omega⟩
theorem ru (n:Nat):(eJ n).Pairwise (·<·):=by
 unfold eJ;rw[Ag];exact List.pairwise_lt_range.imp λh=>by omega
theorem el {l:List aZ}{i:Nat}(h:i<l.length):dD l (i:Int)=l[i].2:=by
 unfold dD;rw[AF,AM h];rfl
theorem rv (l:List aZ):∀ (xs done:List Int),done.Pairwise (lt2 l)->(∀ a∈done,∀ b∈xs,a<b)->xs.Pairwise (·<·)->(ek (ltL l) done xs).Pairwise (lt2 l)
 |[],done,h,_,_=>h
 |x::xs,done,h,hlt,hxs=>by
  have hxs':=AU.1 hxs;have hno:rr (ltL l) done:=h.imp λ {a b} hab=>by
   unfold ltL;rw[decide_eq_false_iff_not];rcases hab with h1|⟨h1,_⟩ <;> omega
  have e:=mQ (ltL l) (λa b c h1 h2=>by
   unfold ltL at h1 h2 ⊢;rw[decide_eq_false_iff_not]at h1 h2 ⊢;omega) x done.reverse [] (by rw[A4];exact hno)
  rw[A4,AP]at e;simp only[ek];rw[e];refine rv l xs _ ?_ ?_ hxs'.2
  ·rw[A1,AU];refine⟨h.filter _,⟨λb hb=>?_,h.filter _⟩,λa ha b hb=>?_⟩
   ·have h1:ltL l x b=true:=by simpa using (AJ.1 hb).2
    exact .inl (by simpa[ltL]using h1)
   ·have h1:ltL l x a=false:=by simpa using (AJ.1 ha).2
    have h1':¬ dD l a<dD l x:=by simpa[ltL]using h1
    have hax:=hlt a (AJ.1 ha).1 x (by simp);rcases BG.1 hb with rfl|hb
    ·by_cases h2:dD l b<dD l a
     ·exact .inl h2
     ·exact .inr ⟨by omega,hax⟩
    ·have h2:ltL l x b=true:=by simpa using (AJ.1 hb).2
     have h2':dD l b<dD l x:=by simpa[ltL]using h2
     exact .inl (by omega)
  ·intro a ha b hb;rcases An.1 ha with ha|ha
   ·exact hlt a (AJ.1 ha).1 b (by simp[hb])
   ·rcases BG.1 ha with rfl|ha
    ·exact hxs'.1 b hb
    ·exact hlt a (AJ.1 ha).1 b (by simp[hb])
theorem od (l:List aZ):(bM l).Pairwise (lt2 l):=rv l _ [] List.Pairwise.nil (by simp) (ru _)
theorem tY (l:List aZ):(bM l).Perm (eJ l.length):=by
 unfold bM;simpa using gQ (ltL l) (eJ l.length) []
theorem jM {l:List aZ}{i:Int}:i∈bM l<->0<=i/\i<l.length:=by rw[(tY l).mem_iff,nv]
def c5 (T:List Int)(n:Nat):List Bool:=(eJ n).map λi=>decide (i∈T)
theorem eo (T:List Int)(n:Nat):(c5 T n).length=n:=by simp[c5,eJ]
theorem gF (T:List Int){n i:Nat}(h:i<n):(c5 T n)[i]'(by rw[eo];exact h)=decide ((i:Int)∈T):=by
 simp[c5,eJ]
theorem ve {T:List Int}{n b:Nat}(hb:b<n):(c5 T n).set b true=c5 (T++[(b:Int)]) n:=by
 refine BP (by rw[Bm,eo,eo]) λi h1 h2=>?_
 rw[eo]at h2;rw[List.getElem_set,gF _ h2];by_cases h:b=i
 ·subst h;rw[if_pos rfl,gF _ h2];simp
 ·rw[if_neg h,gF _ h2];have:¬ (i:Int)=(b:Int):=by omega
  simp[this]
def oe (l:List aZ)(T:List Int)(i:Nat)(best:Int):Prop :=
 (best=-1/\∀ j:Nat,j<i->(j:Int)∈T)\/(0<=best/\best<i/\best∉T/\∀ j:Nat,j<i->(j:Int)∉T->(j:Int)≠best->lt2 l best (j:Int))
theorem xU (K:Nat)(l:List aZ)(T:List Int)(hl:l.length<=1048576):∀ (d i k:Nat) (best:Int),i+d=l.length->d<k->oe l T i best ->
  ∃ b:Int,ae (λrec a=>Q108.l0.step K (l,c5 T l.length,()) rec a) k (best,(i:Int))=some ((b,()),())/\oe l T l.length b:=by
 intro d;induction d with
 |zero =>
  intro i k best hi hk hb;obtain⟨k,rfl⟩:∃ k',k=k'+1:=⟨k-1,by omega⟩;have:i=l.length:=by omega
  subst this;refine⟨best,?_,hb⟩;show Q108.l0.step K (l,c5 T l.length,()) _ _=_;simp only[Q108.l0.step,aR];rfl
 |succ d ih =>
  intro i k best hi hk hb;obtain⟨k,rfl⟩:∃ k',k=k'+1:=⟨k-1,by omega⟩;have hlt:i<l.length:=by omega
  have ih':∀ best,oe l T (i+1) best->∃ b:Int,ae (λrec a=>Q108.l0.step K (l,c5 T l.length,()) rec a) k (best,((i+1:Nat):Int))=some ((b,()),())/\oe l T l.length b:=λbest h=>ih (i+1) k best (by omega) (by omega) h
  show ∃ b:Int,Q108.l0.step K (l,c5 T l.length,()) (ae (λrec a=>Q108.l0.step K (l,c5 T l.length,()) rec a) k) (best,(i:Int))=_/\_;generalize ae (λrec a=>Q108.l0.step K (l,c5 T l.length,()) rec a) k=REC at ih' ⊢;simp only[Q108.l0.step];rw[bC (by omega:(i:Int)<(AB l:Int)),ah (show i<(c5 T l.length).length by rw[eo];exact hlt),gF T hlt,aw i (by omega)];simp only[cond_true,AA];by_cases ht:(i:Int)∈T
  ·rw[decide_eq_true ht];simp only[AI,cond_false];refine ih' best ?_;rcases hb with ⟨rfl,h⟩|⟨h0,h1,h2,h3⟩
   ·refine .inl ⟨rfl,λj hj=>?_⟩;by_cases hji:j=i
    ·subst hji;exact ht
    ·exact h j (by omega)
   ·refine .inr ⟨h0,by omega,h2,λj hj hjt hne=>?_⟩;by_cases hji:j=i
    ·subst hji;exact absurd ht hjt
    ·exact h3 j (by omega) hjt hne
  ·rw[decide_eq_false ht];simp only[Ad,cond_true];rcases hb with ⟨rfl,h⟩|⟨h0,h1,h2,h3⟩
   ·rw[show decide ((-1:Int)<0)=true from rfl];refine ih' (i:Int) (.inr ⟨by omega,by omega,ht,λj hj hjt hne=>?_⟩);exact absurd (h j (by omega)) hjt
   ·rw[decide_eq_false (by omega:¬ best<0)];obtain⟨b,rfl⟩:=AE h0;have hbl:b<l.length:=by omega
    simp only[cond_false];rw[ah hlt,ah hbl];simp only[AA];by_cases hgt:l[i].2>l[b].2
    ·rw[decide_eq_true hgt];refine ih' (i:Int) (.inr ⟨by omega,by omega,ht,λj hj hjt hne=>?_⟩);have hji:j<i:=by omega
     have hjl:j<l.length:=by omega
     by_cases hjb:(j:Int)=(b:Int)
     ·rw[hjb];exact .inl (by rw[el hlt,el hbl];exact hgt)
     ·have:=h3 j hji hjt hjb;rcases this with h4|⟨h4,_⟩
      ·exact .inl (by rw[el hbl]at h4;rw[el hlt];omega)
      ·exact .inl (by rw[el hbl]at h4;rw[el hlt];omega)
    ·rw[decide_eq_false hgt];refine ih' (b:Int) (.inr ⟨by omega,by omega,h2,λj hj hjt hne=>?_⟩);by_cases hji:j=i
     ·subst hji;by_cases heq:dD l (b:Int)=dD l (j:Int)
      ·exact .inr ⟨heq,h1⟩
      ·refine .inl ?_;rw[el hlt,el hbl]at *;omega
     ·exact h3 j (by omega) hjt hne
theorem yN (K:Nat)(l:List aZ)(n:Nat)(hl:l.length<=1048576)(hK:1048577<K):Q108.f K (l,c5 ((bM l).take n) l.length,())=some ((((bM l)[n]?).getD (-1),()),()):=by
  obtain⟨b,e,hb⟩:=xU K l ((bM l).take n) hl l.length 0 K (-1) (by omega) (by omega) (.inl ⟨rfl,λj hj=>by omega⟩);have:b=((bM l)[n]?).getD (-1):=by
    by_cases hn:n<(bM l).length
    · rw[AM hn]
      show b=(bM l)[n];have hm:(bM l)[n]∉(bM l).take n:=λh=>by
        obtain⟨j,hj,e⟩:=AK h;rw[Aa]at hj;rw[BL]at e;have:=A6.1 (od l) j n (by omega) hn (by omega);rw[e]at this;rcases this with h5|⟨_,h5⟩ <;> omega
      have hr:=jM.1 (AD hn);obtain⟨m,hm'⟩:=AE hr.1;rcases hb with ⟨rfl,h⟩|⟨h0,h1,h2,h3⟩
      · have:=h m (by omega)
        rw[<- hm']at this;exact absurd this hm
      · by_cases he:b=(bM l)[n]
        · exact he
        · exfalso
          have h4:=h3 m (by omega) (by rw[<- hm'];exact hm) (by rw[<- hm'];exact λh=>he h.symm);rw[<- hm']at h4;have hbo:b∈bM l:=jM.2 ⟨h0,h1⟩;obtain⟨j,hj,ej⟩:=AK hbo;have hjn:n<j:=by
            rcases Nat.lt_trichotomy j n with h|h|h
            · exact absurd (BK.2 ⟨j,by omega,ej⟩) h2
            · subst h;exact absurd ej.symm he
            · exact h
          have h5:=A6.1 (od l) n j hn hj hjn;rw[ej]at h5;rcases h4 with h4|⟨h4,h6⟩ <;> rcases h5 with h5|⟨h5,h7⟩ <;> omega
    · rw[Ay (by omega)]
      show b=-1;rcases hb with ⟨rfl,_⟩|⟨h0,h1,h2,_⟩
      · rfl
      · exfalso
        rw[Au (by omega)]at h2;exact h2 (jM.2 ⟨h0,h1⟩)
  rw[<- this];exact e
def gR (l:List aZ):List Int:=(bM l).take 3
def jm (l:List aZ)(i:Int):aZ:=(l[i.toNat]?).getD ((0,0,0,false),0)
def fj (l:List aZ)(T:List Int)(i:Int):aZ:=bif decide (i∈T) then ((jm l i).1,(jm l i).2-1) else jm l i
def eX (l:List aZ)(T:List Int)(n:Nat):List af:=((eJ n).filter λi=>decide (i∈T)).map λi=>(jm l i).1
def kZ (l:List aZ)(T:List Int)(n:Nat):List aZ:=(eJ n).map (fj l T)
def ez (l:List aZ)(T:List Int)(n:Nat):List aZ:=(kZ l T n).filter λx=>decide (x.2>0)
theorem dJ {l:List aZ}{i:Nat}(h:i<l.length):jm l (i:Int)=l[i]:=by
 unfold jm;rw[AF,AM h];rfl
theorem pK (n:Nat):eJ (n+1)=eJ n++[(n:Int)]:=by
 unfold eJ;rw[List.range_succ,BT];rfl
theorem tZ (l:List aZ)(T:List Int)(n:Nat):eX l T (n+1)=eX l T n++(bif decide ((n:Int)∈T) then [(jm l (n:Int)).1] else []):=by
 unfold eX;rw[pK,Ak,BT,AW];cases decide ((n:Int)∈T) <;> rfl
theorem ua (l:List aZ)(T:List Int)(n:Nat):ez l T (n+1)=ez l T n++(bif decide ((fj l T (n:Int)).2>0) then [fj l T (n:Int)] else []):=by
 unfold ez kZ;rw[pK,BT,Ak,BY,AW];cases decide ((fj l T (n:Int)).2>0) <;> rfl
theorem vf (l:List aZ)(T:List Int)(n:Nat):(eX l T n).length<=n:=by
 unfold eX;rw[Ae];refine Ah (BE _ _) ?_;simp[eJ]
theorem vg (l:List aZ)(T:List Int)(n:Nat):(ez l T n).length<=n:=by
 unfold ez;refine Ah (BE _ _) ?_;simp[kZ,eJ]
theorem xV (K:Nat)(l:List aZ)(m:Int)(T:List Int)(hl:l.length<=1048576)(hC:cX l)(hK:1048577<K) :
  Q109.l1 K (l,m,()) (c5 T l.length,[],[],0)=some ((eX l T l.length,ez l T l.length,()),()):=by
 refine kt (step:=λrec a=>Q109.l1.step K (l,m,()) rec a) l.length (λi=>(c5 T l.length,eX l T i,ez l T i,(i:Int))) (some ((eX l T l.length,ez l T l.length,()),())) ?_ ?_ (by omega)
 ·intro rec i hi;simp only[Q109.l1.step];have hi':i<(c5 T l.length).length:=by rw[eo];exact hi
  have h1:=vf l T i;have h2:=vg l T i;obtain⟨c0,c1⟩:=(hC.1 l[i] (AD hi)).2;rw[bC (by omega:(i:Int)<(AB l:Int)),ah hi,ah hi',aw i (by omega),AF,ah hi',gF T hi,tZ,ua,dJ hi];simp only[cond_true,AA];cases hT:decide ((i:Int)∈T) with
  |true =>
   have hd:fj l T (i:Int)=(l[i].1,l[i].2-1):=by unfold fj;rw[hT,dJ hi];rfl
   rw[hd];simp only[cond_true];rw[szb _ _ _ (by omega) (by simp;omega),aM (n:=l[i].2-1) (by omega) (by omega)];simp only[cond_true];cases decide (l[i].2-1>0) with
   |true =>
    simp only[cond_true];rw[szb _ _ _ (by omega) (by simp;omega)];rfl
   |false =>
    simp only[cond_false,AP]
  |false =>
   have hd:fj l T (i:Int)=l[i]:=by unfold fj;rw[hT,dJ hi];rfl
   rw[hd];simp only[cond_false,AP];cases decide (l[i].2>0) with
   |true =>
    simp only[cond_true];rw[szb _ _ _ (by omega) (by simp;omega)];rfl
   |false =>
    simp only[cond_false,AP]
 ·intro rec;simp only[Q109.l1.step,aR];rfl
theorem yO (K:Nat)(l:List aZ)(hl:l.length<=1048576)(hC:cX l)(hK:1048577<K):Q109.f K (l,3,())=some ((eX l (gR l) l.length,ez l (gR l) l.length,()),()):=by
 have hdone:∀ T,Q109.l1 K (l,3,()) (c5 T l.length,[],[],0)=some ((eX l T l.length,ez l T l.length,()),()):=λT=>xV K l 3 T hl hC hK
 have go:∀ (d n k:Nat),n+d=3->d<k->ae (λrec a=>Q109.l0.step K (l,3,()) (Q109.l1 K (l,3,())) rec a) k (c5 ((bM l).take n) l.length,(n:Int))=some ((eX l (gR l) l.length,ez l (gR l) l.length,()),()):=by
  intro d;induction d with
  |zero =>
   intro n k hn hk;obtain⟨k,rfl⟩:∃ k',k=k'+1:=⟨k-1,by omega⟩;have:n=3:=by omega
   subst this;exact hdone _
  |succ d ih =>
   intro n k hn hk;obtain⟨k,rfl⟩:∃ k',k=k'+1:=⟨k-1,by omega⟩;have ih':=ih (n+1) k (by omega) (by omega);show Q109.l0.step K (l,3,()) (Q109.l1 K (l,3,())) (ae (λrec a=>Q109.l0.step K (l,3,()) (Q109.l1 K (l,3,())) rec a) k) (c5 ((bM l).take n) l.length,(n:Int))=_;generalize ae (λrec a=>Q109.l0.step K (l,3,()) (Q109.l1 K (l,3,())) rec a) k=REC at ih' ⊢;simp only[Q109.l0.step];rw[decide_eq_true (by omega:(n:Int)<3),yN K l n hl hK,aw n (by omega)];simp only[cond_true,AA];by_cases hlen:n<(bM l).length
   ·rw[AM hlen];have hr:=jM.1 (AD hlen);have htk:(bM l).take (n+1)=(bM l).take n++[(bM l)[n]]:=At hlen;rw[htk]at ih';simp only[Bh];generalize (bM l)[n]=v at hr ih' ⊢;obtain⟨b,rfl⟩:=AE hr.1;have hb:b<l.length:=by omega
    have hb':b<(c5 ((bM l).take n) l.length).length:=by rw[eo];exact hb
    rw[decide_eq_false (by omega:¬ (b:Int)<0),ah hb',AF,ah hb',ve hb];exact ih'
   ·rw[Ay (by omega)];show Q109.l1 K (l,3,()) (c5 ((bM l).take n) l.length,[],[],0)=_;rw[hdone,show (bM l).take n=gR l by unfold gR;rw[Au (by omega),Au (by omega)]]
 simp only[Q109.f,Q109.pre];rw[decide_eq_true (by omega:(0:Int)<=(AB l:Int)),show decide ((AB l:Int)*(1:Nat)<=aj)=true from decide_eq_true (by simp only[aj];omega),AF];simp only[decide_true,A8,cond_true];have h0:List.replicate l.length false=c5 ((bM l).take 0) l.length:=by
  refine BP (by rw[List.length_replicate,eo]) λi h1 h2=>?_
  rw[eo]at h2;rw[List.getElem_replicate,gF _ h2];simp
 have:=go 3 0 K (by omega) (by omega);rw[<- h0]at this;exact this
theorem k5 (l:List aZ)(T:List Int)(n:Nat):(kZ l T n).length=n:=by simp[kZ,eJ]
theorem k6 (l:List aZ)(T:List Int){n i:Nat}(h:i<n):(kZ l T n)[i]'(by rw[k5];exact h)=fj l T (i:Int):=by
 simp[kZ,eJ]
theorem yP {a b:Int}(ha:0<=a)(ha':a<4611686018427387904)(hb:0<=b)(hb':b<4611686018427387904):0<=oV .i64 a b:=by
 obtain⟨m,rfl⟩:=AE ha;obtain⟨n,rfl⟩:=AE hb;have h:(BitVec.ofInt 64 (m:Int) ^^^ BitVec.ofInt 64 (n:Int)).toNat=m ^^^ n:=by
  rw[BitVec.toNat_xor,BitVec.toNat_ofInt,BitVec.toNat_ofInt];congr 1
  ·omega
  ·omega
 have h2:m ^^^ n<2 ^ 62:=Nat.xor_lt_two_pow (by omega) (by omega);show 0<=IntKind.i64.wrap (((BitVec.ofInt 64 (m:Int) ^^^ BitVec.ofInt 64 (n:Int)).toNat:Nat):Int);rw[h,Bi];omega
structure fg (b:List Int):Prop where
 byte:∀ y∈b,0<=y/\y<=255
 len:b.length<=2000
theorem xW (K:Nat)(b:List Int)(q:Nat)(n:Int)(h:fg b)(hq:q<=100000)(hn:1<=n):∃ v:Int,Q53.f K ((b,(q:Int)),n,())=some ((v,()),((b,((q+1:Nat):Int)),()))/\0<=v/\v<n:=by
 have w1:wr .i64 ((q:Int)+1)=((q+1:Nat):Int):=aw q (by omega);have w2:wr .i64 (((q+1:Nat):Int)-1)=(q:Int):=by rw[aM (n:=((q+1:Nat):Int)-1) (by omega) (by omega)];omega
 have hl:=h.len;have hn0:decide (n=0)=false:=decide_eq_false (by omega);have mods:∀ x:Int,0<=x->0<=Aw x n/\Aw x n<n:=λx hx=>⟨Bn _ hx,Ba _ (by omega)⟩
 simp only[Q53.f];rw[decide_eq_false (by omega:¬ n<1)];simp only[cond_false,w1,w2,hn0];by_cases h0:b.length=0
 ·rw[show ((b.length:Int)==0)=true by simpa using h0];exact⟨0,rfl,by omega,by omega⟩
 ·rw[show ((b.length:Int)==0)=false by simpa using h0];simp only[cond_false];by_cases hlt:q<b.length
  ·rw[decide_eq_true (by omega:(q:Int)<(b.length:Int)),ah hlt];simp only[cond_true,AA];obtain⟨y0,y1⟩:=h.byte b[q] (AD hlt);rw[aM (n:=b[q]) (by omega) (by omega)];exact⟨_,rfl,mods _ y0⟩
  ·rw[decide_eq_false (by omega:¬ (q:Int)<(b.length:Int)),decide_eq_false (by omega:¬ (b.length:Int)=0)];simp only[cond_false];have t1:Aw (q:Int) (b.length:Int)=((q % b.length:Nat):Int):=by rw[A5 (by omega)];rfl
   have t2:wr .i64 (wr .i64 ((q:Int)*7)+3)=((q*7+3:Nat):Int):=by rw[aM (n:=(q:Int)*7) (by omega) (by omega),aM (n:=(q:Int)*7+3) (by omega) (by omega)];omega
   have t3:Aw (((q*7+3:Nat)):Int) (b.length:Int)=(((q*7+3) % b.length:Nat):Int):=by rw[A5 (by omega)];rfl
   have l1:q % b.length<b.length:=Nat.mod_lt _ (by omega);have l2:(q*7+3) % b.length<b.length:=Nat.mod_lt _ (by omega);rw[t1,t2,t3,ah l1,ah l2];simp only[AA];obtain⟨y0,y1⟩:=h.byte b[q % b.length] (AD l1);obtain⟨z0,z1⟩:=h.byte b[(q*7+3) % b.length] (AD l2);generalize b[q % b.length]=y at y0 y1 ⊢;generalize b[(q*7+3) % b.length]=z at z0 z1 ⊢;have d1:0<=BB (q:Int) (b.length:Int)/\BB (q:Int) (b.length:Int)<=q:=⟨Bo (by omega) (by omega),Bj _ (by omega)⟩;generalize BB (q:Int) (b.length:Int)=e at d1 ⊢;have x1:wr .i64 (wr .i64 (wr .i64 (wr .i64 (wr .i64 y*131)+wr .i64 (wr .i64 z*1117))+wr .i64 ((q:Int)*29))+wr .i64 (wr .i64 e*53))=y*131+z*1117+q*29+e*53:=by
    rw[aM (n:=y) (by omega) (by omega),aM (n:=z) (by omega) (by omega),aM (n:=e) (by omega) (by omega),aM (n:=y*131) (by omega) (by omega),aM (n:=z*1117) (by omega) (by omega),aM (n:=(q:Int)*29) (by omega) (by omega),aM (n:=e*53) (by omega) (by omega),
     aM (n:=y*131+z*1117) (by omega) (by omega),aM (n:=y*131+z*1117+(q:Int)*29) (by omega) (by omega),aM (n:=y*131+z*1117+(q:Int)*29+e*53) (by omega) (by omega)]
   rw[x1];have hx:0<=y*131+z*1117+q*29+e*53/\y*131+z*1117+q*29+e*53<=10000000:=by omega
   generalize y*131+z*1117+(q:Int)*29+e*53=X at hx ⊢;have d2:0<=BB X 64/\BB X 64<=X:=⟨Bo hx.1 (by omega),Bj _ hx.1⟩;rw[aM (n:=BB X 64) (by omega) (by omega)];exact⟨_,rfl,mods _ (yP hx.1 (by omega) d2.1 (by omega))⟩
theorem ub (K:Nat)(t:List af)(f:af)(ht:t.length<=1048576)(hA:Asc (λg:af=>g.1) t)(hK:1048577<K):Q102.f K (t,f,())=some (((bY t f).1,(bY t f).2,()),()):=by
 simp only[Q102.f,Q102.pre];obtain⟨o,ho,h1⟩:=eF K t f.1 ht hK;rw[h1];simp only[AA];cases ho with
 |at_ i hi e =>
  simp only;rw[kV hA hi e,decide_eq_true (by omega:((i:Nat):Int)>=0),ah hi];simp only[cond_true,AA,AF,ah hi];rw[show Q78.f K (f,t[i],())=_ from nW K f t[i]];simp only[AA];by_cases ho:bN f t[i]
  ·rw[decide_eq_true ho,if_pos ho];simp only[AI,cond_false];rw[szb _ _ _ (by omega) (by show (AB ([]:List af))+t.length<=_;simp;omega)];simp only[cond_true,AQ,ah hi,AA,AF];rw[nq (k:=λg:af=>g.1) hA hi e]
  ·rw[decide_eq_false ho,if_neg ho];rfl
 |no h =>
  simp only;rw[hZ h,decide_eq_false (by omega:¬ (-1:Int)>=0)];simp only[cond_false];have fit:∀ m:Nat,m<=t.length->(bif decide ((0:Int)<=0)&&decide ((0:Int)<=(m:Int))&&decide ((m:Int)<=(AB t:Int))&&true then (bif decide ((AB ([]:List af)+AB ((t.take (AC (m:Int))).drop (AC 0)))*32<=aj) then (bif decide ((AB ([]++((t.take (AC (m:Int))).drop (AC 0)))+AB ([f]))*32<=aj) then (bif decide ((0:Int)<=(m:Int))&&decide ((m:Int)<=(AB t:Int))&&decide ((AB t:Int)<=(AB t:Int))&&true then (bif decide ((AB (([]++((t.take (AC (m:Int))).drop (AC 0)))++([f]))+AB ((t.take (AC (AB t:Int))).drop (AC (m:Int))))*32<=aj) then (some (((([]++((t.take (AC (m:Int))).drop (AC 0)))++([f]))++((t.take (AC (AB t:Int))).drop (AC (m:Int))),true,()),())) else none) else none) else none) else none) else (none:Option ((List af×Bool×Unit)×Unit)))=some ((t.take m++[f]++t.drop m,true,()),()):=by
   intro m hm;rw[decide_eq_true (by omega:(0:Int)<=0),decide_eq_true (by omega:(0:Int)<=(m:Int)),decide_eq_true (by omega:(m:Int)<=(AB t:Int)),decide_eq_true (by omega:(AB t:Int)<=(AB t:Int))];simp only[AF,BA,AZ,AQ,Ap,A8,cond_true];have h1:(t.take m).length=m:=by rw[Aa];omega
   have h2:(t.drop m).length=t.length-m:=Af;rw[szb _ _ _ (by omega) (by simp only[AO];omega),szb _ _ _ (by omega) (by simp only[AG,AO];omega),szb _ _ _ (by omega) (by simp only[AN,AG,AO];omega)];rfl
  have:=cC (step:=λrec a=>Q102.l0.step K (t,f,()) rec a) t.length (λi=>(i:Int)) (λj=>∃ h:j<t.length,¬ t[j].1<f.1) (some ((t.take t.length++[f]++t.drop t.length,true,()),())) (λj=>some ((t.take j++[f]++t.drop j,true,()),())) ?_ ?_ t.length K 0 (by omega) (by omega)
  ·have fin:∀ m,m<=t.length->(∀ i,(hi:i<t.length)->i<m->t[i].1<f.1)->(∀ i,(hi:i<t.length)->m<=i->f.1<t[i].1)->t.take m++[f]++t.drop m=bO (λg=>g.1) f t:=λm hm lo hi=>nr (k:=λg:af=>g.1) hm lo hi
   rcases this with ⟨h1,h2⟩|⟨j,_,h1,⟨h3,h4⟩,h5,h2⟩
   ·rw[fin t.length (AX _) (λi hi _=>by
     have:=h1 i (Aj _) hi;exact AS.1 λh=>this ⟨hi,h⟩) (λi hi h=>by omega)]at h2
    exact h2
   ·rw[fin j (by omega) (λi hi hij=>by
     have:=h5 i (Aj _) hij;exact AS.1 λh=>this ⟨hi,h⟩) (λi hi hij=>by
     have hne:=h t[i] (AD hi);rcases Av hij with h6|h6
     ·have:=ea.1 hA j i h3 hi h6;omega
     ·subst h6;omega)]at h2
    exact h2
  ·intro rec i hi;simp only[Q102.l0.step];rw[bC (by omega:(i:Int)<(AB t:Int)),ah hi,aw i (by omega)];simp only[cond_true,AA];rw[show idx t ((AC (i:Int):Nat):Int)=some t[i] by rw[AF];exact ah hi];simp only[AA];by_cases hlt:t[i].1<f.1
   ·exact .inl ⟨λ⟨_,h⟩=>h hlt,by rw[decide_eq_true hlt];rfl⟩
   ·exact .inr ⟨⟨hi,hlt⟩,by rw[decide_eq_false hlt];exact fit i (by omega)⟩
  ·intro rec;simp only[Q102.l0.step,aR,cond_false];exact fit t.length (AX _)
def eK (t:List af)(fs:List af):List af:=fs.foldl (λt f=>(bY t f).1) t
theorem pL:∀ {fs t:List af},aB t->(∀ f∈fs,bB f)->aB (eK t fs)
 |[],_,h,_=>h
 |f::fs,t,h,hf=>pL (fs:=fs) (ji h (hf f (by simp))) (λg hg=>hf g (by simp[hg]))
theorem cK {t:List af}(h:aB t):t.length<=1048576:=Ah (gP h.2 (λg hg=>(h.1 g hg).1)) (by decide)
theorem sC {R:Type}(a fs:List af)(ha:aB a)(hf:∀ f∈fs,bB f)(fin:List af->Option R){step:(List af×Int->Option R)->List af×Int->Option R}
  (h:∀ (rec:List af×Int->Option R) (t:List af) (i:Nat) (hi:i<fs.length),aB t->step rec (t,(i:Int))=rec ((bY t fs[i]).1,((i+1:Nat):Int)))
  (hend:∀ (rec:List af×Int->Option R) (t:List af),step rec (t,(fs.length:Int))=fin t) {k:Nat} (hk:fs.length<k):ae step k (a,0)=fin (eK a fs):=by
 have:∀ (d i k:Nat) (t:List af),i+d=fs.length->d<k->aB t->ae step k (t,(i:Int))=fin (eK t (fs.drop i)):=by
  intro d;induction d with
  |zero =>
   intro i k t hi hk _;obtain⟨k,rfl⟩:∃ k',k=k'+1:=⟨k-1,by omega⟩;have:i=fs.length:=by omega
   subst this;show step (ae step k) _=_;rw[hend,BF];rfl
  |succ d ih =>
   intro i k t hi hk ht;obtain⟨k,rfl⟩:∃ k',k=k'+1:=⟨k-1,by omega⟩;have hlt:i<fs.length:=by omega
   show step (ae step k) _=_;rw[h _ _ _ hlt ht,AL hlt];exact ih (i+1) k _ (by omega) (by omega) (ji ht (hf _ (AD hlt)))
 have:=this fs.length 0 k a (by omega) hk ha
 rwa [AZ]at this
theorem vh (f:af):¬ bN f f:=by
 unfold bN;simp
theorem rx {l:List aZ}(hC:cX l)(T:List Int):aB (eX l T l.length):=by
 unfold eX;constructor
 ·intro f hf;obtain⟨i,hi,rfl⟩:=AY.1 hf;obtain⟨h0,h1⟩:=nv.1 (AJ.1 hi).1;obtain⟨b,rfl⟩:=AE h0;have hb:b<l.length:=by omega
  rw[dJ hb];exact (hC.1 l[b] (AD hb)).1
 ·unfold Asc;rw[Ag];have hp:((eJ l.length).filter λi=>decide (i∈T)).Pairwise λ (a b:Int)=>(0<=a/\a<l.length)/\(0<=b/\b<l.length)/\a<b:=by
   refine A3 _ ?_;have:∀ xs:List Int,(∀ x∈xs,0<=x/\x<l.length)->xs.Pairwise (·<·)->xs.Pairwise λ (a b:Int)=>(0<=a/\a<l.length)/\(0<=b/\b<l.length)/\a<b:=by
    intro xs hx hxs;induction xs with
    |nil=>exact List.Pairwise.nil
    |cons x xs ih =>
     rw[AU]at hxs ⊢;exact⟨λy hy=>⟨hx x (by simp),hx y (by simp[hy]),hxs.1 y hy⟩,ih (λy hy=>hx y (by simp[hy])) hxs.2⟩
   exact this _ (λx hx=>nv.1 hx) (ru _)
  refine hp.imp λ {a b} h=>?_
  obtain⟨⟨a0,a1⟩,⟨b0,b1⟩,hab⟩:=h;obtain⟨i,rfl⟩:=AE a0;obtain⟨j,rfl⟩:=AE b0;have hi:i<l.length:=by omega
  have hj:j<l.length:=by omega
  rw[dJ hi,dJ hj];exact ea.1 hC.2 i j hi hj (by omega)
theorem wK {l:List aZ}(hC:cX l)(T:List Int):cX (ez l T l.length):=by
 have hkey:∀ i (h:i<l.length),(fj l T (i:Int)).1=l[i].1:=λi h=>by
  unfold fj;rw[dJ h];cases decide ((i:Int)∈T) <;> rfl
 have hle:∀ i (h:i<l.length),(fj l T (i:Int)).2<=l[i].2:=λi h=>by
  unfold fj;rw[dJ h];cases decide ((i:Int)∈T) with
  |true=>show l[i].2-1<=l[i].2;omega
  |false=>exact Ab _
 unfold ez;constructor
 ·intro x hx;obtain⟨h1,h2⟩:=AJ.1 hx;have h2:x.2>0:=by simpa using h2
  obtain⟨i,hi,rfl⟩:=AK h1;rw[k5]at hi;rw[k6 l T hi]at h2 ⊢;have:=(hC.1 l[i] (AD hi));refine⟨by rw[hkey i hi];exact this.1,?_,?_⟩
  ·omega
  ·have h3:=hle i hi;have h4:=this.2.2;omega
 ·unfold Asc;refine A3 _ ?_;rw[A6];intro i j hi hj hij;rw[k5]at hi hj;show (kZ l T l.length)[i].1.1<(kZ l T l.length)[j].1.1;rw[k6 l T hi,k6 l T hj,hkey i hi,hkey j hj];exact ea.1 hC.2 i j hi hj hij
def jn (n:aa)(to:Int):List af :=
 bif (aX (aa.table n) to).2.2.1==2 then (bY (eX (aa.cast n) (gR (aa.cast n)) (aa.cast n).length) (aX (aa.table n) to)).1 else eX (aa.cast n) (gR (aa.cast n)) (aa.cast n).length
def jo (n:aa):aa:=ia n (aa.table n) (ez (aa.cast n) (gR (aa.cast n)) (aa.cast n).length) (aa.doubts n)
theorem mD {n:aa}(h:cI n)(to:Int):aB (jn n to):=by
 have h1:=rx h.cast (gR (aa.cast n));unfold jn;cases hs:(aX (aa.table n) to).2.2.1==2 with
 |false=>exact h1
 |true =>
  refine ji h1 (ei h.table ?_).1;by_cases h2:∃ f∈aa.table n,f.1=to
  ·exact h2
  ·rw[jJ (λg hg e=>h2 ⟨g,hg,e⟩)]at hs;simp at hs
theorem clen {n:aa}(h:cI n):(aa.cast n).length<=8:=gP h.cast.2 (λx hx=>(h.cast.1 x hx).1.1)
theorem tf (K:Nat)(n:aa)(to:Int)(h:cI n)(hK:1048577<K):Q136.f K (n,to,())=some ((jn n to,jo n,()),()):=by
 have hc:=clen h;simp only[Q136.f];rw[show Q109.f K (n.2.2.2.2.2.2.2.2.2.1,3,())=_ from yO K (aa.cast n) (by omega) h.cast hK];simp only[AA];obtain⟨o,ho,e1⟩:=eF K (aa.table n) to h.lt hK;rw[show Q94.f K (n.2.2.2.2.2.2.2.2.1,to,())=_ from e1];simp only[AA,jn];have hF:=rx h.cast (gR (aa.cast n));cases ho with
 |no hno =>
  rw[jJ hno];rfl
 |at_ j hj e =>
  have hfa:aX (aa.table n) to=(aa.table n)[j]:=by rw[<- e];exact jI h.table.2 (AD hj)
  rw[hfa];simp only;rw[decide_eq_true (by omega:((j:Nat):Int)>=0),show idx n.2.2.2.2.2.2.2.2.1 ((j:Nat):Int)=some (aa.table n)[j] from ah hj];simp only[cond_true,AA];cases (aa.table n)[j].2.2.1==2 with
  |false=>rfl
  |true =>
   simp only[cond_true];rw[ub K _ _ (cK hF) hF.2 hK];rfl
def cq (n:aa)(k:Nat):Int:=Aw (n.2.2.2.2.2.2.2.1+(k:Int)) 8
def gf (n:aa)(k:Nat):Prop:=cq n k≠n.1/\dW (aX (aa.table n) (cq n k))=true
def askN (n:aa)(to:Int):aa :=
 let m:=jo n
 (m.1,m.2.1,m.2.2.1,m.2.2.2.1,m.2.2.2.2.1,m.2.2.2.2.2.1,m.2.2.2.2.2.2.1+1,to+1,m.2.2.2.2.2.2.2.2.1,m.2.2.2.2.2.2.2.2.2.1,(to,m.2.2.2.2.2.1,m.2.2.2.2.2.2.1+1,false),m.2.2.2.2.2.2.2.2.2.2.2)
def pingW (n:aa)(to:Int):av:=(1,1,n.1,to,n.2.2.2.2.2.2.1+1,n.1,aa.coord n,jn n to)
theorem xX (K:Nat)(n:aa)(h:cI n)(ht0:0<=n.2.2.2.2.2.2.2.1)(ht1:n.2.2.2.2.2.2.2.1<=8)(hK:1048577<K) :
  ∃ to:Int,Q135.f K (n,())=some ((to,()),())/\((to=-1/\∀ k,k<8->¬ gf n k)\/∃ k,k<8/\gf n k/\(∀ j,j<k->¬ gf n j)/\to=cq n k):=by
 have hcand:∀ k:Nat,k<8->wr .i64 (n.2.2.2.2.2.2.2.1+(k:Int))=n.2.2.2.2.2.2.2.1+(k:Int):=λk hk=>aM (by omega) (by omega)
 have:=cC (step:=λrec a=>Q135.l0.step K (n,()) rec a) 8 (λi=>(i:Int)) (gf n) (some ((-1,()),())) (λj=>some ((cq n j,()),())) ?_ ?_ 8 K 0 (by omega) (by omega)
 ·rcases this with ⟨h1,h2⟩|⟨j,_,h1,h3,h4,h2⟩
  ·exact⟨-1,h2,.inl ⟨rfl,λk hk=>h1 k (Aj _) hk⟩⟩
  ·exact⟨_,h2,.inr ⟨j,h1,h3,λm hm=>h4 m (Aj _) hm,rfl⟩⟩
 ·intro rec i hi;simp only[Q135.l0.step];rw[decide_eq_true (by omega:(i:Int)<=7),hcand i hi,aw i (by omega)];simp only[cond_true];show (¬ gf n i/\(bif cq n i != n.1 then ((Q132.f K (aa.table n,cq n i,())).bind λy1=>bif y1.1.1 then (some ((cq n i,()),())) else (rec ((i+1:Nat):Int))) else (rec ((i+1:Nat):Int)))=rec ((i+1:Nat):Int))\/(gf n i/\(bif cq n i != n.1 then ((Q132.f K (aa.table n,cq n i,())).bind λy1=>bif y1.1.1 then (some ((cq n i,()),())) else (rec ((i+1:Nat):Int))) else (rec ((i+1:Nat):Int)))=some ((cq n i,()),()));rw[ri K (aa.table n) (cq n i) h.table h.lt hK];by_cases hme:cq n i=n.1
  ·exact .inl ⟨λhc=>hc.1 hme,by rw[show (cq n i != n.1)=false by simpa using hme];rfl⟩
  ·rw[show (cq n i != n.1)=true by simpa using hme];cases hl:dW (aX (aa.table n) (cq n i)) with
   |true=>exact .inr ⟨⟨hme,hl⟩,rfl⟩
   |false=>exact .inl ⟨λhc=>(by rw[hc.2]at hl;cases hl),rfl⟩
 ·intro rec;simp only[Q135.l0.step];rfl
theorem vi (K:Nat)(xs:List af)(φ:af×af×Unit->Option Int)(lt:af->af->Bool)(hφ:∀ y z,∃ c,φ (y,z,())=some c/\decide (c<0)=lt y z)(hx:xs.length<=1048576)(hK:1048577<K) :
  Q40.f K (xs,0,(xs.length:Int),φ,())=some ((),(ek lt [] xs,())):=by
 refine wH (step:=λrec a=>Q40.l0.step K (xs,0,(xs.length:Int),φ,()) (Q40.l1 K (xs,0,(xs.length:Int),φ,()) rec) rec a) lt xs hx ?_ ?_ (by omega)
 ·intro rec done x r hl;simp only[Q40.l0.step];rw[decide_eq_true (by omega:((done.length:Int))<(xs.length:Int))];simp only[cond_true];have:=tX lt (done.length:Int) rec (step:=λrec1 a=>Q40.l1.step K (xs,0,(xs.length:Int),φ,()) rec rec1 a) ?_ ?_ done.reverse r x K (by simp;omega) (by simp;omega)
  ·rw[A4,BV]at this;exact this
  ·intro rec1 A y z B hl2;simp only[Q40.l1.step];have e1:wr .i64 (((A.length+1:Nat):Int)-1)=(A.length:Int):=(aM (by omega) (by omega)).trans (by omega);rw[decide_eq_true (by omega:((A.length+1:Nat):Int)>0)];obtain⟨c,hc,hd⟩:=hφ z y;simp only[cond_true,e1,AF,wI,xS,AA,hc,hd,wJ,xT]
  ·intro rec1 ys;simp only[Q40.l1.step];rw[decide_eq_false (by omega:¬ (0:Int)>0)];rfl
 ·intro rec ys i hi;simp only[Q40.l0.step];rw[decide_eq_false (by omega:¬ i<(xs.length:Int))];rfl
theorem wL (K:Nat)(xs:List af)(φ:af×af×Unit->Option Int)(lt:af->af->Bool)(hφ:∀ y z,∃ c,φ (y,z,())=some c/\decide (c<0)=lt y z)(hx:xs.length<=12)(hK:1048577<K) :
  Q48.f K (xs,φ,())=some ((),(ek lt [] xs,())):=by
 simp only[Q48.f,Q47.f];obtain⟨l,hl⟩:∃ l:Int,Q46.f K (wr .u64 (xs.length:Int),())=some ((l,()),()):=by
  have e:wr .u64 (xs.length:Int)=(xs.length:Int):=by
   show IntKind.u64.wrap _=_;have hw:IntKind.u64.wrap (xs.length:Int)=(xs.length:Int) % 18446744073709551616:=by simp[IntKind.wrap,IntKind.bits,IntKind.signed]
   rw[hw];omega
  rw[e];generalize hn:xs.length=n at hx;have:n=0\/n=1\/n=2\/n=3\/n=4\/n=5\/n=6\/n=7\/n=8\/n=9\/n=10\/n=11\/n=12:=by omega
  rcases this with rfl|rfl|rfl|rfl|rfl|rfl|rfl|rfl|rfl|rfl|rfl|rfl|rfl
  ·exact⟨0,by kernel_rfl⟩
  ·exact⟨1,by kernel_rfl⟩
  ·exact⟨2,by kernel_rfl⟩
  ·exact⟨2,by kernel_rfl⟩
  ·exact⟨3,by kernel_rfl⟩
  ·exact⟨3,by kernel_rfl⟩
  ·exact⟨3,by kernel_rfl⟩
  ·exact⟨3,by kernel_rfl⟩
  ·exact⟨4,by kernel_rfl⟩
  ·exact⟨4,by kernel_rfl⟩
  ·exact⟨4,by kernel_rfl⟩
  ·exact⟨4,by kernel_rfl⟩
  ·exact⟨4,by kernel_rfl⟩
 rw[hl];simp only[AA];have:Q45.f K (xs,0,(xs.length:Int),l,φ,())=some ((),(ek lt [] xs,())):=by
  obtain⟨k,rfl⟩:∃ k',K=k'+1:=⟨K-1,by omega⟩;have hs:∀ (rec:Q45.A_l0->Option Q45.Res) (a:Q45.A_l0),Q45.l0.step (k+1) (xs,0,(xs.length:Int),l,φ,()) rec a=some ((),(ek lt [] xs,())):=by
   intro rec a;simp only[Q45.l0.step];have e:wr .i64 ((xs.length:Int)-0)=(xs.length:Int):=(aM (by omega) (by omega)).trans (by omega);rw[e,decide_eq_true (by omega:(xs.length:Int)<=12)];simp only[cond_true];rw[vi (k+1) xs φ lt hφ (by omega) hK];rfl
  exact hs (λ_=>none) ()
 rw[this];rfl
abbrev fy:=Int×ByteArray×Bool
abbrev ai:=List aa×List fy×List Int×List af
abbrev ai.nodes (w:ai):List aa:=w.1
abbrev ai.radio (w:ai):List fy:=w.2.1
abbrev ai.sides (w:ai):List Int:=w.2.2.1
abbrev ai.born (w:ai):List af:=w.2.2.2
structure WB (w:ai):Prop where
 nodes:(ai.nodes w).length<=1048576
 node:∀ n∈ai.nodes w,NB n
 radio:(ai.radio w).length<=1048576
 text:∀ f∈ai.radio w,f.2.1.size<=1048576
 sides:(ai.sides w).length<=1048576
 born:(ai.born w).length<=1048576
def mE (f g:af):Prop:=if f.1≠g.1 then f.1<g.1 else bN g f
theorem yQ (K:Nat)(f g:af):Ret (Q79.f K (f,g,())) (mE f g):=by
 simp only[Q79.f,mE];by_cases h:f.1=g.1
 ·rw[show (f.1 != g.1)=false by simpa using h,if_neg (λh2=>h2 h)];exact (nT K g f).id
 ·rw[show (f.1 != g.1)=true by simpa using h,if_pos h];exact Ret.dec
theorem pM (f g:af):¬ jX f g>=0<->mE f g:=by
 unfold jX mE;by_cases h0:f.1=g.1
 ·rw[hY ((di f.1 g.1).2 h0),if_neg (show ¬ f.1≠g.1 from λh=>h h0)];unfold bN;by_cases h1:f.2.1=g.2.1
  ·rw[hY ((di f.2.1 g.2.1).2 h1),if_neg (show ¬ g.2.1≠f.2.1 from λh=>h h1.symm)];by_cases h2:f.2.2.1=g.2.2.1
   ·rw[hY ((di f.2.2.1 g.2.2.1).2 h2),if_neg (show ¬ g.2.2.1≠f.2.2.1 from λh=>h h2.symm)];cases f.2.2.2 <;> cases g.2.2.2 <;> simp[orI]
   ·rw[kq (λh=>h2 ((di f.2.2.1 g.2.2.1).1 h)),if_pos (show g.2.2.1≠f.2.2.1 from λh=>h2 h.symm)];have:=jg f.2.2.1 g.2.2.1;omega
  ·rw[kq (λh=>h1 ((di f.2.1 g.2.1).1 h)),if_pos (show g.2.1≠f.2.1 from λh=>h1 h.symm)];have:=jg f.2.1 g.2.1;omega
 ·rw[kq (λh=>h0 ((di f.1 g.1).1 h)),if_pos (show f.1≠g.1 from h0)];have:=jg f.1 g.1;omega
def jN (i:Nat):Bool:=decide (Aw (i:Int) 4<3)
theorem yR (K i:Nat):Q59.f K ((i:Int),())=rb (jN i):=rfl
theorem yS (K i:Nat):Q171.f K ((i:Int),())=rb (jN i):=by
 simp only[Q171.f,jN];rw[A5 (by omega)];have:((i:Int) % 4 != 3)=decide ((i:Int) % 4<3):=by
  rw[A9];simp only[bne_iff_ne,ne_eq,decide_eq_true_eq];omega
 rw[this]
def jp (w:ai)(i:Nat)(hi:i<(ai.nodes w).length):Prop:=(ai.nodes w)[i].1=(i:Int)/\(ai.nodes w)[i].2.2.2.1=jN i/\eU (ai.nodes w)[i]/\(∀ h:i<(ai.sides w).length,InP (ai.sides w)[i] 0 2)
def gG (f:fy):Prop:=InP f.1 0 7/\¬ (f.2.1.size:Int)>300
def qC (l:List af):Prop:=∀ i (hi:i<l.length),bB l[i]/\(0<i->mE (l[i-1]'(by omega)) l[i])
def kw (w:ai):Prop:=(ai.nodes w).length=8/\(ai.sides w).length=8/\(ai.radio w).length<=60/\(∀ i hi,jp w i hi)/\(∀ f∈ai.radio w,gG f)/\qC (ai.born w)
theorem yT (K:Nat)(w:ai)(hw:WB w)(hK:1048577<K):Ret (Q188.l2 K (w,()) 0) (qC (ai.born w)):=by
 have hl:=hw.born;refine (cg (ai.born w) (step:=λrec a=>Q188.l2.step K (w,()) rec a) (λi hi=>bB (ai.born w)[i]/\(0<i->mE ((ai.born w)[i-1]'(by omega)) (ai.born w)[i])/\True) hl ?_ ?_ hK (λ_=>Ret.yes trivial)).iff (b6.trans ?_)
 ·intro rec i hi;simp only[Q188.l2.step];rw[decide_eq_true (by omega:(i:Int)<(AB (ai.born w):Int))];simp only[cond_true];refine Rnd.ix (ah hi) (Rnd.nx (kU K _) λ_=>Rnd.two (λh0=>?_) Rnd.end_);rw[dt i h0 (by omega)];exact Rnd.ix (ah (show i-1<(ai.born w).length by omega)) (Rnd.ix (ah hi) (Rnd.nx (yQ K _ _) λ_=>Rnd.end_))
 ·intro rec;simp only[Q188.l2.step,aR];rfl
 ·exact⟨λh i hi=>⟨(h i hi).1,(h i hi).2.1⟩,λh i hi=>⟨(h i hi).1,(h i hi).2,trivial⟩⟩
theorem pN (K:Nat)(w:ai)(hw:WB w)(hK:1048577<K):Ret (Q188.f K (w,())) (kw w):=by
 refine (Ret.cndN (b:=(AB (ai.nodes w):Int) != 8) (P:=(ai.nodes w).length≠8) (Q:=¬ (ai.sides w).length≠(ai.nodes w).length/\¬ (ai.radio w).length>60/\(∀ i hi,jp w i hi)/\(∀ i (hi:i<(ai.radio w).length),gG (ai.radio w)[i])/\qC (ai.born w)) (by simp;omega) λh1 =>
  Ret.cndN (b:=(AB (ai.sides w):Int) != (AB (ai.nodes w):Int)) (P:=(ai.sides w).length≠(ai.nodes w).length) (by simp;omega) λh2=>Ret.cndN (b:=decide ((AB (ai.radio w):Int)>60)) (P:=(ai.radio w).length>60) (by simp;omega) λh3=>?_).iff ?_
 ·show Ret (Q188.l0 K (w,()) 0) _;refine cg (ai.nodes w) (step:=λrec a=>Q188.l0.step K (w,()) (Q188.l1 K (w,())) rec a) (λi hi=>jp w i hi) hw.nodes ?_ (rt:=Q188.l1 K (w,()) 0) ?_ hK λ_=>?_
  ·intro rec i hi;have hi2:i<(ai.sides w).length:=by omega
   simp only[Q188.l0.step];rw[decide_eq_true (by omega:(i:Int)<(AB (ai.nodes w):Int))];simp only[cond_true];refine (Rnd.ix (ah hi) (Rnd.cndN (b:=(ai.nodes w)[i].1 != (i:Int)) (P:=¬ (ai.nodes w)[i].1=(i:Int)) (by simp) λ_=>Rnd.ix (ah hi) (Rnd.vl (yR K i) (Rnd.cndN (b:=(ai.nodes w)[i].2.2.2.1 != jN i) (P:=¬ (ai.nodes w)[i].2.2.2.1=jN i) (by simp) λ_=>Rnd.ix (ah hi) (Rnd.nx (qZ K _ (hw.node _ (AD hi)) hK) λ_ =>
    Rnd.ix (ah hi2) (Rnd.nx (ch K _ _ _) λ_=>Rnd.end_)))))).iff ?_
   unfold jp;constructor
   ·rintro⟨a,b,c,d,_⟩;exact⟨AS.1 a,AS.1 b,c,λ_=>d⟩
   ·rintro⟨a,b,c,d⟩;exact⟨λh=>h a,λh=>h b,c,d hi2,trivial⟩
  ·intro rec;simp only[Q188.l0.step,aR];rfl
  ·refine cg (ai.radio w) (step:=λrec a=>Q188.l1.step K (w,()) (Q188.l2 K (w,())) rec a) (λi hi=>gG (ai.radio w)[i]) hw.radio ?_ (rt:=Q188.l2 K (w,()) 0) ?_ hK λ_=>yT K w hw hK
   ·intro rec i hi;have hl:=hw.radio;simp only[Q188.l1.step];rw[decide_eq_true (by omega:(i:Int)<(AB (ai.radio w):Int))];simp only[cond_true];refine Rnd.iff (P:=InP (ai.radio w)[i].1 0 7/\¬ ((ai.radio w)[i].2.1.size:Int)>300/\True) (Rnd.ix (ah hi) (Rnd.nx (ch K _ _ _) λ_=>Rnd.ix (ah hi) (Rnd.cndN (b:=decide (((ai.radio w)[i].2.1.size:Int)>300)) (by simp) λ_=>Rnd.end_))) ⟨λh=>⟨h.1,h.2.1⟩,λh=>⟨h.1,h.2,trivial⟩⟩
   ·intro rec;simp only[Q188.l1.step,aR];rfl
 ·unfold kw;rw[<- cG (p:=gG)];constructor
  ·rintro⟨h1,h2,h3,h4⟩;exact⟨by omega,by omega,by omega,h4⟩
  ·rintro⟨h1,h2,h3,h4⟩;exact⟨by omega,by omega,by omega,h4⟩
theorem sD (K:Nat)(t:List fy)(φ:fy×Unit->Option Bool)(p:fy->Prop)(ht:t.length<=1048576)(hK:1048577<K)(hφ:∀ f∈t,∃ b,φ (f,())=some b/\(b=true<->p f)) :
  Ret (Q173.f K (t,φ,())) (∃ f∈t,p f):=by
 have hi:=cC (step:=λrec a=>Q172.l0.step K (t,φ,()) rec a) t.length (λi=>(i:Int)) (λj=>∃ h:j<t.length,p t[j]) (some ((-1,()),())) (λj=>some ((((j:Nat):Int),()),())) (by
  intro rec i hi;simp only[Q172.l0.step];rw[decide_eq_true (show (i:Int)<(AB t:Int) by omega),ah hi,aw i (by omega)];simp only[cond_true,AA];obtain⟨b,h1,h2⟩:=hφ _ (AD hi);rw[h1];cases b with
  |true=>exact .inr ⟨⟨hi,h2.1 rfl⟩,rfl⟩
  |false=>exact .inl ⟨λ⟨_,h⟩=>by simpa using h2.2 h,rfl⟩) (by
  intro rec;simp only[Q172.l0.step,aR];rfl) t.length K 0 (by omega) (by omega)
 simp only[Q173.f];rcases hi with ⟨i1,i2⟩|⟨j,_,j1,⟨j2,j3⟩,_,j4⟩
 ·rw[show Q172.f K (t,φ,())=some ((-1,()),()) from i2];refine Ret.no ?_;rintro⟨f,hf,hp⟩;obtain⟨i,hi,e⟩:=AK hf;subst e;exact i1 i (Aj _) hi ⟨hi,hp⟩
 ·rw[show Q172.f K (t,φ,())=some ((((j:Nat):Int),()),()) from j4];simp only[AA];rw[show decide (((j:Nat):Int)>=0)=true from decide_eq_true (by omega)];exact Ret.yes ⟨_,AD j2,j3⟩
theorem sE (K:Nat)(f:fy):Ret (Q174.f K (f,())) (¬ gG f):=by
 simp only[Q174.f,gG];obtain⟨b,h1,h2⟩:=kS K f.1;rw[h1];cases b with
 |false=>exact Ret.yes λh=>by simpa using h2.2 h.1
 |true =>
  have h3:=h2.1 rfl;refine (Ret.dec (P:=(f.2.1.size:Int)>300)).iff ⟨λh4 h5=>h5.2 h4,λh=>?_⟩;exact A7 λh4=>h ⟨h3,h4⟩
theorem pO (K:Nat)(w:ai)(hw:WB w)(hK:1048577<K):Ret (Q175.f K (w,())) (kw w):=by
 refine (Ret.cndN (b:=(AB (ai.nodes w):Int) != 8) (P:=(ai.nodes w).length≠8) (Q:=¬ (ai.sides w).length≠8/\¬ (ai.radio w).length>60/\(∀ i hi,jp w i hi)/\(∀ i (hi:i<(ai.born w).length),bB (ai.born w)[i]/\(0<i->¬ jX ((ai.born w)[i-1]'(by omega)) (ai.born w)[i]>=0)/\True)/\¬ ∃ f∈ai.radio w,¬ gG f) (by simp;omega) λh1 =>
  Ret.cndN (b:=(AB (ai.sides w):Int) != 8) (P:=(ai.sides w).length≠8) (by simp;omega) λh2=>Ret.cndN (b:=decide ((AB (ai.radio w):Int)>60)) (P:=(ai.radio w).length>60) (by simp;omega) λh3=>?_).iff ?_
 ·show Ret (Q175.l0 K (w,()) 0) _;refine cg (ai.nodes w) (step:=λrec a=>Q175.l0.step K (w,()) (Q175.l1 K (w,())) rec a) (λi hi=>jp w i hi) hw.nodes ?_ (rt:=Q175.l1 K (w,()) 0) ?_ hK λ_=>?_
  ·intro rec i hi;have hi2:i<(ai.sides w).length:=by omega
   simp only[Q175.l0.step];rw[decide_eq_true (by omega:(i:Int)<(AB (ai.nodes w):Int))];simp only[cond_true];refine (Rnd.ix (ah hi) (Rnd.nx (q8 K _ (hw.node _ (AD hi)) hK) λ_=>Rnd.cndN (b:=(ai.nodes w)[i].1 != (i:Int)) (P:=¬ (ai.nodes w)[i].1=(i:Int)) (by simp) λ_=>Rnd.vl (yS K i) (Rnd.cndN (b:=(ai.nodes w)[i].2.2.2.1 != jN i) (P:=¬ (ai.nodes w)[i].2.2.2.1=jN i) (by simp) λ_ =>
    Rnd.ix (ah hi2) (Rnd.nx (eu K _ _ _) λ_=>Rnd.end_)))).iff ?_
   unfold jp;constructor
   ·rintro⟨c,a,b,d,_⟩;exact⟨AS.1 a,AS.1 b,c,λ_=>d⟩
   ·rintro⟨a,b,c,d⟩;exact⟨c,λh=>h a,λh=>h b,d hi2,trivial⟩
  ·intro rec;simp only[Q175.l0.step,aR];rfl
  ·refine cg (ai.born w) (step:=λrec a=>Q175.l1.step K (w,()) rec a) (λi hi=>bB (ai.born w)[i]/\(0<i->¬ jX ((ai.born w)[i-1]'(by omega)) (ai.born w)[i]>=0)/\True) hw.born ?_
    (rt:=(Q173.f K (ai.radio w,λy10=>(Q174.f K (y10.1,())).map λy=>y.1.1,())).bind λy11=>some ((!y11.1.1,()),())) ?_ hK λ_=>?_
   ·intro rec i hi;have hl:=hw.born;simp only[Q175.l1.step];rw[decide_eq_true (by omega:(i:Int)<(AB (ai.born w):Int))];simp only[cond_true];refine Rnd.ix (ah hi) (Rnd.nx (kT K _) λ_=>Rnd.two (λh0=>?_) Rnd.end_);rw[dt i h0 (by omega)];exact Rnd.ix (ah (show i-1<(ai.born w).length by omega)) (Rnd.vl (lH K _ _ hK) (Rnd.cndN (b:=decide (jX ((ai.born w)[i-1]'(by omega)) (ai.born w)[i]>=0)) decide_eq_true_iff λ_=>Rnd.end_))
   ·intro rec;simp only[Q175.l1.step,aR];rfl
   ·exact (sD K _ _ (λf=>¬ gG f) hw.radio hK (λf _=>(sE K f).fn)).neg
 ·unfold kw qC;constructor
  ·rintro⟨h1,h2,h3,h4,h5,h6⟩;exact⟨by omega,by omega,by omega,h4,λf hf=>A7 λh=>h6 ⟨f,hf,h⟩,λi hi=>⟨(h5 i hi).1,λh0=>(pM _ _).1 ((h5 i hi).2.1 h0)⟩⟩
  ·rintro⟨h1,h2,h3,h4,h5,h6⟩;exact⟨by omega,by omega,by omega,h4,λi hi=>⟨(h6 i hi).1,λh0=>(pM _ _).2 ((h6 i hi).2 h0),trivial⟩,λ⟨f,hf,h⟩=>h (h5 f hf)⟩
def ltF (f g:af):Bool:=decide (jX f g<0)
def eq (n:aa):List af:=aa.table n++(aa.others n).flatMap (·.2)
theorem rz {α β:Type}(xs:List α)(f:α->List β)(i:Nat)(h:i<xs.length):(xs.take (i+1)).flatMap f=(xs.take i).flatMap f++f xs[i]:=by
 rw[At h,BW];simp only[List.flatMap_cons,Bk,AP]
theorem wM {α β:Type}(xs:List α)(f:α->List β)(i:Nat):((xs.take i).flatMap f).length<=(xs.flatMap f).length:=by
 have:xs.flatMap f=(xs.take i).flatMap f++(xs.drop i).flatMap f:=(congrArg (List.flatMap f) (Ax i xs).symm).trans BW;rw[this];simp
theorem uc (K:Nat)(hK:1048577<K)(y z:af):∃ c,(Q25.f K (y,z,())).map (λr=>r.1.1)=some c/\decide (c<0)=ltF y z:=by
 rw[lH K y z hK];exact⟨_,rfl,rfl⟩
theorem yU (K:Nat)(n:aa)(hn:NB n)(hs:(eq n).length<=12)(hK:1048577<K):Q50.f K (n,())=some ((ek ltF [] (eq n),()),()):=by
 have hl:=hn.others;have hs':(aa.table n).length+((aa.others n).flatMap (·.2)).length<=12:=by rw[<- AN];exact hs
 simp only[Q50.f,Q50.pre,Q0.f];rw[wB (Ah (Nat.mul_le_mul_right _ hn.table) (by decide))];simp only[AA];have hloop:∀ (d i k:Nat),i+d=(aa.others n).length->d<k->ae (λrec a=>Q50.l0.step K (n,()) rec a) k (aa.table n++((aa.others n).take i).flatMap (·.2),(i:Int))=some ((ek ltF [] (eq n),()),()):=by
  intro d;induction d with
  |zero =>
   intro i k hi hk;obtain⟨k,rfl⟩:∃ k',k=k'+1:=⟨k-1,by omega⟩;have:i=(aa.others n).length:=by omega
   subst this;show Q50.l0.step K (n,()) _ _=_;rw[Ap];simp only[Q50.l0.step,aR,cond_false];have e:=wL K (eq n) (λy3=>(Q25.f K (y3.1,y3.2.1,())).map λy=>y.1.1) ltF (λy z=>uc K hK y z) hs hK;unfold eq at e ⊢;rw[e];simp only[AA,Q49.f];simp
  |succ d ih =>
   intro i k hi hk;obtain⟨k,rfl⟩:∃ k',k=k'+1:=⟨k-1,by omega⟩;have hlt:i<(aa.others n).length:=by omega
   show Q50.l0.step K (n,()) _ _=_;simp only[Q50.l0.step];rw[bC (by omega:(i:Int)<(AB (aa.others n):Int)),ah hlt,aw i (by omega)];simp only[cond_true,AA];have h1:=wM (aa.others n) (·.2) (i+1);rw[rz _ _ _ hlt,AN]at h1;rw[u9 (by simp only[AN];omega),Ar,<- rz _ (·.2) _ hlt];exact ih (i+1) k (by omega) (by omega)
 have:=hloop (aa.others n).length 0 K (by omega) (by omega);simp only[List.take_zero,Bk,AP]at this;exact this
theorem jq {n:Int}(h:InP n 0 7):ar n=n / 4:=by
 obtain⟨h1,h2⟩:=h;unfold ar;rw[Ai h1,aM (by omega) (by omega)]
theorem xY {α:Type}{k:α->Int}{xs:List α}(h:Asc k xs):∀ i (hi:i<xs.length),k (xs[0]'(by omega))+i<=k xs[i]:=by
 rw[fN]at h;intro i;induction i with
 |zero=>intro hi;simp
 |succ i ih =>
  intro hi;have h1:=ih (by omega);have h2:=h (i+1) hi (by omega);simp only[Nat.add_sub_cancel]at h2;omega
theorem j0 {t:List af}{s:Int}(hT:aB t)(hS:bX t s):t.length<=4:=by
 cases h:t.length with
 |zero=>omega
 |succ m =>
  have hlt:m<t.length:=by omega
  have h0:0<t.length:=by omega
  have h1:=xY hT.2 m hlt;have a1:=hS _ (AD hlt);have a2:=hS _ (AD h0);have b1:=(hT.1 _ (AD hlt)).1;have b2:=(hT.1 _ (AD h0)).1;rw[jq b1]at a1;rw[jq b2]at a2;omega
theorem lO {me:Int}{l:List cB}(hm:InP me 0 7)(h:cN me l):l=[]\/∃ x,l=[x]:=by
 match l,h with
 |[],_=>exact .inl rfl
 |[x],_=>exact .inr ⟨x,rfl⟩
 |x::y::r,h =>
  exfalso;have h1:=h.1 x (by simp);have h2:=h.1 y (by simp);have h3:x.1<y.1:=by
   have:=h.2;unfold Asc at this;rw[AU]at this;exact this.1 y (by simp)
  have e:=jq hm;obtain⟨⟨a1,a2⟩,a3,_⟩:=h1;obtain⟨⟨b1,b2⟩,b3,_⟩:=h2;obtain⟨m1,m2⟩:=hm;rw[e]at a3 b3;omega
theorem vj {n:aa}(hn:NB n)(h:mA n):aa.table n=[]/\aa.cast n=[]/\aa.doubts n=[]/\aa.places n=[]/\aa.others n=[]:=by
 obtain⟨_,_,_,_,_,h,_⟩:=h;have h1:=hn.table;have h2:=hn.cast;have h3:=hn.doubts;have h4:=hn.places;have h5:=hn.others;rw[aM (n:=(AB (aa.table n):Int)+(AB (aa.cast n):Int)) (by omega) (by omega)]at h;rw[aM (n:=(AB (aa.table n):Int)+(AB (aa.cast n):Int)+(AB (aa.doubts n):Int)) (by omega) (by omega)]at h;rw[aM (n:=(AB (aa.table n):Int)+(AB (aa.cast n):Int)+(AB (aa.doubts n):Int)+(AB (aa.places n):Int)) (by omega) (by omega)]at h;rw[aM (by omega) (by omega)]at h;refine⟨Ac ?_,Ac ?_,Ac ?_,Ac ?_,Ac ?_⟩ <;> omega
theorem pP {n:aa}(hn:NB n)(hP:eU n):(eq n).length<=8/\(aa.others n).length<=1:=by
 have hm:=hP.1;cases hu:n.2.1 with
 |false =>
  have hD:mA n:=by have:=hP.2.2.2.2.2;rwa [if_neg (by rw[hu];simp)]at this
  obtain⟨h1,_,_,_,h5⟩:=vj hn hD;unfold eq;rw[h1,h5];simp
 |true =>
  have hU:UpP n:=by have:=hP.2.2.2.2.2;rwa [if_pos hu]at this
  obtain⟨hT,hS,_,_,_,_,_,_,hO⟩:=hU;have ht:=j0 hT hS;unfold eq;rcases lO hm hO with h|⟨x,h⟩
  ·rw[h];simp;omega
  ·have hx:=hO.1 x (by rw[h];simp);have:=j0 hx.2.2.2.1 hx.2.2.2.2;rw[h];simp;omega
theorem kx {a:Int}{m:Nat}(hm:m<4611686018427387904):0<=bg .i64 a (m:Int)/\bg .i64 a (m:Int)<=m:=by
 have h:(BitVec.ofInt 64 a &&& BitVec.ofInt 64 (m:Int)).toNat<=m:=by
  rw[BitVec.toNat_and];refine Ah Nat.and_le_right ?_;rw[BitVec.toNat_ofInt];omega
 show 0<=IntKind.i64.wrap (((BitVec.ofInt 64 a &&& BitVec.ofInt 64 (m:Int)).toNat:Nat):Int)/\IntKind.i64.wrap (((BitVec.ofInt 64 a &&& BitVec.ofInt 64 (m:Int)).toNat:Nat):Int)<=m;generalize (BitVec.ofInt 64 a &&& BitVec.ofInt 64 (m:Int)).toNat=r at h ⊢;rw[Bi];omega
def fO (g:List Int)(d:Int):Int:=g.getD (AC (Aw (bg .i64 d 255) (g.length:Int))) 0
theorem gr {g:List Int}{d:Int}(h:g≠[]):idx g (Aw (bg .i64 d 255) (g.length:Int))=some (fO g d)/\idx g ((AC (Aw (bg .i64 d 255) (g.length:Int)):Nat):Int)=some (fO g d)/\fO g d∈g:=by
 have hl:0<g.length:=BH.2 h;have h0:=(kx (a:=d) (m:=255) (by omega)).1;have h1:0<=Aw (bg .i64 d 255) (g.length:Int):=Bn _ h0;have h2:Aw (bg .i64 d 255) (g.length:Int)<g.length:=Ba _ (by omega);unfold fO;obtain⟨v,hv⟩:=AE h1;rw[hv]at h2 ⊢;have h3:v<g.length:=by omega
 rw[AF,ah h3,List.getD_eq_getElem?_getD,AM h3];exact⟨rfl,rfl,AD h3⟩
def k7 (n:aa)(site d:Int):Int :=
 bif decide (eV (ey (aa.others n) site)≠[])&&bg .i64 d 4==0 then fO (eV (ey (aa.others n) site)) (Am d (2 ^ 3)) else site*4+bg .i64 (Am d (2 ^ 3)) 3
structure qD (n:aa):Prop where
 short:(aa.others n).length<=1
 table:∀ x∈aa.others n,aB x.2/\x.2.length<=1048576
theorem yV {site d:Int}(h0:0<=site)(h1:site<=1):wr .i64 (wr .i64 (site*4)+bg .i64 (Am d (2 ^ 3)) 3)=site*4+bg .i64 (Am d (2 ^ 3)) 3:=by
 obtain⟨b0,b1⟩:=kx (a:=Am d (2 ^ 3)) (m:=3) (by omega);have b0:0<=bg .i64 (Am d (2 ^ 3)) 3:=b0;have b1:bg .i64 (Am d (2 ^ 3)) 3<=3:=b1;rw[aM (n:=site*4) (by omega) (by omega),aM (by omega) (by omega)]
theorem far_s (K:Nat)(n:aa)(site d:Int)(h:qD n)(h0:0<=site)(h1:site<=1)(hK:1048577<K):Q141.f K (n,site,d,())=some ((k7 n site d,()),()):=by
 obtain⟨k,rfl⟩:∃ k,K=k+2:=⟨K-2,by omega⟩;show Q141.l0.step (k+2) (n,site,d,()) (ae (λrec a=>Q141.l0.step (k+2) (n,site,d,()) rec a) (k+1)) 0=_;have hend:∀ (rec:Int->Option ((Int×Unit)×Unit)) (a:Int),¬ a<(aa.others n).length->Q141.l0.step (k+2) (n,site,d,()) rec a=some ((site*4+bg .i64 (Am d (2 ^ 3)) 3,()),()):=by
  intro rec a ha;simp only[Q141.l0.step];rw[show decide (a<(AB n.2.2.2.2.2.2.2.2.2.2.2.2.2.2:Int))=false from decide_eq_false ha,yV h0 h1];rfl
 match ho:aa.others n with
 |[] =>
  rw[hend _ _ (by rw[ho];simp),k7,ho];rfl
 |[x] =>
  have hx:=h.table x (by rw[ho];simp);have hrest:ae (λrec a=>Q141.l0.step (k+2) (n,site,d,()) rec a) (k+1) 1=some ((site*4+bg .i64 (Am d (2 ^ 3)) 3,()),()):=hend _ _ (by rw[ho];simp);generalize ae (λrec a=>Q141.l0.step (k+2) (n,site,d,()) rec a) (k+1)=rec at hrest ⊢;simp only[Q141.l0.step];rw[show decide ((0:Int)<(AB n.2.2.2.2.2.2.2.2.2.2.2.2.2.2:Int))=true from decide_eq_true (by show (0:Int)<((aa.others n).length:Int);rw[ho];simp),show idx n.2.2.2.2.2.2.2.2.2.2.2.2.2.2 (0:Int)=some x by show idx (aa.others n) (0:Int)=some x;rw[ho];rfl,show wr .i64 ((0:Int)+1)=1 from rfl];simp only[cond_true,AA,hrest];rw[k7,ho];cases hs:x.1==site with
  |false =>
   simp only[cond_false,ey,BR,hs,List.find?_nil];rfl
  |true =>
   simp only[cond_true,ey,BR,hs,Option.map_some,Bh];rw[sZ (k+2) x.2 hx.2 hK];simp only[AA];by_cases hg:eV x.2=[]
   ·rw[hg];rfl
   ·have hl:0<(eV x.2).length:=BH.2 hg;rw[decide_eq_true hg,decide_eq_true (by omega:((eV x.2).length:Int)>0)];simp only[cond_true,Ao];cases bg .i64 d 4==0 with
    |false=>rfl
    |true =>
     simp only[cond_true];rw[decide_eq_false (by omega:¬ ((eV x.2).length:Int)=0),(gr hg).1,(gr hg).2.1];rfl
 |_::_::_=>exact absurd h.short (by rw[ho];simp)
def ky (n:aa):Bool:=decide (n.1∈eV (aa.table n))
theorem wN (K:Nat)(n:aa)(ht:(aa.table n).length<=1048576)(hK:1048577<K):Q140.f K (n,())=rb (ky n):=by
 simp only[Q140.f,Q140.pre];rw[show Q139.f K (n.2.2.2.2.2.2.2.2.1,2,())=_ from sZ K (aa.table n) ht hK];simp only[AA];have hl:=va (aa.table n);unfold ky;generalize eV (aa.table n)=g at hl ⊢;have:=cC (step:=λrec a=>Q140.l0.step K (n,()) rec a) g.length (λi=>(g,(i:Int))) (λj=>∃ h:j<g.length,g[j]=n.1) (rb false) (λ_=>rb true) ?_ ?_ g.length K 0 (by omega) (by omega)
 ·rcases this with ⟨h1,h2⟩|⟨j,_,h1,⟨h3,h4⟩,_,h2⟩
  ·rw[decide_eq_false (λhm=>by
    obtain⟨i,hi,e⟩:=AK hm;exact h1 i (Aj _) hi ⟨hi,e⟩)]
   exact h2
  ·rw[decide_eq_true (h4 ▸ AD h3:n.1∈g)];exact h2
 ·intro rec i hi;simp only[Q140.l0.step];rw[bC (by omega:(i:Int)<(AB g:Int)),ah hi,aw i (by omega),AF,ah hi];simp only[cond_true,AA];by_cases h:g[i]=n.1
  ·exact .inr ⟨⟨hi,h⟩,by rw[show (g[i]==n.1)=true by simpa using h];rfl⟩
  ·exact .inl ⟨λ⟨_,h'⟩=>h h',by rw[show (g[i]==n.1)=false by simpa using h];rfl⟩
 ·intro rec;simp only[Q140.l0.step,aR];rfl
def wanW (n:aa)(d site:Int):av:=(2,(n9 6 n (k7 n site d)).2)
def k8 (n:aa)(d:Int):List av:=bif ky n then (([0,1]:List Int).filter (λs=>s != ar n.1)).map (wanW n d) else []
theorem wan_s (K:Nat)(n:aa)(d:Int)(h:qD n)(ht:(aa.table n).length<=1048576)(hK:1048577<K):Q142.f K (n,d,())=some ((k8 n d,()),()):=by
 simp only[Q142.f,Q142.pre];rw[wN K n ht hK];simp only[AA,k8];cases ky n with
 |false=>rfl
 |true =>
  simp only[AI,cond_false,cond_true];refine o7 (step:=λrec a=>Q142.l0.step K (n,d,()) rec a) ([0,1]:List Int) (λs=>s != ar n.1) (wanW n d) (λacc i=>(acc,(i:Int))) (λws=>some ((ws,()),())) ?_ ?_ (by simp;omega)
  ·intro rec acc i hi ha;have hi2:i<2:=hi;have hv:([0,1]:List Int)[i]=(i:Int):=by
    have:i=0\/i=1:=by omega
    rcases this with rfl|rfl <;> rfl
   simp only[Q142.l0.step,hv];rw[decide_eq_true (by omega:(i:Int)<=1),aw i (by omega),dV K n.1];simp only[cond_true,AA];cases (i:Int) != ar n.1 with
   |false=>rfl
   |true =>
    simp only[cond_true];rw[far_s K n (i:Int) d h (by omega) (by omega) hK];simp only[AA];refine (congrArg (λo=>AH o _) (mC K n 6 (k7 n (i:Int) d) ht)).trans ?_;simp only[AA];rw[szw _ _ _ (by omega) (by simp;omega)];rfl
  ·intro rec acc ha;simp only[Q142.l0.step];rfl
def rA (n:aa)(f:af):Bool:=f.2.2.1 != 4&&f.1 != n.1
def eL (n:aa):List Int:=((aa.table n).filter (rA n)).map (·.1)
def rB (n:aa)(to:Int):List av:=match aa.others n with
 |[]=>[]
 |x::_=>[(1,6,n.1,to,0,n.1,aa.coord n,x.2)]
def iY (n:aa)(draw:Int):List av :=
 bif bg .i64 draw 3==1 then k8 n (Am draw (2 ^ 2)) else
 bif bg .i64 draw 3==3||decide (eL n=[]) then [] else
 bif bg .i64 draw 3==0 then [n9 4 n (fO (eL n) (Am draw (2 ^ 2)))] else rB n (fO (eL n) (Am draw (2 ^ 2)))
theorem and3 (a:Int):bg .i64 a 3=0\/bg .i64 a 3=1\/bg .i64 a 3=2\/bg .i64 a 3=3:=by
 obtain⟨b0,b1⟩:=kx (a:=a) (m:=3) (by omega);have b0:0<=bg .i64 a 3:=b0;have b1:bg .i64 a 3<=3:=b1;omega
theorem vk {n:aa}(hT:aB (aa.table n)){v:Int}(hv:v∈eL n):0<=v:=by
 obtain⟨f,hf,rfl⟩:=AY.1 hv;exact (hT.1 f (AJ.1 hf).1).1.1
theorem yW (K:Nat)(n:aa)(d:Int)(ht:(aa.table n).length<=1048576)(hK:1048577<K):Q138.f K (n,d,())=some ((bif decide (eL n=[]) then -1 else fO (eL n) d,()),()):=by
 refine (tT (step:=λrec a=>Q138.l0.step K (n,d,()) rec a) (aa.table n) (rA n) (λf=>f.1) (λxs=>some ((bif decide (xs=[]) then -1 else fO xs d,()),())) ?_ ?_ (by omega)).trans rfl
 ·intro rec acc i hi ha;simp only[Q138.l0.step];rw[show decide ((i:Int)<(AB n.2.2.2.2.2.2.2.2.1:Int))=true from bC (by omega:(i:Int)<(AB (aa.table n):Int)),show idx n.2.2.2.2.2.2.2.2.1 (i:Int)=some (aa.table n)[i] from ah hi,aw i (by omega)];simp only[cond_true,AA,rA];rw[szb _ _ _ (by omega) (by simp;omega)];cases (aa.table n)[i].1 != n.1 <;> cases (aa.table n)[i].2.2.1 != 4 <;> rfl
 ·intro rec acc _;simp only[Q138.l0.step];rw[show decide ((AB (aa.table n):Int)<(AB n.2.2.2.2.2.2.2.2.1:Int))=false from aR _];simp only[cond_false];by_cases hg:acc=[]
  ·subst hg;rfl
  ·have hl:0<acc.length:=BH.2 hg;rw[show ((acc.length:Int)==0)=false by simp;exact hg,decide_eq_false (by omega:¬ (acc.length:Int)=0),decide_eq_false hg,(gr hg).1,(gr hg).2.1];rfl
theorem yX (K:Nat)(n:aa)(draw:Int)(h:qD n)(hT:aB (aa.table n))(ht:(aa.table n).length<=1048576)(hK:1048577<K):Q143.f K (n,draw,())=some ((iY n draw,()),()):=by
 simp only[Q143.f];rw[yW K n _ ht hK];simp only[AA];rw[wan_s K n _ h ht hK];simp only[AA,iY];by_cases ht0:eL n=[]
 ·rw[decide_eq_true ht0];simp only[cond_true,Br,show decide ((-1:Int)>=0)=false from rfl,cond_false];rcases and3 draw with e|e|e|e <;> rw[e] <;> rfl
 ·have h0:=vk hT (gr (d:=Am draw (2 ^ 2)) ht0).2.2;rw[decide_eq_false ht0];simp only[cond_false,Bool.or_false];rw[decide_eq_true (by omega:fO (eL n) (Am draw (2 ^ 2))>=0)];simp only[cond_true];rw[show Q93.f K (n,4,fO (eL n) (Am draw (2 ^ 2)),0,n.1,n.2.2.2.2.2.2.2.2.1,())=_ from mC K n 4 _ ht];simp only[AA];rcases and3 draw with e|e|e|e
  ·rw[e];rfl
  ·rw[e];rfl
  ·rw[e];simp only[show ((2:Int)==0)=false from rfl,show ((2:Int)==1)=false from rfl,show ((2:Int)==2)=true from rfl,show ((2:Int)==3)=false from rfl,cond_false,cond_true];unfold rB
   match ho:aa.others n with
   |[] =>
    rw[show decide ((AB n.2.2.2.2.2.2.2.2.2.2.2.2.2.2:Int)>0)=false by show decide (((aa.others n).length:Int)>0)=false;rw[ho];rfl];rfl
   |[x] =>
    have hx:=h.table x (by rw[ho];simp);have hl:(aa.others n).length=1:=by rw[ho];rfl
    rw[show decide ((AB n.2.2.2.2.2.2.2.2.2.2.2.2.2.2:Int)>0)=true by show decide (((aa.others n).length:Int)>0)=true;rw[hl];rfl,show decide ((AB n.2.2.2.2.2.2.2.2.2.2.2.2.2.2:Int)=0)=false by show decide (((aa.others n).length:Int)=0)=false;rw[hl];rfl];simp only[cond_true,cond_false];rw[show idx n.2.2.2.2.2.2.2.2.2.2.2.2.2.2 (Aw (bg .i64 (Am draw (2 ^ 10)) 255) (AB n.2.2.2.2.2.2.2.2.2.2.2.2.2.2:Int))=some x by
     show idx (aa.others n) (Aw (bg .i64 (Am draw (2 ^ 10)) 255) ((aa.others n).length:Int))=some x;rw[hl,ho,show ((1:Nat):Int)=1 from rfl,Int.tmod_one];rfl]
    simp only[AA,Q93.f];rw[szb _ _ _ (by omega) (by have:=hx.2;simp;omega)];rfl
   |_::_::_=>exact absurd h.short (by rw[ho];simp)
  ·rw[e];rfl
def rk (f:af):Int:=f.2.1*16+f.2.2.1*2+(if f.2.2.2=true then 1 else 0)
theorem o9 {f g:af}(hf:bB f)(hg:bB g):bN f g<->rk g<rk f:=by
 obtain⟨_,_,h1,h2⟩:=hf;obtain⟨_,_,h3,h4⟩:=hg;unfold bN rk;by_cases a:f.2.1=g.2.1
 ·rw[if_neg (by simpa using a)];by_cases c:f.2.2.1=g.2.2.1
  ·rw[if_neg (by simpa using c),a,c];cases f.2.2.2 <;> cases g.2.2.2 <;> simp <;> omega
  ·rw[if_pos c];cases f.2.2.2 <;> cases g.2.2.2 <;> simp <;> omega
 ·rw[if_pos a];cases f.2.2.2 <;> cases g.2.2.2 <;> simp <;> omega
theorem mR {t:List af}(hA:Asc (λg:af=>g.1) t)(f:af):bY t f=(t,false)\/(bY t f=(bO (λg=>g.1) f t,true)/\∀ g∈t,g.1=f.1->bN f g):=by
 by_cases h:∃ g∈t,g.1=f.1
 ·obtain⟨g,hg,e⟩:=h;obtain⟨i,hi,rfl⟩:=AK hg;rw[kV hA hi e];by_cases ho:bN f t[i]
  ·rw[if_pos ho];refine .inr ⟨rfl,λg' hg' e'=>?_⟩;rw[gn hA hg' hg (by rw[e,e'])];exact ho
  ·rw[if_neg ho];exact .inl rfl
 ·have h':∀ g∈t,g.1≠f.1:=λg hg e=>h ⟨g,hg,e⟩
  exact .inr ⟨hZ h',λg hg e=>absurd e (h' g hg)⟩
theorem mS {n:aa}(hT:aB (aa.table n)):gE n<->(∀ d∈aa.doubts n,kr n d)/\Asc (λd:cb=>d.1) (aa.doubts n)/\∀ f∈aa.table n,f.2.2.1=2->∃ d∈aa.doubts n,d.1=f.1:=by
 have hs:((aV (aa.table n)).map (λf:af=>f.1)).Pairwise (·<·):=by
  rw[Ag];exact A3 _ hT.2
 constructor
 ·rintro⟨h1,h2,h3⟩;refine⟨h1,h2,λf hf hf2=>?_⟩;have hd:((aa.doubts n).map (λd:cb=>d.1)).Pairwise (·<·):=by rw[Ag];exact h2
  have:=(hX _ _ hd hs (λx hx=>by
   obtain⟨d,hd,rfl⟩:=AY.1 hx;obtain⟨⟨g,hg,e,e2,_⟩,_⟩:=h1 d hd;exact AY.2 ⟨g,AJ.2 ⟨hg,by simpa using e2⟩,e⟩)).2 (by rw[Ae,Ae,h3])
  have hm:f.1∈(aV (aa.table n)).map (λf:af=>f.1):=AY.2 ⟨f,AJ.2 ⟨hf,by simpa using hf2⟩,rfl⟩;rw[<- this]at hm;obtain⟨d,hd,e⟩:=AY.1 hm;exact⟨d,hd,e⟩
 ·rintro⟨h1,h2,h3⟩;refine⟨h1,h2,?_⟩;have hd:((aa.doubts n).map (λd:cb=>d.1)).Pairwise (·<·):=by rw[Ag];exact h2
  have l1:=(hX _ _ hd hs (λx hx=>by
   obtain⟨d,hd,rfl⟩:=AY.1 hx;obtain⟨⟨g,hg,e,e2,_⟩,_⟩:=h1 d hd;exact AY.2 ⟨g,AJ.2 ⟨hg,by simpa using e2⟩,e⟩)).1
  have l2:=(hX _ _ hs hd (λx hx=>by
   obtain⟨f,hf,rfl⟩:=AY.1 hx;obtain⟨hf1,hf2⟩:=AJ.1 hf;obtain⟨d,hd,e⟩:=h3 f hf1 (by simpa using hf2);exact AY.2 ⟨d,hd,e⟩)).1
  rw[Ae,Ae]at l1 l2;omega
def bZ (n:aa):Int:=n.2.2.2.2.2.1
def eM (n:aa)(b:Int):Prop:=InP b 0 7/\ar b=ar n.1
theorem mT {n:aa}(hA:Asc (λg:af=>g.1) (aa.table n))(f:af)(b:Int):sayOf n f b=n \/
  (sayOf n f b=ia n (bO (λg=>g.1) f (aa.table n)) (eH (aa.cast n) f) (bif jG n f then aa.doubts n else cY (bZ n) (aa.doubts n) f b)/\∀ g∈aa.table n,g.1=f.1->bN f g):=by
 rcases mR hA f with h|⟨h,ho⟩
 ·left;unfold sayOf;rw[h];rfl
 ·right;refine⟨?_,ho⟩;unfold sayOf;rw[h];rfl
theorem ud {n:aa}{f:af}{b:Int}(hT:aB (aa.table n))(hD:gE n)(hf:bB f)(hb:eM n b)(hn:0<=bZ n)(c:List aZ) :
  gE (ia n (bO (λg=>g.1) f (aa.table n)) c (bif jG n f then aa.doubts n else cY (bZ n) (aa.doubts n) f b)):=by
 obtain⟨h1,h2,h3⟩:=(mS hT).1 hD;have hT':aB (bO (λg:af=>g.1) f (aa.table n)):=⟨λg hg=>by
  rcases a7.1 hg with rfl|⟨hg,_⟩
  ·exact hf
  ·exact hT.1 g hg,ew hT.2⟩
 refine (mS (n:=ia n _ c _) hT').2 ?_;have old:∀ d∈aa.doubts n,d.1≠f.1->∀ ds,kr (ia n (bO (λg:af=>g.1) f (aa.table n)) c ds) d:=λd hd hne ds=>by
  obtain⟨⟨g,hg,e1,e2,e3⟩,r⟩:=h1 d hd;exact⟨⟨g,a7.2 (.inr ⟨hg,by rw[e1];exact hne⟩),e1,e2,e3⟩,r⟩
 have cov:∀ g∈bO (λg:af=>g.1) f (aa.table n),g.1≠f.1->g.2.2.1=2->∃ d∈aa.doubts n,d.1=g.1:=λg hg hne h=>by
  rcases a7.1 hg with rfl|⟨hg,_⟩
  ·exact absurd rfl hne
  ·exact h3 g hg h
 cases hs:jG n f with
 |true =>
  obtain⟨g0,hg0,s1,s2,s3⟩:=of_decide_eq_true hs;refine⟨λd hd=>?_,h2,λg hg h=>?_⟩
  ·by_cases hne:d.1=f.1
   ·obtain⟨⟨g,hg,e1,e2,e3⟩,r⟩:=h1 d hd;rw[gn hT.2 hg hg0 (by rw[e1,s1,hne])]at e2 e3;exact⟨⟨f,a7.2 (.inl rfl),hne.symm,by rw[<- s3];exact e2,by rw[<- s2];exact e3⟩,r⟩
   ·exact old d hd hne _
  ·by_cases hne:g.1=f.1
   ·have hgf:g=f:=by
     rcases a7.1 hg with h|⟨_,h⟩
     ·exact h
     ·exact absurd hne h
    rw[hgf]at h ⊢;obtain⟨d,hd,e⟩:=h3 g0 hg0 (by rw[s3];exact h);exact⟨d,hd,by rw[e,s1]⟩
   ·exact cov g hg hne h
 |false =>
  by_cases h2f:f.2.2.1=2
  ·have e:cY (bZ n) (aa.doubts n) f b=bO (λd=>d.1) (mkD (bZ n) f b) (aa.doubts n):=by unfold cY;rw[if_pos h2f]
   simp only[cond_false];rw[e];refine⟨λd hd=>?_,ew h2,λg hg h=>?_⟩
   ·rcases a7.1 hd with rfl|⟨hd,hne⟩
    ·exact⟨⟨f,a7.2 (.inl rfl),rfl,h2f,rfl⟩,⟨hn,Ab _⟩,List.cons_ne_nil _ _,λx hx=>by rw[AV.1 hx];exact hb,BO _ _⟩
    ·exact old d hd hne _
   ·by_cases hne:g.1=f.1
    ·exact⟨mkD (bZ n) f b,a7.2 (.inl rfl),hne.symm⟩
    ·obtain⟨d,hd,e⟩:=cov g hg hne h;exact⟨d,a7.2 (.inr ⟨hd,λe'=>hne (e.symm.trans e')⟩),e⟩
  ·have e:cY (bZ n) (aa.doubts n) f b=(aa.doubts n).filter (λd=>!(d.1==f.1)):=by unfold cY;rw[if_neg h2f]
   simp only[cond_false];rw[e];refine⟨λd hd=>?_,nY h2 _,λg hg h=>?_⟩
   ·obtain⟨hd,hne⟩:=AJ.1 hd;exact old d hd (by simpa using hne) _
   ·have hne:g.1≠f.1:=λhne=>by
     rcases a7.1 hg with h'|⟨_,h'⟩
     ·rw[h']at h;exact h2f h
     ·exact h' hne
    obtain⟨d,hd,e⟩:=cov g hg hne h;exact⟨d,AJ.2 ⟨hd,by rw[e];simpa using hne⟩,e⟩
theorem ue {n:aa}{f:af}(hT:aB (aa.table n))(hC:cX (aa.cast n))(hV:fY (aa.table n) (aa.cast n))(hf:bB f)(ho:∀ g∈aa.table n,g.1=f.1->bN f g) :
  fY (bO (λg=>g.1) f (aa.table n)) (eH (aa.cast n) f):=by
 have old:∀ x∈aa.cast n,∃ g∈bO (λg:af=>g.1) f (aa.table n),g.1=x.1.1/\¬ bN x.1 g:=λx hx=>by
  obtain⟨g,hg,e,hno⟩:=hV x hx;by_cases hne:g.1=f.1
  ·refine⟨f,a7.2 (.inl rfl),by rw[<- e,hne],λh=>hno ?_⟩;have hx':=(hC.1 x hx).1;have hg':=hT.1 g hg;have:=ho g hg hne;rw[o9 hf hg']at this;rw[o9 hx' hf]at h;rw[o9 hx' hg'];omega
  ·exact⟨g,a7.2 (.inr ⟨hg,hne⟩),e,hno⟩
 intro x hx;unfold eH at hx;split at hx
 ·exact old x hx
 ·rcases a7.1 hx with rfl|⟨hx,_⟩
  ·exact⟨f,a7.2 (.inl rfl),rfl,vh f⟩
  ·exact old x hx
structure UpX (n:aa):Prop where
 me:InP n.1 0 7
 now0:0<=bZ n
 table:aB (aa.table n)
 site:bX (aa.table n) (ar n.1)
 cast:cX (aa.cast n)
 vs:fY (aa.table n) (aa.cast n)
 probe:cM n
 doubts:gE n
 coord:co (aa.coord n)
 places:dQ n.1 (aa.places n)
 others:cN n.1 (aa.others n)
theorem UpX.of {n:aa}(h:UpP n)(hm:InP n.1 0 7)(h0:0<=bZ n):UpX n:=by
 obtain⟨hT,hS,_,⟨hC,hV⟩,hP,hD,hco,hpl,hot⟩:=h;exact⟨hm,h0,hT,hS,hC,hV,hP,hD,hco,hpl,hot⟩
theorem UpX.up {n:aa}(h:UpX n)(hs:cQ n):UpP n:=⟨h.table,h.site,hs,⟨h.cast,h.vs⟩,h.probe,h.doubts,h.coord,h.places,h.others⟩
theorem UpX.say {n:aa}(h:UpX n):cI n:=by
 refine cI.mk' h.table h.cast h.doubts.2.1 λd hd=>?_
 obtain⟨f,hf,e,_⟩:=(h.doubts.1 d hd).1;rw[<- e];exact (h.table.1 f hf).1
theorem eM.me {n:aa}(h:InP n.1 0 7):eM n n.1:=⟨h,rfl⟩
theorem pQ {n m:aa}(h:cM n)(hm:m.1=n.1)(hp:aa.probe m=aa.probe n)(ht:∀ g∈aa.table n,∃ g'∈aa.table m,g'.1=g.1)(hn:bZ n<=bZ m)(hs:n.2.2.2.2.2.2.1<=m.2.2.2.2.2.2.1):cM m:=by
 unfold cM at h ⊢;rw[hp,hm];split at h
 ·rename_i h1;rw[if_pos h1];exact h
 ·rename_i h1;rw[if_neg h1];obtain⟨p1,⟨g,hg,eg⟩,⟨p2,p3⟩,⟨p4,p5⟩⟩:=h;obtain⟨g',hg',e'⟩:=ht g hg;exact⟨p1,⟨g',hg',e'.trans eg⟩,⟨p2,BC p3 hn⟩,⟨p4,BC p5 hs⟩⟩
theorem UpX.said {n:aa}{f:af}{b:Int}(h:UpX n)(hf:bB f)(hs:ar f.1=ar n.1)(hb:eM n b):UpX (sayOf n f b):=by
 rcases mT h.table.2 f b with e|⟨e,ho⟩
 ·rw[e];exact h
 ·have hk:=λg hg=>iz (n:=n) (f:=f) (b:=b) (g:=g) hg
  rw[e]at hk ⊢;refine⟨h.me,h.now0,⟨λg hg=>?_,ew h.table.2⟩,λg hg=>?_,nZ h.cast hf,ue h.table h.cast h.vs hf ho,pQ h.probe rfl rfl hk (Ab _) (Ab _),ud h.table h.doubts hf hb h.now0 _,h.coord,h.places,h.others⟩
  ·rcases a7.1 hg with rfl|⟨hg,_⟩
   ·exact hf
   ·exact h.table.1 g hg
  ·rcases a7.1 hg with rfl|⟨hg,_⟩
   ·exact hs
   ·exact h.site g hg
theorem vm {n:aa}(hA:Asc (λg:af=>g.1) (aa.table n)){f g:af}{b:Int}(hne:g.1≠f.1):g∈aa.table (sayOf n f b)<->g∈aa.table n:=by
 rcases mT hA f b with e|⟨e,_⟩
 ·rw[e]
 ·rw[e];exact a7.trans ⟨λh=>h.elim (λh=>absurd (by rw[h]) hne) (·.1),λh=>.inr ⟨h,hne⟩⟩
theorem pR {n:aa}(hA:Asc (λg:af=>g.1) (aa.table n)){f:af}{b:Int}(h:∀ g∈aa.table n,g.1=f.1->bN f g):f∈aa.table (sayOf n f b):=by
 have hp:bY (aa.table n) f=(bO (λg=>g.1) f (aa.table n),true):=by
  rcases mR hA f with e|⟨e,_⟩
  ·by_cases hx:∃ g∈aa.table n,g.1=f.1
   ·obtain⟨g,hg,eg⟩:=hx;obtain⟨i,hi,rfl⟩:=AK hg;rw[kV hA hi eg,if_pos (h _ hg eg)]
   ·exact hZ λg hg e=>hx ⟨g,hg,e⟩
  ·exact e
 unfold Go.Proofs.YtmcbmojdeikcdaaGreatEv.sayOf;rw[hp];exact a7.2 (.inl rfl)
def OnN (n m:aa):Prop:=∃ t c ds,m=ia n t c ds
theorem OnN.refl (n:aa):OnN n n:=⟨_,_,_,rfl⟩
theorem OnN.say {n m:aa}(h:OnN n m)(f:af)(b:Int):OnN n (Go.Proofs.YtmcbmojdeikcdaaGreatEv.sayOf m f b):=by
 obtain⟨t,c,ds,rfl⟩:=h;obtain⟨t',c',ds',e,_⟩:=iy (ia n t c ds) f b;exact⟨t',c',ds',e⟩
def k9 (n:aa):af:=(n.1,n.2.2.2.2.1,(if n.2.2.1=true then 4 else 1),n.2.2.2.1)
theorem ny {n m:aa}(hA:Asc (λg:af=>g.1) (aa.table m))(ho:OnN n m){f:af}{b:Int}(hne:f.1≠n.1)(h:cQ m):cQ (sayOf m f b):=by
 obtain⟨t,c,ds,e⟩:=ho.say f b;obtain⟨t',c',ds',e'⟩:=ho;have h1:k9 n∈aa.table m:=by rw[e']at h ⊢;exact h
 have h2:=(vm hA (f:=f) (b:=b) (g:=k9 n) (λh=>hne h.symm)).2 h1;rw[e]at h2 ⊢;exact h2
theorem wO {n:aa}(h:UpX n)(hs:cQ n){d:cb}(hd:d∈aa.doubts n):d.1≠n.1:=by
 obtain⟨⟨g,hg,e,e2,_⟩,_⟩:=h.doubts.1 d hd;intro hh;have h1:k9 n∈aa.table n:=hs;have:=gn h.table.2 hg h1 (by rw[e,hh];rfl);rw[this]at e2;revert e2;show (if n.2.2.1=true then (4:Int) else 1)=2->False;split <;> omega
theorem lP {n:aa}(h:UpX n)(hs:cQ n):UpX (jl n)/\cQ (jl n)/\OnN n (jl n):=by
 have:=kW (st:=gp) (Inv:=λm=>(UpX m/\cQ m/\OnN n m)/\∀ g∈aa.table n,∃ g'∈aa.table m,g'.1=g.1) (ds:=aa.doubts n) (n:=n) ⟨⟨h,hs,OnN.refl n⟩,λg hg=>⟨g,hg,rfl⟩⟩ ?_
 ·exact this.1
 ·rintro m d hd ⟨⟨hm,hms,ho⟩,hk⟩;have hne:=wO h hs hd;unfold gp;cases o8 m.2.2.2.2.2.1 d.2.2.1 d.2.2.2.length with
  |false=>exact⟨⟨hm,hms,ho⟩,hk⟩
  |true =>
   obtain⟨⟨g,hg,e,_⟩,_⟩:=h.doubts.1 d hd;obtain⟨g',hg',e'⟩:=hk g hg;obtain⟨h1,h2,h3⟩:=ei hm.table ⟨g',hg',e'.trans e⟩;have hsi:ar (jK (aX (aa.table m) d.1)).1=ar m.1:=by
    show ar (aX (aa.table m) d.1).1=ar m.1;exact hm.site _ h3
   have hk':(jK (aX (aa.table m) d.1)).1≠n.1:=by rw[show (jK (aX (aa.table m) d.1)).1=_ from h2];exact hne
   refine⟨⟨hm.said (tc h1) hsi (eM.me hm.me),ny hm.table.2 ho hk' hms,ho.say _ _⟩,λg hg=>?_⟩;obtain⟨g1,hg1,e1⟩:=hk g hg;obtain⟨g2,hg2,e2⟩:=iz (f:=jK (aX (aa.table m) d.1)) (b:=m.1) hg1;exact⟨g2,hg2,e2.trans e1⟩
theorem UpX.setProbe {n:aa}(h:UpX n){p:af}(hp:cM (setP n p)):UpX (setP n p):=⟨h.me,h.now0,h.table,h.site,h.cast,h.vs,hp,h.doubts,h.coord,h.places,h.others⟩
theorem vn (n:aa):cM (setP n noP):=by
 unfold cM;exact (if_pos rfl).mpr rfl
theorem vo {n:aa}(h:UpX n)(hs:cQ n):UpX (cZ n).1/\cQ (cZ n).1/\∃ p,OnN (setP n p) (cZ n).1:=by
 have stay:UpX n/\cQ n/\∃ p,OnN (setP n p) n:=⟨h,hs,aa.probe n,OnN.refl n⟩;have hno:UpX (setP n noP):=h.setProbe (vn n);unfold cZ;cases hp:(aa.probe n).1==-1 with
 |true=>exact stay
 |false =>
  have hp':(aa.probe n).1≠-1:=by simpa using hp
  have hpr:=h.probe;unfold cM at hpr;rw[if_neg hp']at hpr;simp only[cond_false];cases hl:dW (aX (aa.table n) (aa.probe n).1) with
  |false=>exact⟨hno,hs,_,OnN.refl _⟩
  |true =>
   obtain⟨h1,h2,h3⟩:=ei h.table (f9 hl);simp only[AI,cond_false];cases decide (n.2.2.2.2.2.1-(aa.probe n).2.1>=4) with
   |true =>
    simp only[cond_true];cases (aX (aa.table n) (aa.probe n).1).2.2.1==1 with
    |true =>
     have hsi:ar (oc (aX (aa.table n) (aa.probe n).1)).1=ar (setP n noP).1:=by
      show ar (aX (aa.table n) (aa.probe n).1).1=ar n.1;exact h.site _ h3
     refine⟨hno.said (xR h1) hsi (eM.me (n:=setP n noP) h.me),ny (n:=setP n noP) (m:=setP n noP) h.table.2 (OnN.refl (setP n noP)) ?_ hs,noP,(OnN.refl (setP n noP)).say _ _⟩;rw[show (oc (aX (aa.table n) (aa.probe n).1)).1=_ from h2];exact hpr.1
    |false=>exact⟨hno,hs,_,OnN.refl _⟩
   |false =>
    simp only[cond_false];cases decide (n.2.2.2.2.2.1-(aa.probe n).2.1>=2) with
    |false=>exact stay
    |true =>
     simp only[cond_true];cases (aa.probe n).2.2.2 with
     |true=>exact stay
     |false =>
      refine⟨h.setProbe ?_,hs,_,OnN.refl _⟩;show cM (kv n);unfold cM;rw[if_neg (show ¬ (aa.probe (kv n)).1=-1 from hp')];exact hpr
def gS (n:aa):Option Int:=((List.range 8).map (cq n)).find? λx=>x != n.1&&dW (aX (aa.table n) x)
def iF (n:aa):Int:=n.2.2.2.2.2.2.1
def du (n:aa):aa×List av:=bif decide (iF n>=999999) then (n,[]) else match gS n with
 |some to=>(askN n to,[pingW n to])
 |none=>(n,[])
theorem pS {n:aa}{to:Int}(h:gS n=some to):to≠n.1/\dW (aX (aa.table n) to)=true:=by
 have:=BS h;simpa using this
theorem vp {l:List aZ}{T:List Int}{x:aZ}(h:x∈ez l T l.length):∃ y∈l,x.1=y.1:=by
 unfold ez at h;obtain⟨h1,_⟩:=AJ.1 h;obtain⟨i,hi,rfl⟩:=AK h1;rw[k5]at hi;rw[k6 l T hi];refine⟨l[i],AD hi,?_⟩;unfold fj;rw[dJ hi];cases decide ((i:Int)∈T) <;> rfl
theorem UpX.way {n:aa}(h:UpX n):UpX (jo n):=⟨h.me,h.now0,h.table,h.site,wK h.cast _,λx hx=>by
 obtain⟨y,hy,e⟩:=vp hx;obtain⟨g,hg,e1,e2⟩:=h.vs y hy;exact⟨g,hg,by rw[e,e1],by rw[e];exact e2⟩,h.probe,h.doubts,h.coord,h.places,h.others⟩
structure rC (n:aa):Prop where
 seq:InP (iF n) 0 999999
 turn:InP n.2.2.2.2.2.2.2.1 0 8
theorem yY {n:aa}(h:UpX n)(hs:cQ n)(hq:rC n):UpX (du n).1/\cQ (du n).1/\rC (du n).1/\(du n).1.1=n.1/\bZ (du n).1=bZ n/\(du n).1.2.2.2.2.1=n.2.2.2.2.1:=by
 unfold du;by_cases hm:iF n>=999999
 ·rw[decide_eq_true hm];exact⟨h,hs,hq,rfl,rfl,rfl⟩
 ·rw[decide_eq_false hm];simp only[cond_false];cases hx:gS n with
  |none=>exact⟨h,hs,hq,rfl,rfl,rfl⟩
  |some to =>
   obtain⟨hne,hl⟩:=pS hx;obtain⟨g1,g2,g3⟩:=ei h.table (f9 hl);obtain⟨⟨q0,q1⟩,_⟩:=hq;have hto:InP to 0 7:=g2 ▸ g1.1;have hw:=h.way;refine⟨⟨h.me,h.now0,h.table,h.site,hw.cast,hw.vs,?_,h.doubts,h.coord,h.places,h.others⟩,hs,⟨⟨show 0<=iF n+1 by omega,show iF n+1<=999999 by omega⟩,show 0<=to+1 by have:=hto.1;omega,show to+1<=8 by have:=hto.2;omega⟩,rfl,rfl,rfl⟩;show cM (askN n to);unfold cM;rw[if_neg (show ¬ (aa.probe (askN n to)).1=-1 by have:=hto.1;show ¬ to=-1;omega)];exact⟨hne,⟨_,g3,g2⟩,⟨h.now0,Ab _⟩,show 1<=iF n+1 by omega,Ab _⟩
def dE (n:aa):aa:=(n.1,n.2.1,n.2.2.1,n.2.2.2.1,n.2.2.2.2.1,n.2.2.2.2.2.1+1,n.2.2.2.2.2.2)
def eN (m:aa):aa×List av:=bif (aa.probe m).1==-1 then du m else (m,[])
def eO (n:aa):aa×List av:=cZ (jl (dE n))
def jO (n:aa):aa:=(eN (eO n).1).1
def oh (n:aa)(draw:Int):List av:=(eO n).2++(eN (eO n).1).2++iY (jO n) draw
theorem UpX.later {n:aa}(h:UpX n):UpX (dE n):=by
 have h0:bZ (dE n)=bZ n+1:=rfl;have hn:=h.now0;refine⟨h.me,by omega,h.table,h.site,h.cast,h.vs,pQ h.probe rfl rfl (λg hg=>⟨g,hg,rfl⟩) (by omega) (Ab _),⟨λd hd=>?_,h.doubts.2⟩,h.coord,h.places,h.others⟩;obtain⟨h1,⟨h2,h3⟩,h4⟩:=h.doubts.1 d hd;exact⟨h1,⟨h2,BC h3 (show bZ n<=bZ (dE n) by omega)⟩,h4⟩
structure UpN (n:aa):Prop where
 x:UpX n
 self:cQ n
 now1:bZ n<=999999
 seq:rC n
 inc:InP n.2.2.2.2.1 0 999
 up:n.2.1=true
theorem UpN.of {n:aa}(h:eU n)(hu:n.2.1=true):UpN n:=by
 obtain⟨h1,h2,h3,h4,h5,h6⟩:=h;rw[if_pos hu]at h6;exact⟨UpX.of h6 h1 h2.1,h6.2.2.1,h2.2,⟨h3,h4⟩,h5,hu⟩
theorem UpN.ok {n:aa}(h:UpN n):eU n:=⟨h.x.me,⟨h.x.now0,h.now1⟩,h.seq.seq,h.seq.turn,h.inc,by rw[if_pos h.up];exact h.x.up h.self⟩
theorem oi {n:aa}(h:UpN n)(hm:bZ n<999999):UpN (eO n).1/\(eO n).1.1=n.1/\(eO n).1.2.2.1=n.2.2.1:=by
 have hl:cQ (dE n):=h.self;obtain⟨b1,b2,b3⟩:=lP h.x.later hl;obtain⟨f1,f2,p,f3⟩:=vo b1 b2;obtain⟨t,c,ds,eb⟩:=b3;obtain⟨t',c',ds',ef⟩:=f3;have e:(eO n).1=_:=ef;rw[eb]at e;refine⟨⟨f1,f2,?_,⟨?_,?_⟩,?_,?_⟩,?_,?_⟩
 ·show bZ (eO n).1<=999999;rw[e];show bZ n+1<=999999;omega
 ·show InP (iF (eO n).1) 0 999999;rw[e];exact h.seq.seq
 ·show InP (eO n).1.2.2.2.2.2.2.2.1 0 8;rw[e];exact h.seq.turn
 ·show InP (eO n).1.2.2.2.2.1 0 999;rw[e];exact h.inc
 ·show (eO n).1.2.1=true;rw[e];exact h.up
 ·rw[e];rfl
 ·rw[e];rfl
theorem rD {m:aa}:(du m).1.2.1=m.2.1/\(du m).1.2.2.1=m.2.2.1:=by
 unfold du;cases decide (iF m>=999999) with
 |true=>exact⟨rfl,rfl⟩
 |false =>
  cases gS m with
  |none=>exact⟨rfl,rfl⟩
  |some to=>exact⟨rfl,rfl⟩
theorem uf {m:aa}(h:UpN m):UpN (eN m).1/\(eN m).1.1=m.1/\(eN m).1.2.2.1=m.2.2.1:=by
 unfold eN;cases (aa.probe m).1==-1 with
 |false=>exact⟨h,rfl,rfl⟩
 |true =>
  obtain⟨a1,a2,a3,a4,a5,a6⟩:=yY h.x h.self h.seq;refine⟨⟨a1,a2,?_,a3,?_,?_⟩,a4,rD.2⟩
  ·show bZ (du m).1<=999999;rw[a5];exact h.now1
  ·show InP (du m).1.2.2.2.2.1 0 999;rw[a6];exact h.inc
  ·show (du m).1.2.1=true;rw[rD.1];exact h.up
theorem pa {n:aa}(h:UpN n)(hm:bZ n<999999):UpN (jO n)/\(jO n).1=n.1/\(jO n).2.2.1=n.2.2.1:=by
 obtain⟨h1,h2,h3⟩:=oi h hm;obtain⟨h4,h5,h6⟩:=uf h1;exact⟨h4,h5.trans h2,h6.trans h3⟩
theorem wP {f g:af}(h:g.2.1<f.2.1):bN f g:=by
 unfold bN;rw[if_pos (by omega)];exact h
theorem xZ {f g:af}(h:bN f g):g.2.1<=f.2.1:=by
 unfold bN at h;split at h <;> omega
theorem UpX.inc {n:aa}(h:UpX n)(i:Int):UpX (gq n i):=⟨h.me,h.now0,h.table,h.site,h.cast,h.vs,h.probe,h.doubts,h.coord,h.places,h.others⟩
theorem pT {n:aa}(h:UpX n)(hs:cQ n){g:af}(hg:g∈aa.table n)(e:g.1=n.1):g=k9 n:=gn h.table.2 hg hs (by rw[e];rfl)
theorem vq {n:aa}(h:UpX n)(hs:cQ n):aX (aa.table n) n.1=k9 n:=jI h.table.2 (f:=k9 n) hs
theorem wQ {n:aa}(h:UpN n)(hg:n.2.2.1=false):UpN (lL n)/\(lL n).1=n.1:=by
 have hf:bB (n.1,n.2.2.2.2.1,4,n.2.2.2.1):=⟨h.x.me,h.inc,show (1:Int)<=4 by omega,show (4:Int)<=4 by omega⟩;have hx:=h.x.said hf rfl (eM.me h.x.me);have hn:(n.1,n.2.2.2.2.1,(4:Int),n.2.2.2.1)∈aa.table (sayOf n (n.1,n.2.2.2.2.1,4,n.2.2.2.1) n.1):=pR h.x.table.2 λg hg' e=>by
  rw[pT h.x h.self hg' e];unfold bN k9;rw[hg];simp
 obtain⟨t,c,ds,e⟩:=(OnN.refl n).say (n.1,n.2.2.2.2.1,4,n.2.2.2.1) n.1;unfold lL;rw[e]at hx hn ⊢;exact⟨⟨⟨hx.me,hx.now0,hx.table,hx.site,hx.cast,hx.vs,hx.probe,hx.doubts,hx.coord,hx.places,hx.others⟩,hn,h.now1,⟨h.seq.seq,h.seq.turn⟩,h.inc,h.up⟩,rfl⟩
theorem vr {n:aa}{f:af}(h:UpN n)(hg:n.2.2.1=false)(hf:bB f):UpN (eW n f)/\(eW n f).1=n.1/\(eW n f).2.2.1=false:=by
 unfold eW;cases hc:decide (bN f (aX (aa.table n) n.1))&&decide (f.2.1<999) with
 |false=>exact⟨h,rfl,hg⟩
 |true =>
  rw[Al,decide_eq_true_eq,decide_eq_true_eq,vq h.x h.self]at hc;obtain⟨ho,hi⟩:=hc;have hle:n.2.2.2.2.1<=f.2.1:=xZ ho;have hf':=td (n:=n) h.x.me hf hi;have hx:UpX (sayOf (gq n (f.2.1+1)) (n.1,f.2.1+1,1,n.2.2.2.1) n.1):=(h.x.inc (f.2.1+1)).said hf' rfl (eM.me (n:=gq n (f.2.1+1)) h.x.me);have hn:(n.1,f.2.1+1,(1:Int),n.2.2.2.1)∈aa.table (sayOf (gq n (f.2.1+1)) (n.1,f.2.1+1,1,n.2.2.2.1) n.1):=pR (n:=gq n (f.2.1+1)) h.x.table.2 λg hg' e=>by
   rw[pT h.x h.self hg' e];exact wP (show n.2.2.2.2.1<f.2.1+1 by omega)
  obtain⟨t,c,ds,e⟩:=(OnN.refl (gq n (f.2.1+1))).say (n.1,f.2.1+1,1,n.2.2.2.1) n.1;simp only[cond_true];rw[show sayOf (gq n (f.2.1+1)) (n.1,f.2.1+1,1,n.2.2.2.1) n.1=ia (gq n (f.2.1+1)) t c ds from e]at hx hn ⊢;refine⟨⟨hx,?_,h.now1,⟨h.seq.seq,h.seq.turn⟩,hf'.2.1,h.up⟩,rfl,hg⟩;show (n.1,f.2.1+1,(if n.2.2.1=true then (4:Int) else 1),n.2.2.2.1)∈_;rw[hg];exact hn
theorem lQ (f:af)(b:Int)(d:cb):(dI f b d).1=d.1/\(dI f b d).2.1=d.2.1/\(dI f b d).2.2.1=d.2.2.1:=by
 unfold dI;cases d.1==f.1&&d.2.1==f.2.1&&f.2.2.1==2 <;> exact⟨rfl,rfl,rfl⟩
theorem UpX.conf {n:aa}(h:UpX n)(f:af){b:Int}(hb:eM n b):UpX (jL n f b):=by
 refine⟨h.me,h.now0,h.table,h.site,h.cast,h.vs,h.probe,⟨λd hd=>?_,?_,?_⟩,h.coord,h.places,h.others⟩
 ·obtain⟨d0,hd0,rfl⟩:=AY.1 hd;obtain⟨k1,k2,k3⟩:=lQ f b d0;obtain⟨⟨g,hg,e1,e2,e3⟩,h2,h3,h4⟩:=h.doubts.1 d0 hd0;refine⟨⟨g,hg,by rw[k1];exact e1,e2,by rw[k2];exact e3⟩,by rw[k3];exact h2,?_⟩;unfold dI;cases d0.1==f.1&&d0.2.1==f.2.1&&f.2.2.1==2 with
  |false=>exact⟨h3,h4⟩
  |true =>
   refine⟨Bb (a7.2 (.inl rfl)),λx hx=>?_,ew h4.2⟩;rcases a7.1 hx with rfl|⟨hx,_⟩
   ·exact hb
   ·exact h4.1 x hx
 ·show Asc _ ((aa.doubts n).map (dI f b));unfold Asc;rw[Ag];exact h.doubts.2.1.imp λ {a c} h=>by show (dI f b a).1<(dI f b c).1;rw[(lQ f b a).1,(lQ f b c).1];exact h
 ·show _=((aa.doubts n).map (dI f b)).length;rw[Ae];exact h.doubts.2.2
theorem rE {n:aa}{f:af}{b:Int}(h:UpN n)(hg:n.2.2.1=false)(hf:bB f)(hs:ar f.1=ar n.1)(hb:eM n b):UpN (dM b n f)/\(dM b n f).1=n.1/\(dM b n f).2.2.1=false:=by
 unfold dM;by_cases hne:f.1=n.1
 ·rw[show (f.1==n.1)=true by simpa using hne];exact vr h hg hf
 ·rw[show (f.1==n.1)=false by simpa using hne];have hx:=h.x.said hf hs hb;have hss:=ny h.x.table.2 (OnN.refl n) (b:=b) hne h.self;obtain⟨t,c,ds,e⟩:=(OnN.refl n).say f b;simp only[cond_false];rw[show sayOf n f b=ia n t c ds from e]at hx hss ⊢;exact⟨⟨hx.conf f hb,hss,h.now1,⟨h.seq.seq,h.seq.turn⟩,h.inc,h.up⟩,rfl,hg⟩
theorem la {n:aa}{t:List af}{b:Int}(h:UpN n)(hg:n.2.2.1=false)(ht:aB t)(hs:bX t (ar n.1))(hb:eM n b):UpN (ib n t b)/\(ib n t b).1=n.1/\(ib n t b).2.2.1=false:=by
 refine kW (st:=dM b) (Inv:=λm=>UpN m/\m.1=n.1/\m.2.2.1=false) (ds:=t) (n:=n) ⟨h,rfl,hg⟩ λm f hf ⟨h1,h2,h3⟩=>?_
 have:=rE (b:=b) h1 h3 (ht.1 f hf) (by rw[h2];exact hs f hf) ⟨hb.1,by rw[h2];exact hb.2⟩;exact⟨this.1,this.2.1.trans h2,this.2.2⟩
theorem UpN.learns {n:aa}(h:UpN n):dR n:=⟨h.x.say,h.x.me,⟨_,h.self,rfl⟩,λd hd=>by
 obtain⟨_,_,_,h4⟩:=h.x.doubts.1 d hd;exact⟨h4.2,λx hx=>(h4.1 x hx).1⟩⟩
def setO (n:aa)(o:List cB):aa:=(n.1,n.2.1,n.2.2.1,n.2.2.2.1,n.2.2.2.2.1,n.2.2.2.2.2.1,n.2.2.2.2.2.2.1,n.2.2.2.2.2.2.2.1,n.2.2.2.2.2.2.2.2.1,n.2.2.2.2.2.2.2.2.2.1,n.2.2.2.2.2.2.2.2.2.2.1,n.2.2.2.2.2.2.2.2.2.2.2.1,n.2.2.2.2.2.2.2.2.2.2.2.2.1,n.2.2.2.2.2.2.2.2.2.2.2.2.2.1,o)
theorem UpN.setOthers {n:aa}(h:UpN n){o:List cB}(ho:cN n.1 o):UpN (setO n o):=⟨⟨h.x.me,h.x.now0,h.x.table,h.x.site,h.x.cast,h.x.vs,h.x.probe,h.x.doubts,h.x.coord,h.x.places,ho⟩,h.self,h.now1,⟨h.seq.seq,h.seq.turn⟩,h.inc,h.up⟩
theorem ug {me s:Int}{all:List af}{o:List cB}(ho:cN me o)(hs:InP s 0 1)(hne:s≠ar me)(h0:all≠[])(ht:aB all)(hss:bX all s):cN me (bO (λx:cB=>x.1) (s,all) o) :=
 ⟨λx hx=>by
  rcases a7.1 hx with rfl|⟨hx,_⟩
  ·exact⟨hs,hne,h0,ht,hss⟩
  ·exact ho.1 x hx,ew ho.2⟩
def gb (l:List Int)(t:Int):List Int:=(l++[t]).drop ((l++[t]).length-3)
def dj (l:List dm)(node:Int):List Int:=((l.find? λp=>p.1==node).map (·.2.2)).getD []
def nz (l:List dm)(node:Int)(c:dc)(t:Int):List dm:=bO (λp=>p.1) (node,c,gb (dj l node) t) l
def oj (n:aa)(c:dc)(p:List dm):aa:=(n.1,n.2.1,n.2.2.1,n.2.2.2.1,n.2.2.2.2.1,n.2.2.2.2.2.1,n.2.2.2.2.2.2.1,n.2.2.2.2.2.2.2.1,n.2.2.2.2.2.2.2.2.1,n.2.2.2.2.2.2.2.2.2.1,noP,n.2.2.2.2.2.2.2.2.2.2.2.1,c,p,n.2.2.2.2.2.2.2.2.2.2.2.2.2.2)
theorem sG {l:List dm}{node:Int}{t:Int}(h:t∈dj l node):∃ p∈l,t∈p.2.2:=by
 unfold dj at h;cases hf:l.find? λp=>p.1==node with
 |none=>rw[hf]at h;simp at h
 |some p =>
  rw[hf]at h;exact⟨p,Aq hf,h⟩
theorem vt {l:List Int}{t:Int}(hl:∀ x∈l,InP x 1 60000)(ht:InP t 1 60000):InP ((gb l t).length:Int) 1 3/\∀ x∈gb l t,InP x 1 60000:=by
 unfold gb;constructor
 ·simp only[Af,AN,AG,AO];constructor <;> omega
 ·intro x hx;have:=List.mem_of_mem_drop hx;rcases An.1 this with h|h
  ·exact hl x h
  ·rw[AV.1 h];exact ht
theorem uh {me node:Int}{l:List dm}{c:dc}{t:Int}(h:dQ me l)(h0:InP node 0 7)(h1:ar node=ar me)(h2:node≠me)(hc:co c)(ht:InP t 1 60000):dQ me (nz l node c t):=by
 have h3:=vt (l:=dj l node) (t:=t) (λx hx=>by
  obtain⟨p,hp,hx⟩:=sG hx;exact (h.1 p hp).2.2.2.2.2 x hx) ht
 exact⟨λp hp=>by
  rcases a7.1 hp with rfl|⟨hp,_⟩
  ·exact⟨h0,h1,h2,hc,h3.1,h3.2⟩
  ·exact h.1 p hp,ew h.2⟩
theorem UpN.heard {n:aa}(h:UpN n){c:dc}{p:List dm}(hc:co c)(hp:dQ n.1 p):UpN (oj n c p):=⟨⟨h.x.me,h.x.now0,h.x.table,h.x.site,h.x.cast,h.x.vs,vn n,h.x.doubts,hc,hp,h.x.others⟩,h.self,h.now1,⟨h.seq.seq,h.seq.turn⟩,h.inc,h.up⟩
theorem UpN.way {n:aa}(h:UpN n):UpN (jo n):=⟨h.x.way,h.self,h.now1,⟨h.seq.seq,h.seq.turn⟩,h.inc,h.up⟩
def Tot {α:Type}(o:Option α)(P:α->Prop):Prop:=∃ v,o=some v/\P v
section
variable {α β:Type} {P:α->Prop} {Q:β->Prop}
theorem Tot.ret {v:α}(h:P v):Tot (some v) P:=⟨v,rfl,h⟩
theorem Tot.mono {o:Option α}{P':α->Prop}(h:Tot o P)(k:∀ v,P v->P' v):Tot o P':=by obtain⟨v,e,hp⟩:=h;exact⟨v,e,k v hp⟩
theorem Tot.bind {o:Option α}{g:α->Option β}(h:Tot o P)(k:∀ v,P v->Tot (g v) Q):Tot (o.bind g) Q:=by obtain⟨v,e,hp⟩:=h;rw[e];exact k v hp
theorem Tot.vl {o:Option α}{v:α}{g:α->Option β}(e:o=some v)(k:Tot (g v) Q):Tot (o.bind g) Q:=by rw[e];exact k
theorem Tot.cnd {b:Bool}{x y:Option α}(h1:b=true->Tot x P)(h2:b=false->Tot y P):Tot (bif b then x else y) P:=by
 cases b
 ·exact h2 rfl
 ·exact h1 rfl
theorem Tot.must {b:Bool}{x y:Option α}(hb:b=true)(h:Tot x P):Tot (bif b then x else y) P:=by rw[hb];exact h
theorem Tot.not {b:Bool}{x y:Option α}(hb:b=false)(h:Tot x P):Tot (bif b then y else x) P:=by rw[hb];exact h
theorem Tot.ix {xs:List α}{i:Int}{g:α->Option β}(h0:0<=i)(h1:i<xs.length)(k:∀ y∈xs,idx xs i=some y->Tot (g y) Q):Tot ((idx xs i).bind g) Q:=by
 obtain⟨n,rfl⟩:=AE h0;have h2:n<xs.length:=by omega
 have:=ah h2;rw[this];exact k _ (AD h2) this
theorem Tot.iter {A:Type}{step:(A->Option β)->A->Option β}(Inv:A->Prop)(m:A->Nat)(h:∀ (rec:A->Option β) (a:A),Inv a->(∀ a',Inv a'->m a'<m a->Tot (rec a') Q)->Tot (step rec a) Q):∀ (k:Nat) (a:A),m a<k->Inv a->Tot (ae step k a) Q:=by
 intro k;induction k with
 |zero=>intro a hk;omega
 |succ k ih =>
  intro a hk ha;exact h (ae step k) a ha λa' ha' hlt=>ih a' (by omega) ha'
end
theorem Ret.tot {o:Option RB}{P:Prop}(h:Ret o P):Tot o λv=>(v.1.1=true<->P):=by
 obtain⟨b,e,hb⟩:=h;exact⟨_,e,hb⟩
section
variable {α β:Type} {Q:β->Prop}
theorem Tot.cat {x y:ByteArray}{k:ByteArray->Option β}{a b:Nat}(hx:x.size<=a)(hy:y.size<=b)(h:∀ z:ByteArray,z.size<=a+b->Tot (k z) Q)(hb:a+b<=4611686018427387904:=by omega):Tot (aU x y k) Q:=by
 unfold aU;rw[decide_eq_true (by omega)];exact h _ (by rw[ByteArray.size_append];omega)
theorem Tot.fit {a b c:Nat}{x y:Option β}(h:Tot x Q)(hc:c<=1000:=by omega)(hab:a+b<=2097152:=by omega):Tot (bif decide ((a+b)*c<=aj) then x else y) Q:=by
 have:=BJ hab hc;rw[decide_eq_true (by unfold aj;omega)];exact h
theorem Tot.ix2 {xs:List α}{i:Int}{g:α->Option β}(h0:0<=i)(h1:i<xs.length)(k:∀ y∈xs,idx xs i=some y->Tot (g y) Q):Tot ((idx xs i).bind λ_=>(idx xs ((AC i:Nat):Int)).bind g) Q :=
 Tot.ix h0 h1 λy hy e=>by rw[Int.toNat_of_nonneg h0,e];exact k y hy e
end
theorem eY (s:ByteArray):s.data.toList.length=s.size:=Array.length_toList
theorem gT (xs:List Int):(fK xs).size=xs.length:=by
 unfold fK;show (List.toArray _).size=_;rw[List.size_toArray,Ae]
theorem pU (s:ByteArray):(dP s).length=s.size:=by
 unfold dP;rw[Ae];exact eY s
theorem dec_t:∀ (d k:Nat) (n:Int),0<=n->n<10 ^ (d+1)->n<=1000000000->d<=100->d<k->Tot (Q1.f k (n,())) λr=>r.1.1.size<=d+1:=by
 intro d;induction d with
 |zero =>
  intro k n h0 h1 h2 hd hk;obtain⟨k,rfl⟩:∃ m,k=m+1:=⟨k-1,by omega⟩;show Tot (Q1.step (Q1.f k) (n,())) _;simp only[Q1.step];refine Tot.not (decide_eq_false (show ¬ n< -9223372036854775807 by omega)) (Tot.not (decide_eq_false (show ¬ n<0 by omega)) (Tot.must (decide_eq_true (show n<10 by exact h1)) (Tot.ret ?_)));show (fK _).size<=1;rw[gT];exact AX _
 |succ d ih =>
  intro k n h0 h1 h2 hd hk;obtain⟨k,rfl⟩:∃ m,k=m+1:=⟨k-1,by omega⟩;show Tot (Q1.step (Q1.f k) (n,())) _;simp only[Q1.step];refine Tot.not (decide_eq_false (show ¬ n< -9223372036854775807 by omega)) (Tot.not (decide_eq_false (show ¬ n<0 by omega)) (Tot.cnd (λ_=>Tot.ret ?_) λh=>?_))
  ·show (fK _).size<=_;rw[gT];exact Nat.succ_le_succ (Aj _)
  ·have h:¬ n<10:=of_decide_eq_false h;have e:BB n 10=n / 10:=by rw[Ai h0]
   have e10:(10:Int) ^ (d+1+1)=10 ^ (d+1)*10:=Int.pow_succ ..;have hq:n / 10<10 ^ (d+1):=Int.ediv_lt_of_lt_mul (by omega) (by rw[<- e10];exact h1);rw[e,aM (by omega) (by omega)];refine Tot.bind (ih k (n / 10) (by omega) hq (by omega) (by omega) (by omega)) λv hv=>Tot.cat hv (b:=1) (by rw[gT];exact AX _) (λz hz=>Tot.ret hz) (by omega)
theorem j5 (K:Nat)(n:Int)(h0:0<=n)(h1:n<=999999)(hK:1048577<K):Tot (Q1.f K (n,())) λr=>r.1.1.size<=6 :=
 dec_t 5 K n h0 (by show n<1000000;omega) (by omega) (by omega) (by omega)
theorem rF (K:Nat)(i:Int)(h0:0<=i)(h1:i<=4):Tot (Q68.f K (i,())) λr=>r.1.1.size<=7:=by
 have:i=0\/i=1\/i=2\/i=3\/i=4:=by omega
 rcases this with rfl|rfl|rfl|rfl|rfl <;> exact⟨_,rfl,by decide⟩
theorem rG (K:Nat)(i:Int)(h0:0<=i)(h1:i<=6):Tot (Q66.f K (i,())) λr=>r.1.1.size<=4:=by
 have:i=0\/i=1\/i=2\/i=3\/i=4\/i=5\/i=6:=by omega
 rcases this with rfl|rfl|rfl|rfl|rfl|rfl|rfl <;> exact⟨_,rfl,by decide⟩
theorem wR (K:Nat)(t:List af)(hT:aB t)(hK:1048577<K):Tot (Q69.f K (t,())) λr=>r.1.1.size<=240:=by
 have hl:=gP hT.2 (λg hg=>(hT.1 g hg).1);refine Tot.iter (step:=λrec a=>Q69.l0.step K (t,()) rec a) (λa=>0<=a.2/\a.2<=t.length/\(a.1.size:Int)<=30*a.2) (λa=>t.length-a.2.toNat) ?_ K _ (by show t.length-AC 0<K;omega) ⟨by show (0:Int)<=0;omega,by show (0:Int)<=_;omega,by show (0:Int)<=30*0;omega⟩;rintro rec ⟨s,i⟩ ⟨h0,h1,h2⟩ ih;simp only at h0 h1 h2 ih ⊢;simp only[Q69.l0.step];refine Tot.cnd (λh=>?_) λh=>?_
 ·have h:=of_decide_eq_true h;obtain⟨n,rfl⟩:=AE h0;have hn:n<t.length:=by omega
  obtain⟨⟨f1,f2⟩,⟨f3,f4⟩,f5,f6⟩:=hT.1 t[n] (AD hn);rw[ah hn,aw n (by omega)];simp only[AA];have go:∀ z:ByteArray,z.size<=s.size+29->Tot (rec (z,((n+1:Nat):Int))) λr=>r.1.1.size<=240:=λz hz=>ih _ ⟨by show (0:Int)<=((n+1:Nat):Int);omega,by show ((n+1:Nat):Int)<=_;omega,by show (z.size:Int)<=30*((n+1:Nat):Int);omega⟩ (by show t.length-AC ((n+1:Nat):Int)<t.length-AC (n:Int);omega)
  have body:∀ z0:ByteArray,z0.size<=s.size+1->Tot ((Q1.f K (t[n].1,())).bind λy3=>aU z0 y3.1.1 λy4=>aU y4 (ByteArray.mk #[58]) λy5=>(Q1.f K (t[n].2.1,())).bind λy7=>aU y5 y7.1.1 λy8=>aU y8 (ByteArray.mk #[58]) λy9=>(Q68.f K (t[n].2.2.1,())).bind λy11=>aU y9 y11.1.1 λy12=>bif t[n].2.2.2 then (aU y12 (ByteArray.mk #[42]) λy14=>rec (y14,((n+1:Nat):Int))) else (rec (y12,((n+1:Nat):Int)))) λr=>r.1.1.size<=240:=λz0 hz0 =>
   Tot.bind (j5 K _ f1 (by omega) hK) λv1 s1=>Tot.cat hz0 s1 λz1 hz1=>Tot.cat hz1 (b:=1) (by decide) λz2 hz2 =>
   Tot.bind (j5 K _ f3 (by omega) hK) λv2 s2=>Tot.cat hz2 s2 λz3 hz3=>Tot.cat hz3 (b:=1) (by decide) λz4 hz4 =>
   Tot.bind (rF K _ (by omega) f6) λv3 s3=>Tot.cat hz4 s3 λz5 hz5 =>
   Tot.cnd (λ_=>Tot.cat hz5 (b:=1) (by decide) λz6 hz6=>go z6 (by omega)) λ_=>go z5 (by omega)
  exact Tot.cnd (λ_=>Tot.cat (AX _) (b:=1) (by decide) λz hz=>body z hz) λ_=>body s (by omega)
 ·have h:=of_decide_eq_false h;exact Tot.ret (by show s.size<=240;omega)
theorem mU (K:Nat)(t:List af)(ht:t.length<=1048576)(hK:1048577<K):Tot (Q70.f K (t,())) λr=>r.1.1.size<=240:=by
 simp only[Q70.f];refine Tot.bind (fv K t ht hK).tot λv hv=>Tot.cnd (λ_=>Tot.ret (by show (0:Nat)<=240;omega)) λh=>?_
 have hT:=hv.1 (by simpa using h);exact Tot.cnd (λ_=>Tot.ret (by show (1:Nat)<=240;omega)) λ_=>Tot.bind (wR K t hT hK) λv h=>Tot.ret h
theorem ol (K:Nat)(n:Int)(h0:-999999<=n)(h1:n<=999999)(hK:1048577<K):Tot (Q67.f K (n,())) λr=>r.1.1.size<=7:=by
 simp only[Q67.f];refine Tot.cnd (λh=>?_) λh=>?_
 ·have h:n<0:=of_decide_eq_true h;rw[aM (by omega) (by omega)];exact Tot.bind (j5 K _ (by omega) (by omega) hK) λv s=>Tot.cat (a:=1) (by decide) s λz hz=>Tot.ret hz
 ·have h:¬ n<0:=of_decide_eq_false h;exact Tot.bind (j5 K _ (by omega) (by omega) hK) λv s=>Tot.cat (a:=1) (by decide) s λz hz=>Tot.ret hz
theorem wS (K:Nat)(w:av)(hw:gO w)(hK:1048577<K):Tot (Q71.f K (w,())) λr=>r.1.1.size<=400:=by
 obtain⟨_,⟨a1,a2⟩,⟨b1,b2⟩,⟨c1,c2⟩,⟨d1,d2⟩,⟨e1,e2⟩,⟨⟨x1,x2⟩,⟨y1,y2⟩,⟨z1,z2⟩,⟨u1,u2⟩⟩,hT,_⟩:=hw;have ht:=cK hT;simp only[Q71.f];have sp:(ByteArray.mk #[32]).size<=1:=by decide
 refine Tot.cnd (λ_=>?_) λ_=>?_ <;>
 exact Tot.cat (a:=3) (by decide) sp λ_ h=>Tot.bind (rG K _ (by omega) a2) λ_ s=>Tot.cat h s λ_ h=>Tot.cat h sp λ_ h =>
  Tot.bind (j5 K _ b1 (by omega) hK) λ_ s=>Tot.cat h s λ_ h=>Tot.cat h sp λ_ h =>
  Tot.bind (j5 K _ c1 (by omega) hK) λ_ s=>Tot.cat h s λ_ h=>Tot.cat h sp λ_ h =>
  Tot.bind (j5 K _ d1 (by omega) hK) λ_ s=>Tot.cat h s λ_ h=>Tot.cat h sp λ_ h =>
  Tot.bind (j5 K _ e1 (by omega) hK) λ_ s=>Tot.cat h s λ_ h=>Tot.cat h sp λ_ h =>
  Tot.bind (ol K _ (by show -999999<=(av.coord w).1;omega) (by show (av.coord w).1<=999999;omega) hK) λ_ s=>Tot.cat h s λ_ h=>Tot.cat h sp λ_ h =>
  Tot.bind (ol K _ (by show -999999<=(av.coord w).2.1;omega) (by show (av.coord w).2.1<=999999;omega) hK) λ_ s=>Tot.cat h s λ_ h=>Tot.cat h sp λ_ h =>
  Tot.bind (j5 K _ z1 (by show (av.coord w).2.2.1<=999999;omega) hK) λ_ s=>Tot.cat h s λ_ h=>Tot.cat h sp λ_ h =>
  Tot.bind (j5 K _ (by show 0<=(av.coord w).2.2.2;omega) (by show (av.coord w).2.2.2<=999999;omega) hK) λ_ s=>Tot.cat h s λ_ h=>Tot.cat h sp λ_ h =>
  Tot.bind (mU K _ ht hK) λ_ s=>Tot.cat h s λ_ h=>Tot.ret (Ah h (by decide))
theorem wT (K:Nat)(n:Int)(hK:1048577<K):Tot (Q73.f K (n,())) λ_=>True:=by
 refine Tot.iter (step:=λrec a=>Q73.l0.step K (n,()) rec a) (λa=>0<=a.2/\a.2<=8) (λa=>8-a.2.toNat) ?_ K _ (by show 8-AC 0<K;omega) ⟨by show (0:Int)<=0;omega,by show (0:Int)<=8;omega⟩;rintro rec ⟨s,i⟩ ⟨h0,h1⟩ ih;simp only at h0 h1 ih ⊢;simp only[Q73.l0.step];obtain⟨i,rfl⟩:=AE h0;refine Tot.cnd (λh=>?_) λ_=>Tot.ret trivial
 have h:=of_decide_eq_true h;rw[aw i (by omega)];have go:∀ z:Int,Tot (rec (z,((i+1:Nat):Int))) λ_=>True:=λz=>ih _ ⟨by show (0:Int)<=((i+1:Nat):Int);omega,by show ((i+1:Nat):Int)<=8;omega⟩ (by show 8-AC ((i+1:Nat):Int)<8-AC (i:Int);omega)
 exact Tot.cnd (λ_=>go _) λ_=>go _
theorem x3 (K:Nat)(s:ByteArray)(hs:s.size<=1000000)(hK:1048577<K):Tot (Q74.f K (s,())) λ_=>True:=by
 refine Tot.iter (step:=λrec a=>Q74.l0.step K (s,()) rec a) (λa=>0<=a.2/\a.2<=s.size) (λa=>s.size-a.2.toNat) ?_ K _ (by show s.size-AC 0<K;omega) ⟨by show (0:Int)<=0;omega,by show (0:Int)<=_;omega⟩;rintro rec ⟨z,i⟩ ⟨h0,h1⟩ ih;simp only at h0 h1 ih ⊢;simp only[Q74.l0.step];obtain⟨i,rfl⟩:=AE h0;refine Tot.cnd (λh=>?_) λ_=>Tot.ret trivial
 have h:=of_decide_eq_true h;rw[aw i (by omega)];exact Tot.ix h0 (by rw[eY];exact h) λy _ _=>Tot.bind (wT K _ hK) λv _=>ih _ ⟨by show (0:Int)<=((i+1:Nat):Int);omega,by show ((i+1:Nat):Int)<=_;omega⟩ (by show s.size-AC ((i+1:Nat):Int)<s.size-AC (i:Int);omega)
theorem hex_t (K:Nat)(n:Int)(hK:1048577<K):Tot (Q72.f K (n,())) λr=>r.1.1.size<=8:=by
 refine Tot.iter (step:=λrec a=>Q72.l0.step K (n,()) rec a) (λa=>-1<=a.2/\a.2<=7/\a.1.length=7-a.2) (λa=>(a.2+1).toNat) ?_ K _ (by show AC 8<K;omega) ⟨by show (-1:Int)<=7;omega,by show (7:Int)<=7;omega,by show (0:Int)=7-7;omega⟩;rintro rec ⟨z,i⟩ ⟨h0,h1,h2⟩ ih;simp only at h0 h1 h2 ih ⊢;simp only[Q72.l0.step];refine Tot.cnd (λh=>?_) λh=>?_
 ·have h:=of_decide_eq_true h;rw[aM (n:=4*i) (by omega) (by omega),aM (n:=i-1) (by omega) (by omega)];obtain⟨b0,b1⟩:=kx (a:=Am n (2 ^ min (AC (4*i)) 64)) (m:=15) (by omega);refine Tot.not (decide_eq_false (by omega)) (Tot.ix b0 (Int.lt_of_le_of_lt b1 (by decide)) λy _ _=>Tot.fit ?_ (by omega) (by simp only[AG,AO];omega));exact ih _ ⟨by show -1<=i-1;omega,by show i-1<=7;omega,by show ((z++[_]).length:Int)=7-(i-1);rw[AN,Az];omega⟩ (by show AC (i-1+1)<AC (i+1);omega)
 ·have h:=of_decide_eq_false h;refine Tot.ret ?_;show (fK z).size<=8;rw[gT];omega
theorem mV (K:Nat)(w:av)(hw:(av.table w).length<=1048576)(hK:1048577<K):Tot (Q75.f K (w,())) λr=>r.1.1.size<=409/\(¬ gO w->r.1.1=ByteArray.mk #[]):=by
 simp only[Q75.f];refine Tot.bind (ra K w hw hK).tot λv hv=>Tot.cnd (λ_=>Tot.ret ⟨by show (0:Nat)<=409;omega,λ_=>rfl⟩) λh=>?_
 have hP:=hv.1 (by simpa using h);exact Tot.bind (wS K w hP hK) λb hb=>Tot.cat hb (b:=1) (by decide) λz hz=>Tot.bind (x3 K _ (by omega) hK) λs _=>Tot.bind (hex_t K _ hK) λx hx=>Tot.cat hz hx λz hz=>Tot.ret ⟨hz,λh=>absurd hP h⟩
theorem ui (K:Nat)(s:ByteArray)(c:Int)(hs:s.size<=100000)(hK:1048577<K):Tot (Q84.f K (s,c,())) λr=>r.1.1.length<=s.size+1/\∀ p∈r.1.1,p.size<=s.size:=by
 have hex:∀ i j:Nat,(s.extract i j).size<=s.size:=λi j=>by rw[BD];omega
 refine Tot.iter (step:=λrec a=>Q84.l0.step K (s,c,()) rec a) (λa=>0<=a.2.1/\a.2.1<=a.2.2/\a.2.2<=s.size/\a.1.length<=a.2.2/\∀ p∈a.1,p.size<=s.size) (λa=>s.size-a.2.2.toNat) ?_ K _ (by show s.size-AC 0<K;omega) ⟨by show (0:Int)<=0;omega,by show (0:Int)<=0;omega,by show (0:Int)<=_;omega,by show (0:Int)<=0;omega,λp hp=>by cases hp⟩;rintro rec ⟨out,from_,i⟩ ⟨h0,h1,h2,h3,h4⟩ ih;simp only at h0 h1 h2 h3 h4 ih ⊢;simp only[Q84.l0.step];obtain⟨i,rfl⟩:=AE (BC h0 h1);have app:∀ x:ByteArray,x.size<=s.size->∀ p∈out++[x],p.size<=s.size:=λx hx p hp=>by
  rcases An.1 hp with h|h
  ·exact h4 p h
  ·rw[AV.1 h];exact hx
 refine Tot.cnd (λh=>?_) λh=>?_
 ·have h:=of_decide_eq_true h;rw[aw i (by omega)];refine Tot.ix (BC h0 h1) (by rw[eY];exact h) λy _ _=>Tot.cnd (λ_=>Tot.must (by rw[decide_eq_true h0,decide_eq_true h1,decide_eq_true h2];rfl) (Tot.fit (ih _ ⟨?_,?_,?_,?_,app _ (hex _ _)⟩ ?_) (by omega) (by simp only[AG,AO];omega))) λ_=>ih _ ⟨h0,?_,?_,?_,h4⟩ ?_
  ·show (0:Int)<=((i+1:Nat):Int);omega
  ·show ((i+1:Nat):Int)<=((i+1:Nat):Int);omega
  ·show ((i+1:Nat):Int)<=s.size;omega
  ·show ((out++[_]).length:Int)<=((i+1:Nat):Int);rw[AN,Az];omega
  ·show s.size-AC ((i+1:Nat):Int)<s.size-AC (i:Int);omega
  ·show from_<=((i+1:Nat):Int);omega
  ·show ((i+1:Nat):Int)<=s.size;omega
  ·show (out.length:Int)<=((i+1:Nat):Int);omega
  ·show s.size-AC ((i+1:Nat):Int)<s.size-AC (i:Int);omega
 ·refine Tot.must (by rw[decide_eq_true h0,decide_eq_true (by omega),decide_eq_true (Ab _)];rfl) (Tot.fit (Tot.ret ⟨?_,app _ (hex _ _)⟩) (by omega) (by simp only[AG,AO];omega));show (out++[_]).length<=_;rw[AN,Az];omega
theorem iR (K:Nat)(s:ByteArray)(hs:s.size<=100000)(hK:1048577<K):Tot (Q85.f K (s,())) λ_=>True:=by
 simp only[Q85.f,Q85.pre];have loop:((s.size:Int)<=6)->Tot (Q85.l0 K (s,()) (0,0)) λ_=>True:=λh6=>by
  refine Tot.iter (step:=λrec a=>Q85.l0.step K (s,()) rec a) (λa=>0<=a.2/\a.2<=s.size) (λa=>s.size-a.2.toNat) ?_ K _ (by show s.size-AC 0<K;omega) ⟨by show (0:Int)<=0;omega,by show (0:Int)<=_;omega⟩;rintro rec ⟨z,i⟩ ⟨h0,h1⟩ ih;simp only at h0 h1 ih ⊢;simp only[Q85.l0.step];obtain⟨i,rfl⟩:=AE h0;refine Tot.cnd (λh=>?_) λ_=>Tot.ret trivial
  have h:=of_decide_eq_true h;have hd:((i:Nat):Int)<s.data.toList.length:=by rw[eY];exact h
  rw[aw i (by omega)];exact Tot.ix h0 hd λy _ _=>Tot.cnd (λ_=>Tot.ret trivial) λ_=>Tot.ix h0 hd λy _ _=>Tot.cnd (λ_=>Tot.ret trivial) λ_=>Tot.ix h0 hd λy _ _=>ih _ ⟨by show (0:Int)<=((i+1:Nat):Int);omega,by show ((i+1:Nat):Int)<=_;omega⟩ (by show s.size-AC ((i+1:Nat):Int)<s.size-AC (i:Int);omega)
 refine Tot.bind (ch K _ _ _).tot λv hv=>Tot.cnd (λ_=>Tot.ret trivial) λh=>?_
 have h16:=hv.1 (by simpa using h);exact Tot.cnd (λh=>Tot.ix (by omega) (by rw[eY];have:=of_decide_eq_true h;omega) λy _ _=>Tot.cnd (λ_=>Tot.ret trivial) λ_=>loop h16.2) λ_=>loop h16.2
theorem tg (K:Nat)(s:ByteArray)(hs:s.size<=100000)(hK:1048577<K):Tot (Q86.f K (s,())) λ_=>True:=by
 simp only[Q86.f];refine Tot.cnd (λ_=>Tot.ret trivial) λh=>?_
 have h:=of_decide_eq_false h;have hd:(0:Int)<s.data.toList.length:=by rw[eY];omega
 have rest:Tot (bif decide ((0:Int)<=1)&&decide ((1:Int)<=(s.size:Int))&&decide ((s.size:Int)<=(s.size:Int)) then ((Q85.f K (s.extract (AC 1) (AC (s.size:Int)),())).bind λy5=>bif decide (y5.1.1<0) then (some (((-1),false,()),())) else (bif s.toList==(ByteArray.mk #[45,48]).toList then (some (((-1),false,()),())) else ((idx s.data.toList 0).bind λy6=>bif (y6.toNat:Int)==45 then (some ((wr .i64 (0-y5.1.1),true,()),())) else (some ((y5.1.1,true,()),()))))) else none) λ (_:(Int×Bool×Unit)×Unit)=>True :=
  Tot.must (by rw[decide_eq_true (by omega:(0:Int)<=1),decide_eq_true (by omega:(1:Int)<=s.size),decide_eq_true (Ab _)];rfl) (Tot.bind (iR K _ (by rw[BD];omega) hK) λv _=>Tot.cnd (λ_=>Tot.ret trivial) λ_=>Tot.cnd (λ_=>Tot.ret trivial) λ_=>Tot.ix (by omega) hd λy _ _=>Tot.cnd (λ_=>Tot.ret trivial) λ_=>Tot.ret trivial)
 exact Tot.ix (by omega) hd λy _ _=>Tot.cnd (λ_=>Tot.ix (by omega) hd λy _ _=>Tot.cnd (λ_=>Tot.ret trivial) λ_=>rest) λ_=>rest
theorem x4 (K:Nat)(s:ByteArray)(hs:s.size<=100000)(hK:1048577<K):Tot (Q87.f K (s,())) λ_=>True:=by
 simp only[Q87.f,Q87.pre];have loop:∀ (xs:List ByteArray) (n1 n2:Int) (b:Bool),xs.length=3->Tot (Q87.l0 K (s,()) (xs,1,n1,n2,0,b)) λ_=>True:=λxs n1 n2 b hx=>by
  refine Tot.iter (step:=λrec a=>Q87.l0.step K (s,()) rec a) (λa=>a.1.length=3/\1<=a.2.1/\a.2.1<=5) (λa=>5-a.2.1.toNat) ?_ K _ (by show 5-AC 1<K;omega) ⟨hx,by show (1:Int)<=1;omega,by show (1:Int)<=5;omega⟩;rintro rec ⟨ys,i,m1,m2,m3,m4⟩ ⟨h0,h1,h2⟩ ih;simp only at h0 h1 h2 ih ⊢;simp only[Q87.l0.step];refine Tot.cnd (λh=>?_) λ_=>Tot.bind (kU K _).tot λ_ _=>Tot.ret trivial
  have h:=of_decide_eq_true h;rw[aM (n:=i+1) (by omega) (by omega)];have go:∀ m:Int,Tot (rec (ys,i+1,m1,m2,m,m4)) λ_=>True:=λm=>ih _ ⟨h0,by show 1<=i+1;omega,by show i+1<=5;omega⟩ (by show 5-AC (i+1)<5-AC i;omega)
  exact Tot.bind (rF K i (by omega) h) λv _=>Tot.ix2 (by omega) (by omega) λy _ _=>Tot.cnd (λ_=>go _) λ_=>go _
 have rest:∀ (z:ByteArray) (b:Bool),z.size<=s.size->Tot ((Q84.f K (z,58,())).bind λy13=>bif (AB y13.1.1:Int) != 3 then (some (((0,(0,(0,b))),false,()),())) else ((idx y13.1.1 0).bind λ_=>(idx y13.1.1 (AC 0:Nat)).bind λy15=>(Q85.f K (y15,())).bind λy16=>(idx y13.1.1 1).bind λ_=>(idx y13.1.1 (AC 1:Nat)).bind λy18=>(Q85.f K (y18,())).bind λy19=>Q87.l0 K (s,()) (y13.1.1,1,y16.1.1,y19.1.1,0,b))) λ_=>True:=λz b hz =>
  Tot.bind (ui K z 58 (by omega) hK) λv ⟨_,hp⟩=>Tot.cnd (λ_=>Tot.ret trivial) λh=>by
   have h3:(v.1.1.length:Int)=3:=by simpa using h
   exact Tot.ix2 (by omega) (by omega) λy hy _=>Tot.bind (iR K y (by have:=hp y hy;omega) hK) λ_ _=>Tot.ix2 (by omega) (by omega) λy hy _=>Tot.bind (iR K y (by have:=hp y hy;omega) hK) λ_ _=>loop _ _ _ _ (by omega)
 refine Tot.cnd (λh=>?_) λ_=>rest s false (AX _)
 have h:=of_decide_eq_true h;rw[aM (n:=(s.size:Int)-1) (by omega) (by omega)];exact Tot.ix (by omega) (by rw[eY];omega) λy _ _=>Tot.cnd (λ_=>Tot.must (by simp only[Al,decide_eq_true_eq];omega) (rest _ true (by rw[BD];omega))) λ_=>rest s false (AX _)
theorem x5 (K:Nat)(s:ByteArray)(hs:s.size<=100000)(hK:1048577<K):Tot (Q88.f K (s,())) λr=>r.1.1.length<=100001:=by
 simp only[Q88.f,Q88.pre];refine Tot.cnd (λ_=>Tot.ret (by show (0:Nat)<=_;omega)) λ_=>Tot.bind (ui K s 44 hs hK) ?_
 rintro⟨⟨xs,⟨⟩⟩,⟨⟩⟩ ⟨hl,hp⟩;dsimp only at hl hp ⊢;refine Tot.iter (step:=λrec a=>Q88.l0.step K (s,()) rec a) (λa=>a.2.1=xs/\0<=a.2.2/\a.2.2<=xs.length/\(a.1.length:Int)<=a.2.2) (λa=>xs.length-a.2.2.toNat) ?_ K _ (by show xs.length-AC 0<K;omega) ⟨rfl,by show (0:Int)<=0;omega,by show (0:Int)<=_;omega,by show (0:Int)<=0;omega⟩;rintro rec ⟨out,ys,i⟩ ⟨rfl,h0,h1,h2⟩ ih;simp only at h0 h1 h2 hl hp ih ⊢;simp only[Q88.l0.step];obtain⟨i,rfl⟩:=AE h0;refine Tot.cnd (λh=>?_) λ_=>Tot.ret (by show out.length<=_;omega)
 have h:=of_decide_eq_true h;rw[aw i (by omega)];exact Tot.ix2 h0 h λy hy _=>Tot.bind (x4 K y (by have:=hp y hy;omega) hK) λv _=>Tot.cnd (λ_=>Tot.ret (by show (0:Nat)<=_;omega)) λ_=>Tot.fit (ih _ ⟨rfl,by show (0:Int)<=((i+1:Nat):Int);omega,by show ((i+1:Nat):Int)<=_;omega,by show ((out++[_]).length:Int)<=((i+1:Nat):Int);rw[AN,Az];omega⟩ (by show ys.length-AC ((i+1:Nat):Int)<ys.length-AC (i:Int);omega)) (by omega) (by simp only[AG,AO];omega)
theorem x6 (K:Nat)(s:ByteArray)(hs:s.size<=100000)(hK:1048577<K):Tot (Q89.f K (s,())) λr=>r.1.1.length<=100001:=by
 simp only[Q89.f];exact Tot.bind (x5 K s hs hK) λv hv=>Tot.cnd (λ_=>Tot.ret (by show (0:Nat)<=_;omega)) λ_=>Tot.bind (mU K _ (by omega) hK) λx _=>Tot.cnd (λ_=>Tot.ret (by show (0:Nat)<=_;omega)) λ_=>Tot.ret hv
theorem om (K:Nat)(s:ByteArray)(hs:s.size<=100000)(hK:1048577<K):Tot (Q90.f K (s,())) λr=>r.1.2.1=true->gO r.1.1:=by
 simp only[Q90.f,Q90.pre];refine Tot.bind (ui K s 32 hs hK) ?_;rintro⟨⟨xs,⟨⟩⟩,⟨⟩⟩ ⟨hl,hp⟩;dsimp only at hl hp ⊢;refine Tot.cnd (λ_=>Tot.ret λh=>by cases h) λ_=>Tot.cnd (λ_=>Tot.ret λh=>by cases h) λh=>?_
 have h12:(xs.length:Int)=12:=by simpa using h
 have hsz:∀ y∈xs,y.size<=100000:=λy hy=>Ah (hp y hy) hs
 have loop:∀ p:Int,Tot (Q90.l0 K (s,()) (xs,1,p,0)) λr=>r.1.2.1=true->gO r.1.1:=λp=>by
  refine Tot.iter (step:=λrec a=>Q90.l0.step K (s,()) rec a) (λa=>a.1=xs/\1<=a.2.1/\a.2.1<=7) (λa=>7-a.2.1.toNat) ?_ K _ (by show 7-AC 1<K;omega) ⟨rfl,by show (1:Int)<=1;omega,by show (1:Int)<=7;omega⟩;rintro rec ⟨ys,i,p,k⟩ ⟨rfl,h1,h2⟩ ih;simp only at h1 h2 hl h12 hsz ih ⊢;simp only[Q90.l0.step];refine Tot.cnd (λh=>?_) λ_=>?_
  ·have h:=of_decide_eq_true h;rw[aM (n:=i+1) (by omega) (by omega)];have go:∀ m:Int,Tot (rec (ys,i+1,p,m)) λr=>r.1.2.1=true->gO r.1.1:=λm=>ih _ ⟨rfl,by show 1<=i+1;omega,by show i+1<=7;omega⟩ (by show 7-AC (i+1)<7-AC i;omega)
   exact Tot.bind (rG K i (by omega) h) λv _=>Tot.ix2 (by omega) (by omega) λy _ _=>Tot.cnd (λ_=>go _) λ_=>go _
  ·refine Tot.ix2 (by omega) (by omega) λy hy _=>Tot.bind (iR K y (hsz y hy) hK) λ_ _=>Tot.ix2 (by omega) (by omega) λy hy _=>Tot.bind (iR K y (hsz y hy) hK) λ_ _=>Tot.ix2 (by omega) (by omega) λy hy _=>Tot.bind (iR K y (hsz y hy) hK) λ_ _=>Tot.ix2 (by omega) (by omega) λy hy _=>Tot.bind (iR K y (hsz y hy) hK) λ_ _ =>
    Tot.ix2 (by omega) (by omega) λy hy _=>Tot.bind (tg K y (hsz y hy) hK) λ_ _=>Tot.ix2 (by omega) (by omega) λy hy _=>Tot.bind (tg K y (hsz y hy) hK) λ_ _=>Tot.ix2 (by omega) (by omega) λy hy _=>Tot.bind (x6 K y (hsz y hy) hK) λt ht=>Tot.ix2 (by omega) (by omega) λy hy _=>Tot.bind (iR K y (hsz y hy) hK) λ_ _=>Tot.ix2 (by omega) (by omega) λy hy _=>Tot.bind (iR K y (hsz y hy) hK) λ_ _ =>
    Tot.cnd (λ_=>Tot.ret λh=>by cases h) λ_=>Tot.cnd (λ_=>Tot.ret λh=>by cases h) λ_=>Tot.cnd (λ_=>Tot.ret λh=>by cases h) λ_=>Tot.bind (mV K _ (by show t.1.1.length<=1048576;omega) hK) λx ⟨_,hx⟩=>Tot.cnd (λ_=>Tot.ret λh=>by cases h) λhne=>Tot.ret λ_=>?_
   refine A7 λhn=>?_
   rw[hx hn]at hne;have he:(ByteArray.mk #[]).toList=s.toList:=by
    have:((ByteArray.mk #[]).toList != s.toList)=false:=hne;simpa using this
   rw[BX,BX]at he;have h0:=congrArg AB he;rw[eY,eY]at h0;have h1:(ByteArray.mk #[]).size=0:=rfl;omega
 exact Tot.ix2 (by omega) (by omega) λy _ _=>Tot.cnd (λ_=>loop 2) λ_=>loop 1
def Rt (v r:Nat):Prop:=r*r<=v/\v<(r+1)*(r+1)
theorem yZ (K:Nat)(v:Nat)(hv:v<1500000001*1500000001)(hK:1048577<K):∃ r,Rt v r/\Q115.f K ((v:Int),())=some (((r:Int),()),()):=by
 have key:∀ (e k l h:Nat),h-l<2 ^ e->e<k->l<=h->h<=1500000000->l*l<=v->v<(h+1)*(h+1)->∃ r,Rt v r/\ae (λrec a=>Q115.l0.step K ((v:Int),()) rec a) k ((l:Int),(h:Int))=some (((r:Int),()),()):=by
  intro e;induction e with
  |zero =>
   intro k l h h1 hk hlh hh h2 h3;obtain⟨k,rfl⟩:∃ k',k=k'+1:=⟨k-1,by omega⟩;have:l=h:=by omega
   subst this;refine⟨l,⟨h2,h3⟩,?_⟩;show Q115.l0.step K _ _ _=_;simp only[Q115.l0.step];rw[decide_eq_false (by omega)];rfl
  |succ e ih =>
   intro k l h h1 hk hlh hh h2 h3;obtain⟨k,rfl⟩:∃ k',k=k'+1:=⟨k-1,by omega⟩;show ∃ r,Rt v r/\Q115.l0.step K _ _ _=_;simp only[Q115.l0.step];by_cases hl:l<h
   ·rw[decide_eq_true (show (l:Int)<(h:Int) by omega)];have e1:wr .i64 ((l:Int)+(h:Int))=(l:Int)+h:=aM (by omega) (by omega);have e2:wr .i64 ((l:Int)+(h:Int)+1)=((l+h+1:Nat):Int):=(aM (by omega) (by omega)).trans (by omega);have e3:BB ((l+h+1:Nat):Int) 2=(((l+h+1) / 2:Nat):Int):=by
     rw[Ai (by omega)];omega
    rw[e1,e2,e3];have hm:l<(l+h+1) / 2/\(l+h+1) / 2<=h:=by omega
    have hw:h-(l+h+1) / 2<2 ^ e/\(l+h+1) / 2-1-l<2 ^ e:=by
     rw[Nat.pow_succ]at h1;omega
    generalize (l+h+1) / 2=m at *;have e4:wr .i64 (m:Int)=m:=aM (by omega) (by omega);have e5:BB (v:Int) (m:Int)=((v / m:Nat):Int):=by
     rw[Ai (by omega)];rfl
    have hvm:v / m<=v:=Nat.div_le_self _ _;have hq:m<=v / m<->m*m<=v:=Nat.le_div_iff_mul_le (by omega);generalize v / m=q at *;have e6:wr .i64 (q:Int)=(q:Int):=aM (by omega) (by omega);rw[e4,e5,e6,decide_eq_false (show ¬ (m:Int)=0 by omega)];simp only[cond_true,cond_false];by_cases hc:m<=q
    ·rw[decide_eq_true (by omega)];exact ih k m h hw.1 (by omega) (by omega) hh (hq.1 hc) h3
    ·rw[decide_eq_false (by omega)];have hc2:¬ m*m<=v:=λh4=>hc (hq.2 h4)
     have e7:wr .i64 ((m:Int)-1)=((m-1:Nat):Int):=dt m (by omega) (by omega);rw[e7];exact ih k l (m-1) hw.2 (by omega) (by omega) (by omega) h2 (by rw[show m-1+1=m by omega];omega)
   ·have:l=h:=by omega
    subst this;refine⟨l,⟨h2,h3⟩,?_⟩;rw[decide_eq_false (by omega)];rfl
 exact key 31 K 0 1500000000 (by decide) (by omega) (by omega) (by omega) (by omega) hv
def gU (x:Int):Int:=if x< -1000000000 then -1000000000 else if x>1000000000 then 1000000000 else x
theorem pb (K:Nat)(x:Int):Q114.f K (x,())=some ((gU x,()),()):=by
 simp only[Q114.f,Q111.f,gU];by_cases h:x< -1000000000
 ·rw[decide_eq_true h,if_pos h];rfl
 ·rw[decide_eq_false h,if_neg h];by_cases h2:x>1000000000
  ·rw[decide_eq_true h2,if_pos h2];rfl
  ·rw[decide_eq_false h2,if_neg h2];rfl
theorem rH (x:Int):-1000000000<=gU x/\gU x<=1000000000:=by
 unfold gU;split
 ·omega
 ·split <;> omega
theorem xv {a:Int}(h:-1000000000<=a/\a<=1000000000):0<=a*a/\a*a<=1000000000000000000:=by
 have e:∃ b:Nat,b<=1000000000/\a*a=((b*b:Nat):Int):=by
  refine⟨a.natAbs,by omega,?_⟩;exact (Int.natAbs_mul_self).symm
 obtain⟨b,h1,h2⟩:=e;have:=BJ h1 h1;omega
theorem vu (K:Nat)(x y:Int)(hK:1048577<K):Tot (Q116.f K (x,y,())) λ_=>True:=by
 simp only[Q116.f];rw[pb K x,pb K y];simp only[AA];have h1:=xv (rH x);have h2:=xv (rH y);generalize gU x*gU x=a at *;generalize gU y*gU y=b at *;have e1:wr .i64 a=a:=aM (by omega) (by omega);have e2:wr .i64 b=b:=aM (by omega) (by omega);have e3:wr .i64 (a+b)=(((a+b).toNat:Nat):Int):=(aM (by omega) (by omega)).trans (by omega);rw[e1,e2,e3];obtain⟨r,_,r2⟩:=yZ K (a+b).toNat (by omega) hK;rw[r2];simp only[AA];rw[pb K r];exact⟨_,rfl,trivial⟩
theorem za (K:Nat)(c d:dc)(hK:1048577<K):Tot (Q117.f K (c,d,())) λ_=>True:=by
 simp only[Q117.f];exact Tot.bind (gD K c).tot λ_ _=>Tot.cnd (λ_=>Tot.ret trivial) λ_=>Tot.bind (gD K d).tot λ_ _=>Tot.cnd (λ_=>Tot.ret trivial) λ_=>Tot.bind (vu K _ _ hK) λ_ _=>Tot.ret trivial
theorem jP (K:Nat)(n lo hi:Int)(h:lo<=hi):Tot (Q111.f K (n,lo,hi,())) λr=>InP r.1.1 lo hi:=by
 simp only[Q111.f];exact Tot.cnd (λ_=>Tot.ret ⟨Ab _,h⟩) λh1=>Tot.cnd (λ_=>Tot.ret ⟨h,Ab _⟩) λh2=>Tot.ret ⟨Int.not_lt.1 (of_decide_eq_false h1),Int.not_lt.1 (of_decide_eq_false h2)⟩
theorem zb (K:Nat)(c b:dc)(t s:Int)(hc:co c)(hK:1048577<K):Tot (Q122.f K (c,b,t,s,())) λr=>co r.1.1:=by
 simp only[Q122.f];refine Tot.bind (gD K c).tot λv hv=>Tot.cnd (λh=>?_) λ_=>Tot.bind (gD K b).tot λv hv=>Tot.cnd (λ_=>Tot.ret hc) λh2=>Tot.bind (ch K _ _ _).tot λv' hv'=>Tot.cnd (λ_=>Tot.ret hc) λh3=>?_
 ·rw[hv.2 hc]at h;cases h
 have hb:=hv.1 (by simpa using h2);have ht:=hv'.1 (by simpa using h3);obtain⟨_,_,_,⟨c1,c2⟩⟩:=hc;obtain⟨_,_,_,⟨b1,b2⟩⟩:=hb;obtain⟨t1,t2⟩:=ht;have hs:¬ wr .i64 (c.2.2.2+b.2.2.2)=0:=by rw[aM (by omega) (by omega)];omega
 have err:∀ w:Int,Tot (Q121.f K (c,b,w,t,())) λr=>InP r.1.1 1 1500:=λw=>by
  simp only[Q121.f,Q120.f];refine Tot.bind (P:=λ_=>True) (Tot.cnd (λ_=>Tot.ret trivial) λ_=>Tot.ret trivial) λ_ _=>Tot.not (decide_eq_false (show ¬ t=0 by omega)) (Tot.bind (jP K _ _ _ (by omega)) λ_ _=>Tot.not (decide_eq_false hs) (Tot.bind (jP K _ _ _ (by omega)) λ_ h=>Tot.ret h))
 refine Tot.bind (za K c b hK) λ_ _=>?_
 simp only[Q118.f];refine Tot.bind (P:=λ_=>True) (Tot.not (decide_eq_false hs) (Tot.ret trivial)) λ_ _=>Tot.bind (vu K _ _ hK) λn _=>Tot.cnd (λ_=>?_) λh=>?_
 ·simp only[Q119.f];refine Tot.bind (P:=λ_=>True) (Tot.cnd (λ_=>Tot.ret trivial) λ_=>Tot.cnd (λ_=>Tot.ret trivial) λ_=>Tot.cnd (λ_=>Tot.ret trivial) λ_=>Tot.ret trivial) λ_ _=>Tot.cnd (λ_=>?_) λ_=>?_ <;>
  exact Tot.bind (jP K _ _ _ (by omega)) λ_ h1=>Tot.bind (jP K _ _ _ (by omega)) λ_ h2=>Tot.bind (jP K _ _ _ (by omega)) λ_ h3=>Tot.bind (err _) λ_ h4=>Tot.ret ⟨h1,h2,h3,h4⟩
 ·have hn:¬ n.1.1=0:=by simpa using h
  refine Tot.cnd (λ_=>?_) λ_=>?_ <;>
  exact Tot.not (decide_eq_false hn) (Tot.bind (jP K _ _ _ (by omega)) λ_ h1=>Tot.not (decide_eq_false hn) (Tot.bind (jP K _ _ _ (by omega)) λ_ h2=>Tot.bind (jP K _ _ _ (by omega)) λ_ h3=>Tot.bind (err _) λ_ h4=>Tot.ret ⟨h1,h2,h3,h4⟩))
noncomputable def oo (K:Nat)(c b:dc)(t s:Int):dc:=((Q122.f K (c,b,t,s,())).getD (((0,0,0,0),()),())).1.1
noncomputable def qE (K:Nat)(l:List Int):Int:=((Q123.f K (l,())).getD ((0,()),())).1.1
theorem vv (K:Nat)(c b:dc)(t s:Int)(hc:co c)(hK:1048577<K):Q122.f K (c,b,t,s,())=some ((oo K c b t s,()),())/\co (oo K c b t s):=by
 obtain⟨⟨⟨v,⟨⟩⟩,⟨⟩⟩,e,h⟩:=zb K c b t s hc hK;unfold oo;rw[e];exact⟨rfl,h⟩
theorem med_t (K:Nat)(l:List Int)(hl:l.length<=100)(hK:1048577<K):Tot (Q123.f K (l,())) λ_=>True:=by
 simp only[Q123.f,Q123.pre];have loop:∀ xs:List Int,xs.length<=100->Tot (Q123.l0 K (l,()) (xs,[],0)) λ_=>True:=λxs hx=>by
  refine Tot.iter (step:=λrec a=>Q123.l0.step K (l,()) (Q123.l1 K (l,()) rec) rec a) (λa=>a.1=xs/\0<=a.2.2/\a.2.2<=xs.length/\(a.2.1.length:Int)=a.2.2) (λa=>xs.length-a.2.2.toNat) ?_ K _ (by show xs.length-AC 0<K;omega) ⟨rfl,by show (0:Int)<=0;omega,by show (0:Int)<=_;omega,rfl⟩;rintro rec ⟨ys,zs,i⟩ ⟨rfl,h0,h1,h2⟩ ih;simp only at h0 h1 h2 hx ih ⊢;simp only[Q123.l0.step];obtain⟨i,rfl⟩:=AE h0;refine Tot.cnd (λh=>?_) λ_=>Tot.cnd (λ_=>Tot.ret trivial) λh=>?_
  ·have hlt:=of_decide_eq_true h;clear h;refine Tot.iter (step:=λrec1 a=>Q123.l1.step K (l,()) rec rec1 a) (λa=>a.1=ys/\a.2.1=zs/\a.2.2.1=i/\0<=a.2.2.2/\a.2.2.2<=zs.length) (λa=>zs.length-a.2.2.2.toNat) ?_ K _ (by show zs.length-AC 0<K;omega) ⟨rfl,rfl,rfl,by show (0:Int)<=0;omega,by show (0:Int)<=_;omega⟩;rintro rec1 ⟨us,vs,j,k⟩ ⟨rfl,rfl,e,k0,k1⟩ ih1;simp only at e k0 k1 hlt h1 h2 hx ih1 ih ⊢;subst e;simp only[Q123.l1.step];obtain⟨k,rfl⟩:=AE k0;have ins:∀ y:Int,Tot (rec (us,(([]++((vs.take (AC (k:Int))).drop (AC 0)))++([y]))++((vs.take (AC (AB vs:Int))).drop (AC (k:Int))),wr .i64 ((i:Int)+1))) λ_=>True:=λy=>by
    rw[aw i (by omega)];refine ih _ ⟨rfl,by show (0:Int)<=((i+1:Nat):Int);omega,by show ((i+1:Nat):Int)<=_;omega,?_⟩ (by show us.length-AC ((i+1:Nat):Int)<us.length-AC (i:Int);omega);simp only[AF,BA,AZ,AQ,AN,Aa,Af,AG,AO];omega
   have fin:Tot (bif decide (0<=0)&&decide ((0:Int)<=(k:Int))&&decide ((k:Int)<=(AB vs:Int))&&true then (bif decide ((AB ([]:List (Ty.den (.int .i64)))+AB ((vs.take (AC (k:Int))).drop (AC 0)))*8<=aj) then ((idx us (i:Int)).bind λy3=>bif decide ((AB ([]++((vs.take (AC (k:Int))).drop (AC 0)))+AB ([y3]))*8<=aj) then (bif decide ((0:Int)<=(k:Int))&&decide ((k:Int)<=(AB vs:Int))&&decide ((AB vs:Int)<=(AB vs:Int))&&true then (bif decide ((AB (([]++((vs.take (AC (k:Int))).drop (AC 0)))++([y3]))+AB ((vs.take (AC (AB vs:Int))).drop (AC (k:Int))))*8<=aj) then (rec (us,(([]++((vs.take (AC (k:Int))).drop (AC 0)))++([y3]))++((vs.take (AC (AB vs:Int))).drop (AC (k:Int))),wr .i64 ((i:Int)+1))) else none) else none) else none) else none) else none) λ_=>True:=by
    refine Tot.must (by simp only[Al,decide_eq_true_eq,BN];omega) (Tot.fit (Tot.ix h0 hlt λy _ _=>Tot.fit (Tot.must (by simp only[Al,decide_eq_true_eq,BN];omega) (Tot.fit (ins y) (by omega) ?_)) (by omega) ?_) (by omega) ?_) <;>
    simp only[AF,BA,AZ,AQ,AN,Aa,Af,AG,AO] <;> omega
   refine Tot.cnd (λh4=>?_) λ_=>fin
   have h4:=of_decide_eq_true h4;refine Tot.ix k0 h4 λy1 _ _=>Tot.ix h0 hlt λy2 _ _=>Tot.cnd (λ_=>?_) λ_=>fin
   rw[aw k (by omega)];exact ih1 _ ⟨rfl,rfl,rfl,by show (0:Int)<=((k+1:Nat):Int);omega,by show ((k+1:Nat):Int)<=_;omega⟩ (by show vs.length-AC ((k+1:Nat):Int)<vs.length-AC (k:Int);omega)
  ·have h:¬ (zs.length:Int)=0:=by simpa using h
   rw[aM (n:=(zs.length:Int)-1) (by omega) (by omega)];have e:BB ((zs.length:Int)-1) 2=((zs.length:Int)-1) / 2:=by rw[Ai (by omega)]
   rw[e,aM (by omega) (by omega)];exact Tot.ix (by omega) (by omega) λy _ _=>Tot.ret trivial
 refine Tot.cnd (λh=>?_) λ_=>loop l hl
 have h:=of_decide_eq_true h;rw[aM (n:=(l.length:Int)-3) (by omega) (by omega)];exact Tot.must (by simp only[Al,decide_eq_true_eq,BN];omega) (loop _ (by simp only[Af,Aa];omega))
theorem med_s (K:Nat)(l:List Int)(hl:l.length<=100)(hK:1048577<K):Q123.f K (l,())=some ((qE K l,()),()):=by
 obtain⟨⟨⟨v,⟨⟩⟩,⟨⟩⟩,e,_⟩:=med_t K l hl hK;unfold qE;rw[e];rfl
theorem pV {α A R:Type}(k:α->Int)(x:α)(t:List α)(hA:Asc k t)(S0 S1:List α->Nat->A)(fin:List α->Option R){step:(A->Option R)->A->Option R}
  (h0:∀ (rec:A->Option R) (acc:List α) (i:Nat) (hi:i<t.length),acc.length=i->(∀ y∈t.take i,k y<k x)->step rec (S0 acc i)=if k t[i]<k x then rec (S0 (acc++[t[i]]) (i+1)) else if k t[i]=k x then rec (S1 (acc++[x]) (i+1)) else rec (S1 (acc++[x]++[t[i]]) (i+1)))
  (h1:∀ (rec:A->Option R) (acc:List α) (i:Nat) (hi:i<t.length),acc.length<=i+1->k x<k t[i]->step rec (S1 acc i)=rec (S1 (acc++[t[i]]) (i+1)))
  (e0:∀ (rec:A->Option R) (acc:List α),acc.length=t.length->(∀ y∈t,k y<k x)->step rec (S0 acc t.length)=fin (acc++[x]))
  (e1:∀ (rec:A->Option R) (acc:List α),acc.length<=t.length+1->step rec (S1 acc t.length)=fin acc) {K:Nat} (hK:t.length<K):ae step K (S0 [] 0)=fin (bO k x t):=by
 have r1:∀ (n i K:Nat) (acc:List α),i+n=t.length->n<K->acc.length<=i+1->(∀ y∈t.drop i,k x<k y)->ae step K (S1 acc i)=fin (acc++t.drop i):=by
  intro n;induction n with
  |zero =>
   intro i K acc hi hK ha _;obtain⟨K,rfl⟩:∃ k',K=k'+1:=⟨K-1,by omega⟩;have:i=t.length:=by omega
   subst this;show step (ae step K) _=_;rw[e1 _ _ ha,BF,AP]
  |succ n ih =>
   intro i K acc hi hK ha hg;obtain⟨K,rfl⟩:∃ k',K=k'+1:=⟨K-1,by omega⟩;have hlt:i<t.length:=by omega
   rw[AL hlt]at hg;show step (ae step K) _=_;rw[h1 _ _ _ hlt ha (hg _ (.head _)),ih (i+1) K _ (by omega) (by omega) (by simp;omega) (λy hy=>hg y (.tail _ hy)),AL hlt];simp
 have above:∀ i (hi:i<t.length),∀ y∈t.drop (i+1),k t[i]<k y:=λi hi y hy=>by
  have:=List.Pairwise.drop (i:=i) hA;rw[AL hi]at this;exact (AU.1 this).1 y hy
 have r0:∀ (n i K:Nat) (acc:List α),i+n=t.length->n<K->acc=t.take i->(∀ y∈t.take i,k y<k x)->ae step K (S0 acc i)=fin (bO k x t):=by
  intro n;induction n with
  |zero =>
   intro i K acc hi hK ha hl;obtain⟨K,rfl⟩:∃ k',K=k'+1:=⟨K-1,by omega⟩;have:i=t.length:=by omega
   subst this;rw[Ap]at ha hl;subst ha;show step (ae step K) _=_;rw[e0 _ _ rfl hl];unfold bO;rw[AR.2 (by simpa using hl),AT.2 (λy hy=>by have:=hl y hy;simp;omega)]
  |succ n ih =>
   intro i K acc hi hK ha hl;obtain⟨K,rfl⟩:∃ k',K=k'+1:=⟨K-1,by omega⟩;have hlt:i<t.length:=by omega
   subst ha;have htl:(t.take i).length=i:=by rw[Aa];omega
   show step (ae step K) _=_;rw[h0 _ _ _ hlt htl hl];have hput:k x<=k t[i]->bO k x t=t.take i++x::(t.drop i).filter (λy=>decide (k x<k y)):=λhc=>by
    unfold bO;conv=>lhs;rw[<- Ax i t]
    rw[Ak,Ak,AR.2 (by simpa using hl),(AT (l:=t.take i)).2 (λy hy=>by have:=hl y hy;simp;omega),AQ];rw[AL hlt,AW,if_neg (by simp;omega),AT.2 (λy hy=>by have:=above i hlt y hy;simp;omega),AP]
   by_cases hc:k t[i]<k x
   ·rw[if_pos hc];refine ih (i+1) K _ (by omega) (by omega) (by rw[Be,AM hlt];rfl) λy hy=>?_
    rw[Be,AM hlt]at hy;rcases An.1 hy with hy|hy
    ·exact hl y hy
    ·simp at hy;rw[hy];exact hc
   ·rw[if_neg hc,hput (by omega),AL hlt];by_cases he:k t[i]=k x
    ·rw[if_pos he,r1 n (i+1) K _ (by omega) (by omega) (by simp;omega) (λy hy=>by have:=above i hlt y hy;omega),AW,if_neg (by simp;omega),AR.2 (λy hy=>by have:=above i hlt y hy;simp;omega)];simp
    ·rw[if_neg he,r1 n (i+1) K _ (by omega) (by omega) (by simp;omega) (λy hy=>by have:=above i hlt y hy;omega),AW,if_pos (by simp;omega),AR.2 (λy hy=>by have:=above i hlt y hy;simp;omega)];simp
 exact r0 t.length 0 K [] (by omega) hK rfl (by simp)
theorem vw {t:List af}{f:af}(h:∀ g∈t,g.1<f.1):(bY t f).1=t++[f]:=by
 rw[hZ (λg hg e=>by have:=h g hg;omega)];unfold bO;rw[AR.2 (by simpa using h),AT.2 (λy hy=>by have:=h y hy;simp;omega)]
theorem ot:∀ {fs t:List af},Asc (λf:af=>f.1) fs->(∀ g∈t,∀ f∈fs,g.1<f.1)->eK t fs=t++fs
 |[],t,_,_=>by simp[eK]
 |f::fs,t,hA,h=>by
  show eK (bY t f).1 fs=_;rw[vw (λg hg=>h g hg f (by simp)),ot (AU.1 hA).2 ?_]
  ·simp
  ·intro g hg e he;rcases An.1 hg with hg|hg
   ·exact h g hg e (by simp[he])
   ·rw[AV.1 hg];exact (AU.1 hA).1 e he
theorem uj {fs:List af}(h:aB fs):eK [] fs=fs:=by
 rw[ot h.2 (by simp)];rfl
theorem x7 (K:Nat)(a b:List af)(hA:aB a)(hB:aB b)(hK:1048577<K):Q103.f K (a,b,())=some ((eK a b,()),()):=by
 simp only[Q103.f,Q103.pre];obtain⟨b1,s1,s2⟩:=fv K a (cK hA) hK;obtain⟨b2,s3,s4⟩:=fv K b (cK hB) hK;have:=cK hA;have:=cK hB;rw[s1,s3,s2.2 hA,s4.2 hB];simp only[AA,AI,cond_false];rw[szb _ _ _ (by omega) (by show (AB ([]:List af))+a.length<=_;simp;omega)];simp only[cond_true,AQ];refine sC a b hA hB.1 (step:=λrec x=>Q103.l0.step K (a,b,()) rec x) (λt=>some ((t,()),())) ?_ ?_ (by omega)
 ·intro rec t i hi ht;simp only[Q103.l0.step];rw[bC (by omega:(i:Int)<(AB b:Int)),ah hi,aw i (by omega)];simp only[cond_true,AA];rw[ub K t _ (cK ht) ht.2 hK];rfl
 ·intro rec t;simp only[Q103.l0.step,aR];rfl
theorem rI {me:Int}{l:List cB}(h:cN me l)(s:Int):aB (ey l s):=by
 rcases pG (l:=l) (s:=s) with e|⟨x,hx,_,e⟩ <;> rw[e]
 ·exact⟨by simp,List.Pairwise.nil⟩
 ·exact (h.1 x hx).2.2.2.1
theorem olen {me:Int}{l:List cB}(h:cN me l):l.length<=1048576:=Ah (gP h.2 λx hx=>⟨(h.1 x hx).1.1,BC (h.1 x hx).1.2 (by decide)⟩) (by decide)
theorem vz (K:Nat)(n:aa)(s:Int)(t:List af)(h:cN n.1 (aa.others n))(ht:aB t)(hK:1048577<K):Q104.f K (n,s,t,())=some ((eK (ey (aa.others n) s) t,()),()):=by
 have hl:=olen h;refine tU (step:=λrec a=>Q104.l0.step K (n,s,t,()) rec a) (aa.others n) s (λl=>some ((eK l t,()),())) ?_ ?_ (aa.others n).length 0 K (by omega) (by omega)
 ·intro rec i hi;simp only[Q104.l0.step];rw[bC (by omega:(i:Int)<(AB (aa.others n):Int)),ah hi,aw i (by omega)];simp only[cond_true,AA];cases (aa.others n)[i].1==s with
  |false=>rfl
  |true=>exact (congrArg (λo=>AH o _) (x7 K _ t (h.1 _ (AD hi)).2.2.2.1 ht hK)).trans rfl
 ·intro rec;simp only[Q104.l0.step,aR,cond_false];rw[uj ht];refine (congrArg (λb=>bif b then _ else _) (szb (AB ([]:List af)) t.length 32 (by omega) ?_)).trans rfl;have:=cK ht;simp;omega
theorem sum_s (K:Nat)(n:aa)(s:Int)(t:List af)(h:cN n.1 (aa.others n))(hK:1048577<K):Q105.f K (n,s,t,())=some ((setO n (bO (λx:cB=>x.1) (s,t) (aa.others n)),()),()):=by
 have hl:=olen h;refine pV (step:=λrec a=>Q105.l0.step K (n,s,t,()) rec a) (λx:cB=>x.1) (s,t) (aa.others n) h.2 (λacc i=>(acc,false,(i:Int))) (λacc i=>(acc,true,(i:Int))) (λo=>some ((setO n o,()),())) ?_ ?_ ?_ ?_ (by omega)
 ·intro rec acc i hi ha _;simp only[Q105.l0.step];rw[bC (by omega:(i:Int)<(AB (aa.others n):Int)),ah hi,aw i (by omega)];simp only[cond_true,AA,Ad];have z1:=szb acc.length 1 32 (by omega) (by omega);have z2:=szb (acc++[(s,t)]).length 1 32 (by omega) (by simp;omega);generalize (aa.others n)[i]=y at *;by_cases c1:y.1<s
  ·rw[if_pos c1,show decide (y.1>=s)=false from decide_eq_false (by omega),show (y.1 != s)=true by simp;omega];exact (congrArg (λb=>bif b then _ else _) z1).trans rfl
  ·rw[if_neg c1,show decide (y.1>=s)=true from decide_eq_true (by omega)];refine (congrArg (λb=>bif b then _ else _) z1).trans ?_;by_cases c2:y.1=s
   ·rw[if_pos c2,show (y.1 != s)=false by simpa using c2];rfl
   ·rw[if_neg c2,show (y.1 != s)=true by simpa using c2];exact (congrArg (λb=>bif b then _ else _) z2).trans rfl
 ·intro rec acc i hi ha hc;simp only[Q105.l0.step];rw[bC (by omega:(i:Int)<(AB (aa.others n):Int)),ah hi,aw i (by omega)];simp only[cond_true,AA,AI,cond_false];have z1:=szb acc.length 1 32 (by omega) (by omega);rw[show ((aa.others n)[i].1 != s)=true by simp;have:s<_:=hc;omega];exact (congrArg (λb=>bif b then _ else _) z1).trans rfl
 ·intro rec acc ha _;simp only[Q105.l0.step,aR,cond_false,Ad,cond_true];exact (congrArg (λb=>bif b then _ else _) (szb acc.length 1 32 (by omega) (by omega))).trans rfl
 ·intro rec acc ha;simp only[Q105.l0.step,aR,cond_false,AI];rfl
theorem wU (K:Nat)(a b:List af)(ha:a.length<=1048576)(hK:1048577<K):Q106.f K (a,b,())=rb (decide (a≠b)):=by
 simp only[Q106.f,Q106.pre];by_cases hl:a.length=b.length
 ·rw[show ((AB a:Int) != (AB b:Int))=false by simp;omega];have:=cC (step:=λrec x=>Q106.l0.step K (a,b,()) rec x) a.length (λi=>(i:Int)) (λj=>∃ (h:j<a.length) (h':j<b.length),a[j]≠b[j]) (rb false) (λ_=>rb true) ?_ ?_ a.length K 0 (by omega) (by omega)
  ·rcases this with ⟨h1,h2⟩|⟨j,_,h1,⟨h3,h4,h5⟩,_,h2⟩
   ·refine (h2:Q106.l0 K (a,b,()) 0=_).trans ?_;rw[decide_eq_false];rintro hne;exact hne (BP hl λi h3 h4=>AS.1 λhx=>h1 i (Aj _) h3 ⟨h3,h4,hx⟩)
   ·refine (h2:Q106.l0 K (a,b,()) 0=_).trans ?_;rw[decide_eq_true];rintro rfl;exact h5 rfl
  ·intro rec i hi;simp only[Q106.l0.step];rw[bC (by omega:(i:Int)<(AB a:Int)),ah hi,aw i (by omega),ah (show i<b.length by omega)];simp only[cond_true,AA];rw[show Ty.eqv t2 a[i] (b[i]'(by omega))=decide (a[i]=b[i]'(by omega)) from jh _ _];by_cases hc:a[i]=b[i]'(by omega)
   ·exact .inl ⟨λ⟨_,_,h⟩=>h hc,by rw[decide_eq_true hc];rfl⟩
   ·exact .inr ⟨⟨hi,by omega,hc⟩,by rw[decide_eq_false hc];rfl⟩
  ·intro rec;simp only[Q106.l0.step,aR];rfl
 ·rw[show ((AB a:Int) != (AB b:Int))=true by simp;omega,decide_eq_true (show a≠b from λe=>hl (by rw[e]))];rfl
theorem pc (K:Nat)(l:List Int)(t:Int)(hl:l.length<=1048576):Q112.f K (l,t,())=some ((gb l t,()),()):=by
 simp only[Q112.f];rw[szb _ _ _ (by omega) (by show (AB ([]:List Int))+l.length<=_;simp;omega)];simp only[cond_true,AQ];rw[szb _ _ _ (by omega) (by show l.length+[t].length<=_;simp;omega)];simp only[cond_true];have hlen:(l++[t]).length=l.length+1:=by simp
 show (bif decide (((l++[t]).length:Int)>3) then (bif decide (0<=wr .i64 (((l++[t]).length:Int)-3))&&decide (wr .i64 (((l++[t]).length:Int)-3)<=((l++[t]).length:Int))&&decide (((l++[t]).length:Int)<=((l++[t]).length:Int))&&true then some ((((l++[t]).take (AC ((l++[t]).length:Int))).drop (AC (wr .i64 (((l++[t]).length:Int)-3))),()),()) else none) else some ((l++[t],()),()))=_;by_cases h:l.length+1>3
 ·rw[aM (by omega) (by omega),decide_eq_true (by omega:((l++[t]).length:Int)>3),decide_eq_true (by omega:(0:Int)<=((l++[t]).length:Int)-3),decide_eq_true (by omega:((l++[t]).length:Int)-3<=((l++[t]).length:Int)),decide_eq_true (Ab _)];simp only[A8,cond_true,gb];rw[show AC (((l++[t]).length:Int)-3)=(l++[t]).length-3 by omega,AF,Ap]
 ·rw[decide_eq_false (by omega:¬ ((l++[t]).length:Int)>3)];simp only[cond_false,gb];rw[show (l++[t]).length-3=0 by omega,AZ]
theorem plen {me:Int}{l:List dm}(h:dQ me l):l.length<=1048576:=Ah (gP h.2 λx hx=>(h.1 x hx).1) (by decide)
theorem sH {me:Int}{l:List dm}(h:dQ me l)(node:Int):(dj l node).length<=3:=by
 unfold dj;cases hf:l.find? λp=>p.1==node with
 |none=>simp
 |some p =>
  have:=(h.1 p (Aq hf)).2.2.2.2.1.2;show p.2.2.length<=3;omega
theorem x8 (K:Nat)(l:List dm)(node:Int)(c:dc)(t:Int)(me:Int)(h:dQ me l)(hK:1048577<K):Q113.f K (l,node,c,t,())=some ((nz l node c t,()),()):=by
 have hl:=plen h;have h3:=sH h node;refine pV (step:=λrec a=>Q113.l0.step K (l,node,c,t,()) rec a) (λx:dm=>x.1) (node,c,gb (dj l node) t) l h.2 (λacc i=>(acc,false,(i:Int),[])) (λacc i=>(acc,true,(i:Int),gb (dj l node) t)) (λo=>some ((o,()),())) ?_ ?_ ?_ ?_ (by omega)
 ·intro rec acc i hi ha hlow;simp only[Q113.l0.step];rw[bC (by omega:(i:Int)<(AB l:Int)),ah hi,aw i (by omega)];simp only[cond_true,AA,Ad];have z1:=szb acc.length 1 64 (by omega) (by omega);have z2:=szb (acc++[(node,c,gb (dj l node) t)]).length 1 64 (by omega) (by simp;omega);have hat:l[i].1=node->dj l node=l[i].2.2:=λe=>by unfold dj;rw[nu h.2 hi e];rfl
  have hno:node<l[i].1->dj l node=[]:=λe=>by
   unfold dj;rw[mB (k:=λp:dm=>p.1)]
   ·rfl
   intro y hy;obtain⟨j,hj,rfl⟩:=AK hy;by_cases hij:j<i
   ·have:=hlow l[j] (by rw[BK];exact⟨j,by omega,rfl⟩);show l[j].1≠node;have:l[j].1<node:=this;omega
   ·have:l[i].1<=l[j].1:=by
     by_cases e:i=j
     ·subst e;exact Ab _
     ·exact BI (ea.1 h.2 i j hi hj (by omega))
    show l[j].1≠node;omega
  have htl:=(h.1 _ (AD hi)).2.2.2.2.1.2;generalize l[i]=y at *;by_cases c1:y.1<node
  ·rw[if_pos c1,show decide (y.1>=node)=false from decide_eq_false (by omega),show (y.1 != node)=true by simp;omega,show (y.1==node)=false by simp;omega];exact (congrArg (λb=>bif b then _ else _) z1).trans rfl
  ·rw[if_neg c1,show decide (y.1>=node)=true from decide_eq_true (by omega)];by_cases c2:y.1=node
   ·rw[if_pos c2,show (y.1 != node)=false by simpa using c2,show (y.1==node)=true by simpa using c2];simp only[cond_true,cond_false];rw[<- hat c2];refine (congrArg (λo=>AH o _) (pc K _ t (by omega))).trans ?_;exact (congrArg (λb=>bif b then _ else _) z1).trans rfl
   ·rw[if_neg c2,show (y.1 != node)=true by simpa using c2,show (y.1==node)=false by simpa using c2];simp only[cond_true,cond_false];have e:=hno (by omega);rw[e]at z2 ⊢;refine (congrArg (λo=>AH o _) (pc K [] t (by simp))).trans ?_;refine (congrArg (λb=>bif b then _ else _) z1).trans ?_;exact (congrArg (λb=>bif b then _ else _) z2).trans rfl
 ·intro rec acc i hi ha hc;simp only[Q113.l0.step];rw[bC (by omega:(i:Int)<(AB l:Int)),ah hi,aw i (by omega)];have hc:node<l[i].1:=hc;simp only[cond_true,AA,AI,cond_false];rw[show (l[i].1 != node)=true by simp;omega,show (l[i].1==node)=false by simp;omega];exact (congrArg (λb=>bif b then _ else _) (szb acc.length 1 64 (by omega) (by omega))).trans rfl
 ·intro rec acc ha hlow;simp only[Q113.l0.step,aR,cond_false,Ad,cond_true];have e:dj l node=[]:=by
   unfold dj;rw[mB (k:=λp:dm=>p.1) (λy hy=>by have:y.1<node:=hlow y hy;show y.1≠node;omega)];rfl
  rw[e];refine (congrArg (λo=>AH o _) (pc K [] t (by simp))).trans ?_;exact (congrArg (λb=>bif b then _ else _) (szb acc.length 1 64 (by omega) (by omega))).trans rfl
 ·intro rec acc ha;simp only[Q113.l0.step,aR,cond_false,AI]
def rJ (n lo hi:Int):Int:=if n<lo then lo else if n>hi then hi else n
theorem xw (K:Nat)(n lo hi:Int):Q111.f K (n,lo,hi,())=some ((rJ n lo hi,()),()):=by
 simp only[Q111.f,rJ];by_cases h1:n<lo
 ·rw[decide_eq_true h1,if_pos h1];rfl
 ·rw[decide_eq_false h1,if_neg h1];by_cases h2:n>hi
  ·rw[decide_eq_true h2,if_pos h2];rfl
  ·rw[decide_eq_false h2,if_neg h2];rfl
theorem x9 {n lo hi:Int}(h:lo<=hi):InP (rJ n lo hi) lo hi:=by
 unfold rJ;split
 ·exact⟨Ab _,h⟩
 ·split
  ·exact⟨h,Ab _⟩
  ·exact⟨by omega,by omega⟩
def vA (n:aa):Int:=rJ ((bZ n-(aa.probe n).2.1)*1000+500) 1 60000
noncomputable def pd (K:Nat)(w:av)(c:dc)(p:dm):dc:=bif p.1==w.2.2.1 then oo K c (av.coord w) (qE K p.2.2) w.2.2.2.2.1 else c
def jr (n:aa)(w:av):List dm:=nz (aa.places n) w.2.2.1 (av.coord w) (vA n)
def pe (n:aa)(w:av):Bool:=!decide ((aa.probe n).1<0)&&(aa.probe n).1==w.2.2.1&&(aa.probe n).2.2.1==w.2.2.2.2.1&&w.2.2.2.2.2.1==w.2.2.1
noncomputable def eA (K:Nat)(n:aa)(w:av):aa:=bif pe n w then oj n ((jr n w).foldl (pd K w) (aa.coord n)) (jr n w) else n
theorem th {K:Nat}{w:av}{c:dc}{p:dm}(hc:co c)(hK:1048577<K):co (pd K w c p):=by
 unfold pd;cases p.1==w.2.2.1 with
 |false=>exact hc
 |true=>exact (vv K c _ _ _ hc hK).2
theorem rK {n:aa}(h:UpX n)(hp:¬ (aa.probe n).1<0):(aa.probe n).1≠n.1/\InP (aa.probe n).1 0 7/\ar (aa.probe n).1=ar n.1/\InP (aa.probe n).2.1 0 (bZ n):=by
 have h1:=h.probe;unfold cM at h1;rw[if_neg (by omega)]at h1;obtain⟨h2,⟨f,hf,e⟩,h3,_⟩:=h1;exact⟨h2,e ▸ (h.table.1 f hf).1,e ▸ h.site f hf,h3⟩
theorem tj {n:aa}{w:av}(h:UpX n)(hw:co (av.coord w))(hb:pe n w=true):dQ n.1 (jr n w):=by
 simp only[pe,Al,Bf,decide_eq_false_iff_not,beq_iff_eq]at hb;obtain⟨⟨⟨h1,h2⟩,h3⟩,h4⟩:=hb;obtain⟨p1,p2,p3,_⟩:=rK h h1;rw[h2]at p1 p2 p3;exact uh h.places p2 p3 p1 hw (x9 (by decide))
theorem ack_s (K:Nat)(n:aa)(w:av)(h:UpN n)(hw:co (av.coord w))(hK:1048577<K):Q124.f K (n,w,())=some ((eA K n w,()),()):=by
 simp only[Q124.f,Q124.pre];have hb:pe n w=(!decide ((aa.probe n).1<0)&&(aa.probe n).1==w.2.2.1&&(aa.probe n).2.2.1==w.2.2.2.2.1&&w.2.2.2.2.2.1==w.2.2.1):=rfl;by_cases h1:(aa.probe n).1<0
 ·rw[show decide (n.2.2.2.2.2.2.2.2.2.2.1.1<0)=true from decide_eq_true h1];rw[show eA K n w=n by unfold eA;rw[hb,decide_eq_true h1];rfl];rfl
 ·rw[show decide (n.2.2.2.2.2.2.2.2.2.2.1.1<0)=false from decide_eq_false h1];cases h2:(aa.probe n).1==w.2.2.1 with
  |false =>
   rw[show eA K n w=n by unfold eA;rw[hb,decide_eq_false h1,h2];rfl];rw[show (n.2.2.2.2.2.2.2.2.2.2.1.1 != w.2.2.1)=true by unfold bne;rw[show (n.2.2.2.2.2.2.2.2.2.2.1.1==w.2.2.1)=false from h2];rfl];rfl
  |true =>
   rw[show (n.2.2.2.2.2.2.2.2.2.2.1.1 != w.2.2.1)=false by unfold bne;rw[show (n.2.2.2.2.2.2.2.2.2.2.1.1==w.2.2.1)=true from h2];rfl];cases h3:(aa.probe n).2.2.1==w.2.2.2.2.1 with
   |false =>
    rw[show eA K n w=n by unfold eA;rw[hb,decide_eq_false h1,h2,h3];rfl];rw[show (n.2.2.2.2.2.2.2.2.2.2.1.2.2.1 != w.2.2.2.2.1)=true by unfold bne;rw[show (n.2.2.2.2.2.2.2.2.2.2.1.2.2.1==w.2.2.2.2.1)=false from h3];rfl];rfl
   |true =>
    rw[show (n.2.2.2.2.2.2.2.2.2.2.1.2.2.1 != w.2.2.2.2.1)=false by unfold bne;rw[show (n.2.2.2.2.2.2.2.2.2.2.1.2.2.1==w.2.2.2.2.1)=true from h3];rfl];cases h4:w.2.2.2.2.2.1==w.2.2.1 with
    |false =>
     rw[show eA K n w=n by unfold eA;rw[hb,decide_eq_false h1,h2,h3,h4];rfl];rw[show (w.2.2.2.2.2.1 != w.2.2.1)=true by unfold bne;rw[h4];rfl];rfl
    |true =>
     have hB:pe n w=true:=by rw[hb,decide_eq_false h1,h2,h3,h4];rfl
     rw[show (w.2.2.2.2.2.1 != w.2.2.1)=false by unfold bne;rw[h4];rfl];have hp:=(rK h.x h1).2.2.2;have hn:=h.now1;have hP:=tj h.x hw hB;simp only[cond_false];rw[show wr .i64 (wr .i64 (wr .i64 (n.2.2.2.2.2.1-n.2.2.2.2.2.2.2.2.2.2.1.2.1)*1000)+500)=(bZ n-(aa.probe n).2.1)*1000+500 by
      obtain⟨p1,p2⟩:=hp;show wr .i64 (wr .i64 (wr .i64 (bZ n-(aa.probe n).2.1)*1000)+500)=_;rw[aM (n:=bZ n-_) (by omega) (by omega),aM (n:=_*1000) (by omega) (by omega),aM (by omega) (by omega)]]
     rw[xw];simp only[AA];refine (congrArg (λo=>AH o _) (x8 K (aa.places n) w.2.2.1 (av.coord w) (vA n) n.1 h.x.places hK)).trans ?_;simp only[AA];rw[show eA K n w=oj n ((jr n w).foldl (pd K w) (aa.coord n)) (jr n w) by unfold eA;rw[hB];rfl];show Q124.l0 K (n,w,()) (0,(aa.coord n).1,(aa.coord n).2.1,(aa.coord n).2.2.1,(aa.coord n).2.2.2,jr n w)=_;have hl:=plen hP;refine lM (step:=λrec a=>Q124.l0.step K (n,w,()) rec a) (jr n w) (pd K w) co (λc i=>((i:Int),c.1,c.2.1,c.2.2.1,c.2.2.2,jr n w)) (λc=>some ((oj n c (jr n w),()),())) (aa.coord n) h.x.coord ?_ ?_ (by omega)
     ·intro rec c i hi hc;refine⟨?_,th hc hK⟩;simp only[Q124.l0.step];rw[bC (by omega:(i:Int)<(AB (jr n w):Int)),AF,ah hi,aw i (by omega)];simp only[cond_true,AA];have htl:=(hP.1 _ (AD hi)).2.2.2.2.1.2;generalize (jr n w)[i]=y at *;unfold pd;cases y.1==w.2.2.1 with
      |false=>rfl
      |true =>
       simp only[cond_true];refine (congrArg (λo=>AH o _) (med_s K y.2.2 (by omega) hK)).trans ?_;refine (congrArg (λo=>AH o _) (vv K c (av.coord w) (qE K y.2.2) w.2.2.2.2.1 hc hK).1).trans ?_;rfl
     ·intro rec c hc;simp only[Q124.l0.step,aR,cond_false];rfl
theorem zc {K:Nat}{n:aa}{w:av}(h:UpN n)(hw:co (av.coord w))(hK:1048577<K):UpN (eA K n w)/\(eA K n w).1=n.1/\(eA K n w).2.2.1=n.2.2.1:=by
 unfold eA;cases hb:pe n w with
 |false=>exact⟨h,rfl,rfl⟩
 |true=>exact⟨h.heard (kW (Inv:=co) h.x.coord λc p _ hc=>th hc hK) (tj h.x hw hb),rfl,rfl⟩
def ou (n:aa)(w:av):Prop:=n.2.1=true/\n.2.2.1=false/\w.2.2.2.1=n.1/\w.2.2.1≠n.1 /\
 (if w.1=2 then w.2.1=6/\ar w.2.2.1≠ar n.1/\(bX (av.table w) (ar n.1)\/bX (av.table w) (ar w.2.2.1)) else ar w.2.2.1=ar n.1/\(w.2.1≠6\/¬ bX (av.table w) (ar n.1)))
theorem ya (K:Nat)(n:aa)(w:av)(hw:(av.table w).length<=1048576)(hK:1048577<K):Ret (Q92.f K (n,w,())) (ou n w):=by
 refine (Ret.cndN (P:=¬ n.2.1=true) (b:=!n.2.1) (by simp) λ_=>Ret.cndN (P:=n.2.2.1=true) (b:=n.2.2.1) Iff.rfl λ_=>Ret.cndN (P:=w.2.2.2.1≠n.1) (b:=w.2.2.2.1 != n.1) (by simp) λ_=>Ret.cndN (P:=w.2.2.1=n.1) (b:=w.2.2.1==n.1) (by simp) λ_ =>
  (?_:Ret _ (if w.1=2 then w.2.1=6/\ar w.2.2.1≠ar n.1/\(bX (av.table w) (ar n.1)\/bX (av.table w) (ar w.2.2.1)) else ar w.2.2.1=ar n.1/\(w.2.1≠6\/¬ bX (av.table w) (ar n.1))))).iff ?_
 ·refine Ret.vl (dV K n.1) ?_;obtain⟨b1,e1,h1⟩:=fw K (av.table w) (ar n.1) hw hK;obtain⟨b2,e2,h2⟩:=fw K (av.table w) (ar w.2.2.1) hw hK;by_cases hp:w.1=2
  ·rw[show (w.1==2)=true by simpa using hp,if_pos hp];refine Ret.cnd (P:=w.2.1=6) (b:=w.2.1==6) (by simp) λ_=>?_
   refine Ret.cnd (P:=ar w.2.2.1≠ar n.1) (b:=ar w.2.2.1 != ar n.1) (by simp) λ_=>Ret.vl e1 ?_
   cases b1 with
   |true=>exact Ret.yes (.inl (h1.1 rfl))
   |false =>
    refine Ret.vl e2 ?_;exact Ret.of (b:=b2) (h2.trans ⟨.inr,λh=>h.resolve_left λh=>by have:=h1.2 h;cases this⟩)
  ·rw[show (w.1==2)=false by simpa using hp,if_neg hp];refine Ret.cnd (P:=ar w.2.2.1=ar n.1) (b:=ar w.2.2.1==ar n.1) (by simp) λ_=>?_
   by_cases hk:w.2.1=6
   ·show Ret (bif w.2.1 != 6 then _ else _) _;rw[show (w.2.1 != 6)=false by simpa using hk];refine Ret.vl e1 (Ret.of (b:=!b1) ?_);rw[Bf,<- Bl,h1];exact⟨.inr,λh=>h.resolve_left λh=>h hk⟩
   ·show Ret (bif w.2.1 != 6 then _ else _) _;rw[show (w.2.1 != 6)=true by simpa using hk];exact Ret.yes (.inl hk)
 ·unfold ou;rw[AS,Bl,AS]
def qF (kind:Int)(n:aa)(to seq about:Int)(t:List af):av:=(1,kind,n.1,to,seq,about,aa.coord n,t)
theorem ov (K:Nat)(n:aa)(kind to seq about:Int)(t:List af)(ht:t.length<=1048576):Q93.f K (n,kind,to,seq,about,t,())=some ((qF kind n to seq about t,()),()):=by
 simp only[Q93.f];rw[szb _ _ _ (by omega) (by show (AB ([]:List af))+t.length<=_;simp;omega)];rfl
def mF (t:List af)(s:Int):Bool:=t.all λf=>ar f.1==s
theorem lR {t:List af}{s:Int}:mF t s=true<->bX t s:=by simp[mF,bX]
def ir (t:List af):af:=(t.head?).getD (0,0,0,false)
def e8 (n:aa)(w:av):List af:=eK (ey (aa.others n) (ar (ir (av.table w)).1)) (av.table w)
def backW (n:aa)(w:av):av:=(2,6,n.1,w.2.2.1,0,n.1,aa.coord n,e8 n w)
def sumN (n:aa)(w:av):aa:=setO n (bO (λx:cB=>x.1) (ar (ir (av.table w)).1,e8 n w) (aa.others n))
def fP (n:aa)(w:av):aa×List av:=bif mF (av.table w) (ar n.1) then (ib n (av.table w) n.1,[]) else
 (sumN n w,bif w.1==2&&decide (av.table w≠e8 n w) then [backW n w] else [])
theorem ox:∀ {fs t:List af} {g:af},g∈eK t fs->g∈t\/g∈fs
 |[],_,_,h=>.inl h
 |f::fs,t,g,h=>by
  rcases ox (fs:=fs) h with h|h
  ·have h:g∈(bY t f).1:=h;rcases fZ t f with e|e
   ·rw[e]at h;exact .inl h
   ·rw[e]at h;rcases a7.1 h with rfl|⟨h,_⟩
    ·exact .inr (by simp)
    ·exact .inl h
  ·exact .inr (by simp[h])
theorem oy:∀ {fs t:List af} {g:af},g∈t->∃ g'∈eK t fs,g'.1=g.1
 |[],_,g,h=>⟨g,h,rfl⟩
 |f::fs,t,g,h=>by
  obtain⟨g1,h1,e1⟩:=lN (f:=f) h;obtain⟨g2,h2,e2⟩:=oy (fs:=fs) h1;exact⟨g2,h2,e2.trans e1⟩
theorem sI {t:List af}(hA:Asc (λg:af=>g.1) t)(f:af):∃ g∈(bY t f).1,g.1=f.1:=by
 by_cases h:∃ g∈t,g.1=f.1
 ·obtain⟨g,hg,e⟩:=h;obtain⟨g',h1,h2⟩:=lN (f:=f) hg;exact⟨g',h1,h2.trans e⟩
 ·rw[hZ λg hg e=>h ⟨g,hg,e⟩];exact⟨f,a7.2 (.inl rfl),rfl⟩
theorem lS {n:aa}{w:av}(h:cN n.1 (aa.others n))(hw:aB (av.table w))(hh:nV (av.table w)):aB (e8 n w)/\e8 n w≠[]/\bX (e8 n w) (ar (ir (av.table w)).1):=by
 have hk:=rI h (ar (ir (av.table w)).1);refine⟨pL hk hw.1,?_,?_⟩
 ·unfold e8;cases ht:av.table w with
  |nil=>rw[ht]at hh;exact hh.elim
  |cons f l =>
   obtain⟨g,h1,_⟩:=sI (f:=f) (t:=ey (aa.others n) (ar (ir (f::l)).1)) (by rw[ht]at hk;exact hk.2);obtain⟨g',h2,_⟩:=oy (fs:=l) h1;exact Bb h2
 ·intro g hg;rcases ox hg with hg|hg
  ·rcases pG (l:=aa.others n) (s:=ar (ir (av.table w)).1) with e|⟨x,hx,e1,e⟩
   ·rw[e]at hg;cases hg
   ·rw[e]at hg;rw[<- e1];exact (h.1 x hx).2.2.2.2 g hg
  ·cases ht:av.table w with
   |nil=>rw[ht]at hh;exact hh.elim
   |cons f l =>
    rw[ht]at hh hg;exact hh g hg
theorem yb {x:Int}(h:InP x 0 7):InP (ar x) 0 1:=by
 rw[jq h];obtain⟨h1,h2⟩:=h;constructor <;> omega
theorem wV {t:List af}(hh:nV t)(ht:aB t):InP (ir t).1 0 7:=by
 cases t with
 |nil=>exact hh.elim
 |cons f l=>exact (ht.1 f (by simp)).1
theorem vB (K:Nat)(n:aa)(w:av)(h:UpN n)(hw:aB (av.table w))(hh:nV (av.table w))(hK:1048577<K):Q107.f K (n,w,())=some (((fP n w).1,(fP n w).2,()),()):=by
 simp only[Q107.f];rw[dV K n.1];simp only[AA];obtain⟨b1,e1,h1⟩:=fw K (av.table w) (ar n.1) (cK hw) hK;have hb:mF (av.table w) (ar n.1)=b1:=by rw[A9,lR,h1]
 unfold fP;rw[hb];refine (congrArg (λo=>AH o _) e1).trans ?_;simp only[rb,AA];cases b1 with
 |true =>
  simp only[cond_true];refine (congrArg (λo=>AH o _) (te K n (av.table w) n.1 h.learns hw.1 (cK hw) h.x.me hK)).trans rfl
 |false =>
  simp only[cond_false];obtain⟨a1,a2,a3⟩:=lS (n:=n) h.x.others hw hh;have hidx:idx (av.table w) 0=some (ir (av.table w)):=by
   cases ht:av.table w with
   |nil=>rw[ht]at hh;exact hh.elim
   |cons f l=>rfl
  refine (congrArg (λo=>AH o _) hidx).trans ?_;simp only[AA];rw[dV K];simp only[AA];refine (congrArg (λo=>AH o _) (vz K n (ar (ir (av.table w)).1) (av.table w) h.x.others hw hK)).trans ?_;simp only[AA];refine (congrArg (λo=>AH o _) (sum_s K n (ar (ir (av.table w)).1) (e8 n w) h.x.others hK)).trans ?_;simp only[AA];cases w.1==2 with
  |false=>rfl
  |true =>
   simp only[cond_true,Ao];refine (congrArg (λo=>AH o _) (wU K (av.table w) (e8 n w) (cK hw) hK)).trans ?_;simp only[rb,AA];cases decide (av.table w≠e8 n w) with
   |false=>rfl
   |true =>
    simp only[cond_true];refine (congrArg (λo=>AH o _) (ov K (sumN n w) 6 w.2.2.1 0 n.1 (e8 n w) (cK a1))).trans rfl
theorem uk {n:aa}{w:av}(h:UpN n)(hg:n.2.2.1=false)(hw:aB (av.table w))(hh:nV (av.table w)):UpN (fP n w).1/\(fP n w).1.1=n.1/\(fP n w).1.2.2.1=false:=by
 unfold fP;cases hb:mF (av.table w) (ar n.1) with
 |true=>exact la h hg hw (lR.1 hb) (eM.me h.x.me)
 |false =>
  obtain⟨a1,a2,a3⟩:=lS (n:=n) h.x.others hw hh;refine⟨h.setOthers (ug h.x.others (yb (wV hh hw)) (λe=>?_) a2 a1 a3),rfl,hg⟩;have:bX (av.table w) (ar n.1):=by
   cases ht:av.table w with
   |nil=>rw[ht]at hh;exact hh.elim
   |cons f l=>rw[ht]at hh e;rw[<- e];exact hh
  rw[lR.2 this]at hb;cases hb
noncomputable def eZ (K:Nat)(n:aa)(w:av):aa×List av :=
 bif w.2.1==1 then (bif ar w.2.2.2.2.2.1 != ar n.1 then (n,[]) else bif w.2.2.2.2.2.1==n.1 then (n,[]) else (jo n,[qF 2 (jo n) w.2.2.2.2.2.1 w.2.2.2.2.1 n.1 (jn n w.2.2.2.2.2.1)]))
 else bif w.2.1==3 then (bif ar w.2.2.2.2.2.1 != ar n.1 then (n,[]) else bif w.2.2.2.2.2.1==n.1 then (n,[]) else bif w.2.2.2.2.2.1==w.2.2.1 then (n,[]) else (jo n,[qF 1 (jo n) w.2.2.2.2.2.1 w.2.2.2.2.1 w.2.2.1 (jn n w.2.2.2.2.2.1)]))
 else bif w.2.1==4 then (n,[qF 5 n w.2.2.1 0 n.1 (aa.table n)]) else bif w.2.1==2 then (eA K n w,[]) else (n,[])
theorem wW (K:Nat)(n:aa)(w:av)(h:UpN n)(hw:co (av.coord w))(hK:1048577<K):Q125.f K (n,w,())=some (((eZ K n w).1,(eZ K n w).2,()),()):=by
 simp only[Q125.f];rw[dV K n.1];simp only[AA];have hf:=tf K n w.2.2.2.2.2.1 h.x.say hK;have ht:=cK (mD h.x.say w.2.2.2.2.2.1);unfold eZ;cases w.2.1==1 with
 |true =>
  simp only[cond_true];rw[dV K];simp only[AA];cases ar w.2.2.2.2.2.1 != ar n.1 with
  |true=>rfl
  |false =>
   simp only[cond_false];cases w.2.2.2.2.2.1==n.1 with
   |true=>rfl
   |false =>
    simp only[cond_false];refine (congrArg (λo=>AH o _) hf).trans ?_;simp only[AA];refine (congrArg (λo=>AH o _) (ov K (jo n) 2 w.2.2.2.2.2.1 w.2.2.2.2.1 n.1 _ ht)).trans rfl
 |false =>
  simp only[cond_false];cases w.2.1==3 with
  |true =>
   simp only[cond_true];rw[dV K];simp only[AA];cases ar w.2.2.2.2.2.1 != ar n.1 with
   |true=>rfl
   |false =>
    simp only[cond_false];cases w.2.2.2.2.2.1==n.1 with
    |true=>rfl
    |false =>
     simp only[cond_false];cases w.2.2.2.2.2.1==w.2.2.1 with
     |true=>rfl
     |false =>
      simp only[cond_false];refine (congrArg (λo=>AH o _) hf).trans ?_;simp only[AA];refine (congrArg (λo=>AH o _) (ov K (jo n) 1 w.2.2.2.2.2.1 w.2.2.2.2.1 w.2.2.1 _ ht)).trans rfl
  |false =>
   simp only[cond_false];cases w.2.1==4 with
   |true=>exact (congrArg (λo=>AH o _) (ov K n 5 w.2.2.1 0 n.1 (aa.table n) (cK h.x.table))).trans rfl
   |false =>
    simp only[cond_false];cases w.2.1==2 with
    |true=>exact (congrArg (λo=>AH o _) (ack_s K n w h hw hK)).trans rfl
    |false=>rfl
theorem vC {K:Nat}{n:aa}{w:av}(h:UpN n)(hw:co (av.coord w))(hK:1048577<K):UpN (eZ K n w).1/\(eZ K n w).1.1=n.1/\(eZ K n w).1.2.2.1=n.2.2.1:=by
 unfold eZ;cases w.2.1==1 <;> cases w.2.1==3 <;> cases w.2.1==4 <;> cases w.2.1==2 <;> cases ar w.2.2.2.2.2.1 != ar n.1 <;> cases w.2.2.2.2.2.1==n.1 <;> cases w.2.2.2.2.2.1==w.2.2.1 <;> first|exact⟨h,rfl,rfl⟩|exact⟨h.way,rfl,rfl⟩|exact zc h hw hK
open Classical in
noncomputable def dg (K:Nat)(n:aa)(w:av):aa×List av :=
 if gO w/\ou n w then (if w.2.1=6 then fP n w else eZ K (ib n (av.table w) w.2.2.1) w) else (n,[])
theorem lb {n:aa}{w:av}(hW:gO w)(h:ou n w)(hk:w.2.1≠6):bX (av.table w) (ar n.1)/\eM n w.2.2.1:=by
 obtain⟨_,_,w3,_,_,_,_,_,w9⟩:=hW;rw[if_neg hk]at w9;obtain⟨_,_,_,_,h5⟩:=h;by_cases hp:w.1=2
 ·rw[if_pos hp]at h5;exact absurd h5.1 hk
 ·rw[if_neg hp]at h5;exact⟨h5.1 ▸ w9,w3,h5.1⟩
theorem zd (K:Nat)(n:aa)(w:av)(h:n.2.1=true->UpN n)(hw:(av.table w).length<=1048576)(hK:1048577<K):Q126.f K (n,w,())=some (((dg K n w).1,(dg K n w).2,()),()):=by
 simp only[Q126.f];obtain⟨b1,e1,h1⟩:=ra K w hw hK;obtain⟨b2,e2,h2⟩:=ya K n w hw hK;rw[e1];cases b1 with
 |false =>
  unfold dg;rw[if_neg λh=>by have:=h1.2 h.1;cases this];rfl
 |true =>
  have hW:=h1.1 rfl;simp only[rb,AA,AI,cond_false];refine (congrArg (λo=>AH o _) e2).trans ?_;cases b2 with
  |false =>
   unfold dg;rw[if_neg λh=>by have:=h2.2 h.2;cases this];rfl
  |true =>
   have hT:=h2.1 rfl;have hu:=h hT.1;simp only[rb,AA,AI,cond_false];unfold dg;rw[if_pos ⟨hW,hT⟩];have hWt:=hW.2.2.2.2.2.2.2.1;by_cases hk:w.2.1=6
   ·rw[if_pos hk,show (w.2.1==6)=true by simpa using hk];have hh:=hW.2.2.2.2.2.2.2.2;rw[if_pos hk]at hh;exact (congrArg (λo=>AH o _) (vB K n w hu hWt hh hK)).trans rfl
   ·rw[if_neg hk,show (w.2.1==6)=false by simpa using hk];obtain⟨hs,hb⟩:=lb hW hT hk;have hl:=(la hu hT.2.1 hWt hs hb).1;refine (congrArg (λo=>AH o _) (te K n (av.table w) w.2.2.1 hu.learns hWt.1 hw hb.1 hK)).trans ?_;exact (congrArg (λo=>AH o _) (wW K _ w hl hW.2.2.2.2.2.2.1 hK)).trans rfl
theorem tk {K:Nat}{n:aa}{w:av}(h:UpN n)(hK:1048577<K):UpN (dg K n w).1/\(dg K n w).1.1=n.1/\(dg K n w).1.2.2.1=n.2.2.1:=by
 unfold dg;split
 ·rename_i hc;obtain⟨hW,hT⟩:=hc;have hWt:=hW.2.2.2.2.2.2.2.1;split
  ·rename_i hk;have hh:=hW.2.2.2.2.2.2.2.2;rw[if_pos hk]at hh;rw[hT.2.1];exact uk h hT.2.1 hWt hh
  ·rename_i hk;obtain⟨hs,hb⟩:=lb hW hT hk;have hl:=la h hT.2.1 hWt hs hb;have ha:=vC (w:=w) hl.1 hW.2.2.2.2.2.2.1 hK;exact⟨ha.1,ha.2.1.trans hl.2.1,ha.2.2.trans (hl.2.2.trans hT.2.1.symm)⟩
 ·exact⟨h,rfl,rfl⟩
theorem oz {K:Nat}{n:aa}{w:av}(h:UpN n)(hK:1048577<K):(dg K n w).2.length<=1/\∀ x∈(dg K n w).2,InP x.2.2.2.1 0 7/\(av.table x).length<=1048576:=by
 unfold dg;split
 ·rename_i hc;obtain⟨hW,hT⟩:=hc;have hWt:=hW.2.2.2.2.2.2.2.1;split
  ·rename_i hk;have hh:=hW.2.2.2.2.2.2.2.2;rw[if_pos hk]at hh;obtain⟨a1,a2,a3⟩:=lS (n:=n) h.x.others hWt hh;unfold fP;cases mF (av.table w) (ar n.1) with
   |true=>exact⟨by simp,by simp⟩
   |false =>
    simp only[cond_false];cases w.1==2&&decide (av.table w≠e8 n w) with
    |false=>exact⟨by simp,by simp⟩
    |true=>exact⟨by simp,λx hx=>by rw[AV.1 hx];exact⟨hW.2.2.1,cK a1⟩⟩
  ·rename_i hk;obtain⟨hs,hb⟩:=lb hW hT hk;have hl:=la h hT.2.1 hWt hs hb;have ht:=cK (mD hl.1.x.say w.2.2.2.2.2.1);have htt:=cK hl.1.x.table;have w3:=hW.2.2.1;have w6:=hW.2.2.2.2.2.1;generalize ib n (av.table w) w.2.2.1=m at *;unfold eZ;cases w.2.1==1 <;> cases w.2.1==3 <;> cases w.2.1==4 <;> cases w.2.1==2 <;> cases ar w.2.2.2.2.2.1 != ar m.1 <;> cases w.2.2.2.2.2.1==m.1 <;> cases w.2.2.2.2.2.1==w.2.2.1 <;>
    first|exact⟨AX _,λx hx=>by rw[AV.1 hx];exact⟨w6,ht⟩⟩|exact⟨AX _,λx hx=>by rw[AV.1 hx];exact⟨w3,htt⟩⟩|exact⟨Aj _,λx hx=>nomatch hx⟩
 ·exact⟨by simp,by simp⟩
end Go.Proofs.YtmcbmojdeikcdaaGreatEv
