/- The marks that a law writes into what was answered, and the look whether they still stand. -/
import Derived.Test.YtmcbmojdeikcdaaGreatP1
import Derived.Test.YtmcbmojdeikcdaaGreatE0
import Derived.Laws.Strings
set_option linter.unusedVariables false
set_option linter.unusedSimpArgs false
open Bool renaming not_true->AK,not_false->Ae,and_eq_true->Ai,true_and->Ap,false_and->A4,and_self->A8,eq_iff_iff->BE,false_or->BO,and_true->BP,true_or->BS,or_true->Bg,not_eq_true'->Bi,not_eq_true->Bo,and_false->Br,or_false->Bt
open ByteArray renaming size_extract->BC
open Classical renaming not_not->Ao
open Eq renaming trans->Bf
open Go.ByteArray renaming toList_eq->Ba
open Go.IntKind renaming wrap_i64->Bl
open Int renaming toNat->AC,eq_ofNat_of_zero_le->AE,toNat_natCast->AH,fdiv->AZ,le_refl->Ac,tdiv_eq_ediv_of_nonneg->Ak,tmod->A6,toNat_zero->A9,tdiv->BA,le_trans->BB,le_of_lt->BH,tmod_lt_of_pos->BK,tmod_eq_emod_of_nonneg->BL,tmod_nonneg->BW,tdiv_le_self->Bm,tdiv_nonneg->Bq
open List renaming length->AB,getElem_mem->AD,mem_filter->AF,length_cons->AI,length_append->AJ,append_nil->AL,drop_eq_getElem_cons->AM,getElem?_eq_getElem->AN,getElem_of_mem->AO,length_nil->AP,nil_append->AQ,mem_map->AR,mem_singleton->AS,pairwise_cons->AT,filter_eq_self->AU,filter_eq_nil_iff->AV,length_map->AW,filter_cons->AX,drop_zero->Aa,length_take->Ab,eq_nil_of_length_eq_zero->Ad,mem_append->Af,length_drop->Ah,pairwise_map->Aj,filter_append->Am,reverse_reverse->An,take_length->Aq,mem_of_find?_eq_some->Ar,append_assoc->At,pairwise_append->Au,take_succ_eq_append_getElem->Av,mem_cons->Aw,take_of_length_le->Ax,length_filter_le->Az,take_append_drop->A0,getElem?_eq_none->A1,length_singleton->A2,reverse_cons->A3,pairwise_iff_getElem->A7,drop_length->BD,length_take_le->BF,length_pos_iff->BG,find?_eq_none->BI,mem_take_iff_getElem->BM,getElem_take->BN,pairwise_singleton->BQ,ext_getElem->BR,find?_cons->BT,find?_some->BU,map_append->BV,mem_of_mem_take->BX,length_reverse->BY,flatMap_append->BZ,map_cons->Bb,mem_cons_self->Bc,ne_nil_of_mem->Bd,getElem_drop->Be,take_add_one->Bh,perm_middle->Bj,flatMap_nil->Bn,length_set->Bp,mem_range->Bs
open List.Pairwise renaming filter->A5
open Nat renaming le_refl->AY,le_trans->Ag,zero_le->Al,lt_or_eq_of_le->Ay,mul_le_mul->BJ
open Option renaming bind_some->AA,bind->AG,getD_some->Bk
namespace Go.Proofs.YtmcbmojdeikcdaaGreatEv
open Go
theorem kb {α β R:Type}(t:List α)(p:α->Bool)(g:α->β)(n:Nat)(fin:List β->Option R){step:(List β×Int->Option R)->List β×Int->Option R}
  (h:∀ (rec:List β×Int->Option R) (acc:List β) (i:Nat) (hi:i<t.length),acc.length<=i->acc.length<n->step rec (acc,(i:Int))=rec (bif p t[i] then acc++[g t[i]] else acc,((i+1:Nat):Int)))
  (hn:∀ (rec:List β×Int->Option R) (acc:List β) (i:Nat),i<t.length->acc.length<=i->n<=acc.length->step rec (acc,(i:Int))=fin acc)
  (hend:∀ (rec:List β×Int->Option R) (acc:List β),acc.length<=t.length->step rec (acc,(t.length:Int))=fin acc) :
  ∀ (d i k:Nat) (acc:List β),i+d=t.length->d<k->acc.length<=i->acc.length<=n->ae step k (acc,(i:Int))=fin (acc++(((t.drop i).filter p).map g).take (n-acc.length)):=by
 intro d;induction d with
 |zero =>
  intro i k acc hi hk ha _;obtain⟨k,rfl⟩:∃ k',k=k'+1:=⟨k-1,by omega⟩;have:i=t.length:=by omega
  subst this;show step (ae step k) _=_;rw[hend _ _ ha];simp
 |succ d ih =>
  intro i k acc hi hk ha hle;obtain⟨k,rfl⟩:∃ k',k=k'+1:=⟨k-1,by omega⟩;have hlt:i<t.length:=by omega
  show step (ae step k) _=_;by_cases hc:acc.length<n
  ·rw[h _ _ _ hlt ha hc,AM hlt,AX];cases hp:p t[i] with
   |true =>
    simp only[cond_true,if_true,Bb];rw[ih (i+1) k _ (by omega) (by omega) (by simp;omega) (by simp;omega)];congr 1;obtain⟨m,hm⟩:∃ m,n-acc.length=m+1:=⟨n-acc.length-1,by omega⟩;rw[hm,List.take_succ_cons,At];simp only[AJ,AI,AP];rw[show n-(acc.length+(0+1))=m by omega];rfl
   |false =>
    simp only[cond_false];rw[ih (i+1) k _ (by omega) (by omega) (by omega) (by omega)];rfl
  ·rw[hn _ _ _ hlt ha (by omega)];rw[show n-acc.length=0 by omega];simp
theorem tY {α β R:Type}(t:List α)(p:α->Bool)(g:α->β)(fin:List β->Option R){step:(List β×Int->Option R)->List β×Int->Option R}
  (h:∀ (rec:List β×Int->Option R) (acc:List β) (i:Nat) (hi:i<t.length),acc.length<=i->step rec (acc,(i:Int))=rec (bif p t[i] then acc++[g t[i]] else acc,((i+1:Nat):Int)))
  (hend:∀ (rec:List β×Int->Option R) (acc:List β),acc.length<=t.length->step rec (acc,(t.length:Int))=fin acc) {k:Nat} (hk:t.length<k) :
  ae step k ([],0)=fin ((t.filter p).map g):=by
 have:=kb t p g (t.length+1) fin (λrec acc i hi ha _=>h rec acc i hi ha) (λrec acc i hi ha hn=>by omega) hend t.length 0 k [] (by omega) hk (AY _) (by simp);refine this.trans ?_;congr 1;simp only[AQ,AP,Aa];exact Ax (by have:=Az p t;simp;omega)
theorem wQ {e:Ty}{b:Nat}{xs:List e.den}(h:xs.length*b<=140737488355328):jm e b xs=some ((xs,()),()):=by
 unfold jm;rw[decide_eq_true (by simpa[ah]using h)];rfl
theorem oe {α β:Type}{xs ys:List α}{b:Nat}{x y:β}(h:(xs.length+ys.length)*b<=140737488355328):(bif decide ((AB xs+AB ys)*b<=ah) then x else y)=x:=by
 rw[decide_eq_true (by simpa[ah]using h)];rfl
def lK (f:af):Bool:=f.2.2.2&&f.2.2.1==1
def eY (t:List af):List Int:=((t.filter lK).map (·.1)).take 2
theorem tc (K:Nat)(t:List af)(ht:t.length<=1048576)(hK:1048577<K):Q147.f K (t,2,())=some ((eY t,()),()):=by
 have:=kb (step:=λrec a=>Q147.l0.step K (t,2,()) rec a) t lK (λf=>f.1) 2 (λxs=>some ((xs,()),())) ?_ ?_ ?_ t.length 0 K [] (by omega) (by omega) (AY _) (by simp)
 ·exact this
 ·intro rec acc i hi ha hn;simp only[Q147.l0.step];rw[bK (by omega:(i:Int)<(AB t:Int)),ai hi,av i (by omega),decide_eq_true (by omega:(AB acc:Int)<2)];simp only[cond_true,AA,lK];cases t[i].2.2.2 with
  |true =>
   simp only[cond_true,Ap];cases t[i].2.2.1==1 with
   |true=>simp only[cond_true];rw[oe (by simp;omega)]
   |false=>rfl
  |false=>rfl
 ·intro rec acc i hi ha hn;simp only[Q147.l0.step];rw[bK (by omega:(i:Int)<(AB t:Int)),decide_eq_false (by omega:¬ (AB acc:Int)<2)];rfl
 ·intro rec acc _;simp only[Q147.l0.step,bc];rfl
theorem vj (t:List af):(eY t).length<=2:=by
 unfold eY;exact BF _ _
def dt (l:List bZ)(s:Int):List af:=((l.find? λx=>x.1==s).map (·.2)).getD []
theorem tZ {R:Type}(l:List bZ)(s:Int)(fin:List af->Option R){step:(Int->Option R)->Int->Option R}
  (h:∀ (rec:Int->Option R) (i:Nat) (hi:i<l.length),step rec (i:Int)=bif l[i].1==s then fin l[i].2 else rec ((i+1:Nat):Int))
  (hend:∀ rec:Int->Option R,step rec (l.length:Int)=fin []) :
  ∀ (d i k:Nat),i+d=l.length->d<k->ae step k (i:Int)=fin (dt (l.drop i) s):=by
 intro d;induction d with
 |zero =>
  intro i k hi hk;obtain⟨k,rfl⟩:∃ k',k=k'+1:=⟨k-1,by omega⟩;have:i=l.length:=by omega
  subst this;show step (ae step k) _=_;rw[hend];simp[dt]
 |succ d ih =>
  intro i k hi hk;obtain⟨k,rfl⟩:∃ k',k=k'+1:=⟨k-1,by omega⟩;have hlt:i<l.length:=by omega
  show step (ae step k) _=_;rw[h _ _ hlt,AM hlt];simp only[dt,BT];cases l[i].1==s with
  |true=>rfl
  |false=>exact ih (i+1) k (by omega) (by omega)
theorem jO {l:List bZ}{s:Int}:dt l s=[]\/∃ x∈l,x.1=s/\dt l s=x.2:=by
 unfold dt;cases h:l.find? λx=>x.1==s with
 |none=>exact .inl rfl
 |some x=>exact .inr ⟨x,Ar h,by simpa using BU h,rfl⟩
def bN {α:Type}(k:α->Int)(x:α)(xs:List α):List α:=xs.filter (λy=>decide (k y<k x))++x::xs.filter (λy=>decide (k x<k y))
theorem pS {α:Type}{k:α->Int}{xs:List α}{v:Int}{m:Nat}(hm:m<=xs.length)(lo:∀ i,(hi:i<xs.length)->i<m->k xs[i]<v)(hi:∀ i,(h:i<xs.length)->m<=i->v<=k xs[i]):xs.filter (λy=>decide (k y<v))=xs.take m:=by
 conv=>lhs;rw[<- A0 m xs]
 rw[Am];have h1:(xs.take m).filter (λy=>decide (k y<v))=xs.take m:=by
  rw[AU];intro y hy;obtain⟨i,h1,rfl⟩:=AO hy;rw[Ab]at h1;rw[BN];exact decide_eq_true (lo i (by omega) (by omega))
 have h2:(xs.drop m).filter (λy=>decide (k y<v))=[]:=by
  rw[AV];intro y hy;obtain⟨i,h1,rfl⟩:=AO hy;rw[Ah]at h1;rw[Be];have:=hi (m+i) (by omega) (by omega);simp only[decide_eq_true_eq];omega
 rw[h1,h2,AL]
theorem pT {α:Type}{k:α->Int}{xs:List α}{v:Int}{m:Nat}(hm:m<=xs.length)(lo:∀ i,(hi:i<xs.length)->i<m->k xs[i]<=v)(hi:∀ i,(h:i<xs.length)->m<=i->v<k xs[i]):xs.filter (λy=>decide (v<k y))=xs.drop m:=by
 conv=>lhs;rw[<- A0 m xs]
 rw[Am];have h1:(xs.take m).filter (λy=>decide (v<k y))=[]:=by
  rw[AV];intro y hy;obtain⟨i,h1,rfl⟩:=AO hy;rw[Ab]at h1;rw[BN];have:=lo i (by omega) (by omega);simp only[decide_eq_true_eq];omega
 have h2:(xs.drop m).filter (λy=>decide (v<k y))=xs.drop m:=by
  rw[AU];intro y hy;obtain⟨i,h1,rfl⟩:=AO hy;rw[Ah]at h1;rw[Be];exact decide_eq_true (hi (m+i) (by omega) (by omega))
 rw[h1,h2,AQ]
theorem nC {α:Type}{k:α->Int}{xs:List α}{x:α}{m:Nat}(h:Asc k xs)(hm:m<xs.length)(e:k xs[m]=k x):xs.set m x=bN k x xs:=by
 have hg:=ek.1 h;have lt:∀ i,(hi:i<xs.length)->i<m->k xs[i]<k x:=λi hi hlt=>by rw[<- e];exact hg i m hi hm hlt
 have gt:∀ i,(hi:i<xs.length)->m<i->k x<k xs[i]:=λi hi hlt=>by rw[<- e];exact hg m i hm hi hlt
 rw[bN,pS (m:=m) (by omega) lt (λi hi hmi=>by
   rcases Ay hmi with h1|h1
   ·exact BH (gt i hi h1)
   ·subst h1;omega),
  pT (m:=m+1) (by omega) (λi hi hmi=>by
   rcases Ay (Nat.le_of_lt_succ hmi) with h1|h1
   ·exact BH (lt i hi h1)
   ·subst h1;omega) (λi hi hmi=>gt i hi hmi),
  List.set_eq_take_append_cons_drop,if_pos hm]
theorem nD {α:Type}{k:α->Int}{xs:List α}{x:α}{m:Nat}(hm:m<=xs.length)(lo:∀ i,(hi:i<xs.length)->i<m->k xs[i]<k x)(hi:∀ i,(h:i<xs.length)->m<=i->k x<k xs[i]):xs.take m++[x]++xs.drop m=bN k x xs:=by
 rw[bN,pS hm lo (λi h1 h2=>BH (hi i h1 h2)),pT hm (λi h1 h2=>BH (lo i h1 h2)) hi,At];rfl
theorem aZ {α:Type}{k:α->Int}{xs:List α}{x y:α}:y∈bN k x xs<->y=x\/(y∈xs/\k y≠k x):=by
 simp only[bN,Af,Aw,AF,decide_eq_true_eq];constructor
 ·rintro (⟨h1,h2⟩|rfl|⟨h1,h2⟩)
  ·exact .inr ⟨h1,by omega⟩
  ·exact .inl rfl
  ·exact .inr ⟨h1,by omega⟩
 ·rintro (rfl|⟨h1,h2⟩)
  ·exact .inr (.inl rfl)
  ·rcases Int.lt_or_gt_of_ne h2 with h3|h3
   ·exact .inl ⟨h1,h3⟩
   ·exact .inr (.inr ⟨h1,h3⟩)
theorem eA {α:Type}{k:α->Int}{xs:List α}{x:α}(h:Asc k xs):Asc k (bN k x xs):=by
 unfold Asc bN;rw[Au,AT];refine⟨h.filter _,⟨λy hy=>?_,h.filter _⟩,λy hy z hz=>?_⟩
 ·simpa using (AF.1 hy).2
 ·have h1:k y<k x:=by simpa using (AF.1 hy).2
  rcases Aw.1 hz with rfl|hz
  ·exact h1
  ·have h2:k x<k z:=by simpa using (AF.1 hz).2
   omega
theorem wR {α:Type}{k:α->Int}{xs:List α}{x:α}:(bN k x xs).length<=xs.length+1:=by
 have:∀ l:List α,(l.filter (λy=>decide (k y<k x))).length+(l.filter (λy=>decide (k x<k y))).length<=l.length:=by
  intro l;induction l with
  |nil=>simp
  |cons y l ih =>
   simp only[AX,AI];by_cases h1:k y<k x
   ·rw[if_pos (decide_eq_true h1),if_neg (by simp;omega)];simp only[AI];omega
   ·rw[if_neg (by simpa using h1)];split <;> (try simp only[AI]) <;> omega
 have:=this xs;simp only[bN,AJ,AI];omega
theorem nE {α:Type}{k:α->Int}{xs:List α}(h:Asc k xs){i:Nat}(hi:i<xs.length){v:Int}(e:k xs[i]=v):xs.find? (λy=>k y==v)=some xs[i]:=by
 cases h1:xs.find? (λy=>k y==v) with
 |none =>
  have:=BI.1 h1 xs[i] (AD hi);simp[e]at this
 |some y =>
  have h2:k y=v:=by simpa using BU h1
  obtain⟨j,hj,rfl⟩:=AO (Ar h1);have:=rg h hj hi (by rw[h2,e]);subst this;rfl
theorem mD {α:Type}{k:α->Int}{xs:List α}{v:Int}(h:∀ y∈xs,k y≠v):xs.find? (λy=>k y==v)=none:=by
 rw[BI];intro y hy;simpa using h y hy
def i8 {α:Type}(k:α->Int)(x:α):Bool->List α->List α
 |d,[]=>bif d then [] else [x]
 |d,y::ys=>(bif !d&&decide (k x<=k y) then [x] else [])++((bif k y != k x then [y] else [])++i8 k x (d||decide (k x<=k y)) ys)
theorem oh {α:Type}{k:α->Int}{x:α}:∀ {ys:List α},(∀ y∈ys,k x<k y)->i8 k x true ys=ys
 |[],_=>rfl
 |y::ys,h=>by
  have h1:=h y (by simp);simp only[i8,AK,A4,cond_false,BS,AQ];rw[oh (λz hz=>h z (by simp[hz])),show (k y != k x)=true by simp;omega];rfl
theorem kc {α:Type}{k:α->Int}{x:α}:∀ {xs:List α},Asc k xs->i8 k x false xs=bN k x xs
 |[],_=>rfl
 |y::ys,h=>by
  have h':Asc k ys:=(AT.1 h).2;have hy:∀ z∈ys,k y<k z:=(AT.1 h).1;simp only[i8,Ae,Ap,BO];by_cases hk:k x<=k y
  ·rw[decide_eq_true hk,oh (λz hz=>by have:=hy z hz;omega)];simp only[cond_true,bN,AX];have e1:ys.filter (λz=>decide (k z<k x))=[]:=by
    rw[AV];intro z hz;have:=hy z hz;simp;omega
   have e2:ys.filter (λz=>decide (k x<k z))=ys:=by
    rw[AU];intro z hz;have:=hy z hz;simp;omega
   rw[e1,e2,if_neg (by simp;omega)];by_cases he:k y=k x
   ·rw[if_neg (by simp;omega),show (k y != k x)=false by simpa using he];rfl
   ·rw[if_pos (by simp;omega),show (k y != k x)=true by simpa using he];rfl
  ·rw[decide_eq_false hk,kc h',show (k y != k x)=true by simp;omega];simp only[cond_false,cond_true,bN,AX,AQ];rw[if_pos (by simp;omega),if_neg (by simp;omega)];rfl
theorem rl {α A R:Type}(k:α->Int)(x:α)(t:List α)(q:α->Bool)(r0:Option R)(fin:List α->Option R)(S:List α->Bool->Nat->A){step:(A->Option R)->A->Option R}
  (h:∀ (rec:A->Option R) (acc:List α) (d:Bool) (i:Nat) (hi:i<t.length),acc.length<=i+1->(d=false->acc.length<=i)->step rec (S acc d i)=bif q t[i] then r0 else rec (S ((acc++(bif !d&&decide (k x<=k t[i]) then [x] else []))++(bif k t[i] != k x then [t[i]] else [])) (d||decide (k x<=k t[i])) (i+1)))
  (hend:∀ (rec:A->Option R) (acc:List α) (d:Bool),acc.length<=t.length+1->(d=false->acc.length<=t.length)->step rec (S acc d t.length)=fin (acc++(bif d then [] else [x]))) :
  ∀ (n i K:Nat) (acc:List α) (d:Bool),i+n=t.length->n<K->acc.length<=i+1->(d=false->acc.length<=i)->ae step K (S acc d i)=bif (t.drop i).any q then r0 else fin (acc++i8 k x d (t.drop i)):=by
 intro n;induction n with
 |zero =>
  intro i K acc d hi hK ha hd;obtain⟨K,rfl⟩:∃ k',K=k'+1:=⟨K-1,by omega⟩;have:i=t.length:=by omega
  subst this;show step (ae step K) _=_;rw[hend _ _ _ ha hd,BD];rfl
 |succ n ih =>
  intro i K acc d hi hK ha hd;obtain⟨K,rfl⟩:∃ k',K=k'+1:=⟨K-1,by omega⟩;have hlt:i<t.length:=by omega
  show step (ae step K) _=_;rw[h _ _ _ _ hlt ha hd,AM hlt,List.any_cons];cases hq:q t[i] with
  |true=>rfl
  |false =>
   simp only[cond_false,BO,i8];rw[ih (i+1) K _ _ (by omega) (by omega) ?_ ?_]
   ·simp only[At]
   ·cases d with
    |true =>
     simp only[AK,A4,cond_false,AL];cases k t[i] != k x <;> simp <;> omega
    |false =>
     have:=hd rfl;cases hc:decide (k x<=k t[i]) <;> cases k t[i] != k x <;> simp <;> omega
   ·intro hdd;rw[Bool.or_eq_false_iff]at hdd;obtain⟨rfl,hc⟩:=hdd;have:=hd rfl;rw[hc];cases k t[i] != k x <;> simp <;> omega
theorem iz (K:Nat)(n:aa)(hn:NB n)(hK:1048577<K):∃ b,Q55.f K (n,())=rb b/\Q39.f K (n,())=rb b/\(b=true<->cF n):=by
 obtain⟨b,h1,h2⟩:=wO K n hn hK;obtain⟨b',h3,h4⟩:=wP K n hn hK;have:b=b':=by rw[BE,h2,h4]
 subst this;exact⟨b,h1,h3,h2⟩
theorem cF.up {n:aa}(h:cF n)(hu:n.2.1=true):UpP n:=by
 have:=h.2.2.2.2.2
 rwa [if_pos hu]at this
abbrev au:=Int×Int×Int×Int×Int×Int×de×List af
abbrev au.table (w:au):List af:=w.2.2.2.2.2.2.2
abbrev au.coord (w:au):de:=w.2.2.2.2.2.2.1
def oi:List af->Prop
 |[]=>False
 |f::l=>bP (f::l) (ap f.1)
def gS (w:au):Prop:=InP w.1 1 2/\InP w.2.1 1 6/\InP w.2.2.1 0 7/\InP w.2.2.2.1 0 7/\InP w.2.2.2.2.1 0 999999/\InP w.2.2.2.2.2.1 0 7/\cr (au.coord w)/\aA (au.table w) /\
 (if w.2.1=6 then oi (au.table w) else bP (au.table w) (ap w.2.2.1))
theorem rm (K:Nat)(w:au)(hw:(au.table w).length<=1048576)(hK:1048577<K):Ret (Q76.f K (w,())) (gS w):=by
 refine Ret.nx (ci K _ _ _) λ_=>Ret.nx (ci K _ _ _) λ_=>Ret.nx (ci K _ _ _) λ_=>Ret.nx (ci K _ _ _) λ_=>Ret.nx (ci K _ _ _) λ_=>Ret.nx (ci K _ _ _) λ_=>Ret.nx (gJ K _) λ_=>Ret.nx (fC K _ hw hK) λ_=>?_
 dsimp only;by_cases h:w.2.1=6
 ·rw[show (w.2.1==6)=true by simpa using h,if_pos h];obtain⟨w1,w2,w3,w4,w5,w6,w7,t⟩:=w;cases t with
  |nil=>exact Ret.no (λh=>h)
  |cons f l =>
   rw[show decide ((AB (f::l):Int)>0)=true from decide_eq_true (by simp only[AI];omega)];simp only[cond_true];exact Ret.vl (ai (xs:=f::l) (i:=0) (by simp)) (fD K _ _ hw hK).id
 ·rw[show (w.2.1==6)=false by simpa using h,if_neg h];exact (fD K _ _ hw hK).id
theorem lL {α A R:Type}(xs:List α)(S:List α->Nat->A)(fin:Option R){step:(A->Option R)->A->Option R}
  (h:∀ (rec:A->Option R) (acc:List α) (i:Nat) (hi:i<xs.length),acc.length=i->step rec (S acc i)=rec (S (acc++[xs[i]]) (i+1))) (hend:∀ rec:A->Option R,step rec (S xs xs.length)=fin) {k:Nat} (hk:xs.length<k):ae step k (S [] 0)=fin:=by
 refine fR (step:=step) xs.length (λi=>S (xs.take i) i) fin ?_ ?_ hk
 ·intro rec i hi;show step rec (S (xs.take i) i)=rec (S (xs.take (i+1)) (i+1));rw[h rec (xs.take i) i hi (by simp;omega),Av hi]
 ·intro rec;show step rec (S (xs.take xs.length) xs.length)=fin;rw[Aq];exact hend rec
theorem szb (a b c:Nat)(hc:c<=64)(h:a+b<=2097152):decide ((a+b)*c<=ah)=true:=by
 have:=BJ h hc;exact decide_eq_true (by unfold ah;omega)
theorem vk (K:Nat)(n:aa)(hn:NB n)(hK:1048577<K):Q70.f K (n,())=some ((n,()),()):=by
 have b1:=hn.table;have b2:=hn.cast;have b3:=hn.doubts;have b4:=hn.places;have b5:=hn.others;simp only[Q70.f,Q70.pre];rw[szb _ _ _ (by omega) (by show (AB ([]:List af))+(aa.table n).length<=_;simp;omega),szb _ _ _ (by omega) (by show (AB ([]:List aV))+(aa.cast n).length<=_;simp;omega)];simp only[cond_true];refine lL (aa.doubts n) (step:=λrec a=>Q70.l0.step K (n,()) (Q70.l1 K (n,())) rec a) (λacc i=>((i:Int),acc)) _ ?_ ?_ (by omega)
 ·intro rec acc i hi ha;have:=hn.by_ _ (AD hi);simp only[Q70.l0.step];rw[bK (by omega:(i:Int)<(AB (aa.doubts n):Int)),ai hi,av i (by omega)];simp only[cond_true,AA];rw[szb _ _ _ (by omega) (by simp;omega),szb _ _ _ (by omega) (by simp;omega)];rfl
 ·intro rec;simp only[Q70.l0.step,bc,cond_false];refine lL (aa.places n) (step:=λrec a=>Q70.l1.step K (n,()) (Q70.l2 K (n,())) rec a) (λacc i=>((i:Int),aa.doubts n,acc)) _ ?_ ?_ (by omega)
  ·intro rec acc i hi ha;have:=hn.trips _ (AD hi);simp only[Q70.l1.step];rw[bK (by omega:(i:Int)<(AB (aa.places n):Int)),ai hi,av i (by omega)];simp only[cond_true,AA];rw[szb _ _ _ (by omega) (by simp;omega),szb _ _ _ (by omega) (by simp;omega)];rfl
  ·intro rec;simp only[Q70.l1.step,bc,cond_false];refine lL (aa.others n) (step:=λrec a=>Q70.l2.step K (n,()) rec a) (λacc i=>((i:Int),aa.doubts n,aa.places n,acc)) _ ?_ ?_ (by omega)
   ·intro rec acc i hi ha;have:=hn.facts _ (AD hi);simp only[Q70.l2.step];rw[bK (by omega:(i:Int)<(AB (aa.others n):Int)),ai hi,av i (by omega)];simp only[cond_true,AA];rw[szb _ _ _ (by omega) (by simp;omega),szb _ _ _ (by omega) (by simp;omega)];rfl
   ·intro rec;simp only[Q70.l2.step,bc,cond_false];rfl
instance (f g:af):Decidable (bF f g):=by unfold bF;infer_instance
theorem oj (K:Nat)(f g:af):Q48.f K (f,g,())=rb (decide (bF f g)):=by
 obtain⟨b,h1,h2⟩:=ri K f g;rw[h1,show b=decide (bF f g) by rw[BE,h2];simp]
def b6 (t:List af)(f:af):List af×Bool :=
 match t.find? (λg=>g.1==f.1) with
 |some g=>if bF f g then (bN (λg=>g.1) f t,true) else (t,false)
 |none=>(bN (λg=>g.1) f t,true)
theorem k6 {t:List af}{f:af}(hA:Asc (λg:af=>g.1) t){i:Nat}(hi:i<t.length)(e:t[i].1=f.1):b6 t f=if bF f t[i] then (bN (λg=>g.1) f t,true) else (t,false):=by
 unfold b6;rw[show t.find? (λg=>g.1==f.1)=some t[i] from nE hA hi e]
theorem ii {t:List af}{f:af}(h:∀ g∈t,g.1≠f.1):b6 t f=(bN (λg=>g.1) f t,true):=by
 unfold b6;rw[show t.find? (λg=>g.1==f.1)=none from mD h]
theorem put_s (K:Nat)(t:List af)(f:af)(ht:t.length<=1048576)(hA:Asc (λg:af=>g.1) t)(hK:1048577<K):Q103.f K (t,f,())=some (((b6 t f).1,(b6 t f).2,()),()):=by
 simp only[Q103.f,Q103.pre];obtain⟨o,ho,h1⟩:=eJ K t f.1 ht hK;rw[h1];simp only[AA];cases ho with
 |at_ i hi e =>
  simp only;rw[k6 hA hi e,decide_eq_true (by omega:((i:Nat):Int)>=0),ai hi];simp only[cond_true,AA];rw[show Q48.f K (f,t[i],())=_ from oj K f t[i]];simp only[AA];by_cases ho:bF f t[i]
  ·rw[decide_eq_true ho,if_pos ho];simp only[AK,cond_false];rw[szb _ _ _ (by omega) (by show (AB ([]:List af))+t.length<=_;simp;omega)];simp only[cond_true,AQ,ai hi,AA,AH];rw[nC (k:=λg:af=>g.1) hA hi e]
  ·rw[decide_eq_false ho,if_neg ho];rfl
 |no h =>
  simp only;rw[ii h,decide_eq_false (by omega:¬ (-1:Int)>=0)];simp only[cond_false];have fit:∀ m:Nat,m<=t.length->(bif decide ((0:Int)<=0)&&decide ((0:Int)<=(m:Int))&&decide ((m:Int)<=(AB t:Int))&&true then (bif decide ((AB ([]:List af)+AB ((t.take (AC (m:Int))).drop (AC 0)))*32<=ah) then (bif decide ((AB ([]++((t.take (AC (m:Int))).drop (AC 0)))+AB ([f]))*32<=ah) then (bif decide ((0:Int)<=(m:Int))&&decide ((m:Int)<=(AB t:Int))&&decide ((AB t:Int)<=(AB t:Int))&&true then (bif decide ((AB (([]++((t.take (AC (m:Int))).drop (AC 0)))++([f]))+AB ((t.take (AC (AB t:Int))).drop (AC (m:Int))))*32<=ah) then (some (((([]++((t.take (AC (m:Int))).drop (AC 0)))++([f]))++((t.take (AC (AB t:Int))).drop (AC (m:Int))),true,()),())) else none) else none) else none) else none) else (none:Option ((List af×Bool×Unit)×Unit)))=some ((t.take m++[f]++t.drop m,true,()),()):=by
   intro m hm;rw[decide_eq_true (by omega:(0:Int)<=0),decide_eq_true (by omega:(0:Int)<=(m:Int)),decide_eq_true (by omega:(m:Int)<=(AB t:Int)),decide_eq_true (by omega:(AB t:Int)<=(AB t:Int))];simp only[AH,A9,Aa,AQ,Aq,A8,cond_true];have h1:(t.take m).length=m:=by rw[Ab];omega
   have h2:(t.drop m).length=t.length-m:=Ah;rw[szb _ _ _ (by omega) (by simp only[AP];omega),szb _ _ _ (by omega) (by simp only[AI,AP];omega),szb _ _ _ (by omega) (by simp only[AJ,AI,AP];omega)];rfl
  have:=cU (step:=λrec a=>Q103.l0.step K (t,f,()) rec a) t.length (λi=>(i:Int)) (λj=>∃ h:j<t.length,¬ t[j].1<f.1) (some ((t.take t.length++[f]++t.drop t.length,true,()),())) (λj=>some ((t.take j++[f]++t.drop j,true,()),())) ?_ ?_ t.length K 0 (by omega) (by omega)
  ·have fin:∀ m,m<=t.length->(∀ i,(hi:i<t.length)->i<m->t[i].1<f.1)->(∀ i,(hi:i<t.length)->m<=i->f.1<t[i].1)->t.take m++[f]++t.drop m=bN (λg=>g.1) f t:=λm hm lo hi=>nD (k:=λg:af=>g.1) hm lo hi
   rcases this with ⟨h1,h2⟩|⟨j,_,h1,⟨h3,h4⟩,h5,h2⟩
   ·rw[fin t.length (AY _) (λi hi _=>by
     have:=h1 i (Al _) hi;exact Ao.1 λh=>this ⟨hi,h⟩) (λi hi h=>by omega)]at h2
    exact h2
   ·rw[fin j (by omega) (λi hi hij=>by
     have:=h5 i (Al _) hij;exact Ao.1 λh=>this ⟨hi,h⟩) (λi hi hij=>by
     have hne:=h t[i] (AD hi);rcases Ay hij with h6|h6
     ·have:=ek.1 hA j i h3 hi h6;omega
     ·subst h6;omega)]at h2
    exact h2
  ·intro rec i hi;simp only[Q103.l0.step];rw[bK (by omega:(i:Int)<(AB t:Int)),ai hi,av i (by omega)];simp only[cond_true,AA];by_cases hlt:t[i].1<f.1
   ·exact .inl ⟨λ⟨_,h⟩=>h hlt,by rw[decide_eq_true hlt];rfl⟩
   ·exact .inr ⟨⟨hi,hlt⟩,by rw[decide_eq_false hlt];exact fit i (by omega)⟩
  ·intro rec;simp only[Q103.l0.step,bc,cond_false];exact fit t.length (AY _)
def eL (l:List aV)(f:af):List aV:=if ∃ x∈l,x.1.1=f.1/\¬ bF f x.1 then l else bN (λx=>x.1.1) (f,4) l
theorem sC {l:List aV}{f:af}:eL l f=bif l.any (λx=>x.1.1==f.1&&!decide (bF f x.1)) then l else bN (λx=>x.1.1) (f,4) l:=by
 unfold eL;have:(∃ x∈l,x.1.1=f.1/\¬ bF f x.1)<->l.any (λx=>x.1.1==f.1&&!decide (bF f x.1))=true:=by
  rw[List.any_eq_true];simp
 by_cases h:∃ x∈l,x.1.1=f.1/\¬ bF f x.1
 ·rw[if_pos h,this.1 h];rfl
 ·rw[if_neg h,show l.any (λx=>x.1.1==f.1&&!decide (bF f x.1))=false by rw[Bool.eq_false_iff];exact λhh=>h (this.2 hh)];rfl
theorem yd (K:Nat)(l:List aV)(f:af)(hl:l.length<=1048576)(hA:Asc (λx:aV=>x.1.1) l)(hK:1048577<K):Q104.f K (l,f,())=some ((eL l f,()),()):=by
 have:=rl (step:=λrec a=>Q104.l0.step K (l,f,()) rec a) (λx:aV=>x.1.1) (f,4) l (λx=>x.1.1==f.1&&!decide (bF f x.1)) (some ((l,()),())) (λxs=>some ((xs,()),())) (λacc d i=>(acc,d,(i:Int))) ?_ ?_ l.length 0 K [] false (by omega) (by omega) (by simp) (by simp)
 ·refine Bf (this:Q104.f K (l,f,())=_) ?_;rw[Aa,sC,kc hA];cases l.any (λx=>x.1.1==f.1&&!decide (bF f x.1)) <;> rfl
 ·intro rec acc d i hi ha hd;simp only[Q104.l0.step];rw[bK (by omega:(i:Int)<(AB l:Int)),ai hi,av i (by omega)];simp only[cond_true,AA];have z1:decide ((acc.length+[((f,4):af×Nat)].length)*40<=ah)=true:=szb _ _ _ (by omega) (by simp;omega);have z2:decide (((acc++[((f,4):aV)]).length+[l[i]].length)*40<=ah)=true:=szb _ _ _ (by omega) (by simp;omega);have z3:decide ((acc.length+[l[i]].length)*40<=ah)=true:=szb _ _ _ (by omega) (by simp;omega);by_cases he:l[i].1.1=f.1
  ·rw[show (l[i].1.1==f.1)=true by simpa using he,show (l[i].1.1 != f.1)=false by simpa using he,show decide (f.1<=l[i].1.1)=true from decide_eq_true (by omega)];simp only[cond_true,cond_false,Ap,BP,Bg,AL];rw[show Q48.f K (f,l[i].1,())=_ from oj K f l[i].1];simp only[AA];cases decide (bF f l[i].1) with
   |false=>rfl
   |true =>
    simp only[AK,cond_false];cases d with
    |true=>simp only[AK,cond_false,AL]
    |false =>
     simp only[Ae,cond_true];rw[z1];rfl
  ·rw[show (l[i].1.1==f.1)=false by simpa using he,show (l[i].1.1 != f.1)=true by simpa using he];simp only[cond_true,cond_false,A4];cases d with
   |true =>
    simp only[AK,cond_false,A4,AL,BS];rw[z3];rfl
   |false =>
    simp only[Ae,cond_true,Ap,BO];cases decide (f.1<=l[i].1.1) with
    |true =>
     simp only[cond_true];rw[z1];simp only[cond_true];rw[z2];rfl
    |false =>
     simp only[cond_false,AL];rw[z3];rfl
 ·intro rec acc d ha hd;simp only[Q104.l0.step,bc];cases d with
  |true=>simp only[AK,cond_false,cond_true,AL]
  |false =>
   have:=hd rfl;have z1:decide ((acc.length+[((f,4):af×Nat)].length)*40<=ah)=true:=szb _ _ _ (by omega) (by simp;omega);simp only[Ae,cond_true,cond_false];rw[z1];rfl
theorem mS {α:Type}{k:α->Int}{x:α}:∀ {ys:List α},i8 k x true ys=ys.filter (λy=>k y != k x)
 |[]=>rfl
 |y::ys=>by
  simp only[i8,AK,A4,cond_false,BS,AQ,AX];rw[mS];cases k y != k x <;> rfl
def mkD (now:Int)(f:af)(b:Int):ce:=(f.1,f.2.1,now,[b])
def cW (now:Int)(ds:List ce)(f:af)(b:Int):List ce:=if f.2.2.1=2 then bN (λd=>d.1) (mkD now f b) ds else ds.filter (λd=>!(d.1==f.1))
theorem ye (K:Nat)(n:aa)(f:af)(b:Int)(hl:(aa.doubts n).length<=1048576)(hA:Asc (λd:ce=>d.1) (aa.doubts n))(hK:1048577<K) :
  Q105.f K (n,f,b,())=some ((cW n.2.2.2.2.2.1 (aa.doubts n) f b,()),()):=by
 have:=rl (step:=λrec a=>Q105.l0.step K (n,f,b,()) rec a) (λd:ce=>d.1) (mkD n.2.2.2.2.2.1 f b) (aa.doubts n) (λ_=>false) none (λxs=>some ((xs,()),())) (λacc d i=>(acc,d,(i:Int))) ?_ ?_ (aa.doubts n).length 0 K [] (f.2.2.1 != 2) (by omega) (by omega) (by simp) (by simp)
 ·refine Bf (this:Q105.f K (n,f,b,())=_) ?_;rw[Aa,show (aa.doubts n).any (λ_=>false)=false by simp,cW];by_cases h2:f.2.2.1=2
  ·rw[if_pos h2,show (f.2.2.1 != 2)=false by simpa using h2,kc hA];rfl
  ·rw[if_neg h2,show (f.2.2.1 != 2)=true by simpa using h2,mS];rfl
 ·intro rec acc d i hi ha hd;simp only[Q105.l0.step];rw[bK (by omega:(i:Int)<(AB (aa.doubts n):Int)),ai hi,av i (by omega)];simp only[cond_true,cond_false,AA];have z1:decide ((acc.length+[mkD n.2.2.2.2.2.1 f b].length)*48<=ah)=true:=szb _ _ _ (by omega) (by simp;omega);have z2:decide (((acc++[mkD n.2.2.2.2.2.1 f b]).length+[(aa.doubts n)[i]].length)*48<=ah)=true:=szb _ _ _ (by omega) (by simp;omega);have z3:decide ((acc.length+[(aa.doubts n)[i]].length)*48<=ah)=true:=szb _ _ _ (by omega) (by simp;omega);show (bif !d then (bif decide (f.1<=(aa.doubts n)[i].1) then (bif decide ((acc.length+[mkD n.2.2.2.2.2.1 f b].length)*48<=ah) then (bif (aa.doubts n)[i].1 != f.1 then (bif decide (((acc++[mkD n.2.2.2.2.2.1 f b]).length+[(aa.doubts n)[i]].length)*48<=ah) then (rec ((acc++[mkD n.2.2.2.2.2.1 f b])++[(aa.doubts n)[i]],true,((i+1:Nat):Int))) else none) else (rec (acc++[mkD n.2.2.2.2.2.1 f b],true,((i+1:Nat):Int)))) else none) else (bif (aa.doubts n)[i].1 != f.1 then (bif decide ((acc.length+[(aa.doubts n)[i]].length)*48<=ah) then (rec (acc++[(aa.doubts n)[i]],d,((i+1:Nat):Int))) else none) else (rec (acc,d,((i+1:Nat):Int))))) else (bif (aa.doubts n)[i].1 != f.1 then (bif decide ((acc.length+[(aa.doubts n)[i]].length)*48<=ah) then (rec (acc++[(aa.doubts n)[i]],d,((i+1:Nat):Int))) else none) else (rec (acc,d,((i+1:Nat):Int)))))=rec ((acc++(bif !d&&decide (f.1<=(aa.doubts n)[i].1) then [mkD n.2.2.2.2.2.1 f b] else []))++(bif (aa.doubts n)[i].1 != f.1 then [(aa.doubts n)[i]] else []),d||decide (f.1<=(aa.doubts n)[i].1),((i+1:Nat):Int));rw[z1,z2,z3];cases d <;> cases decide (f.1<=(aa.doubts n)[i].1) <;> cases (aa.doubts n)[i].1 != f.1 <;> simp only[AK,Ae,Ap,A4,BS,BO,cond_true,cond_false,AL]
 ·intro rec acc d ha hd;simp only[Q105.l0.step,bc];cases d with
  |true=>simp only[AK,cond_false,cond_true,AL]
  |false =>
   have:=hd rfl;have z1:decide ((acc.length+[mkD n.2.2.2.2.2.1 f b].length)*48<=ah)=true:=szb _ _ _ (by omega) (by simp;omega);show (bif decide ((acc.length+[mkD n.2.2.2.2.2.1 f b].length)*48<=ah) then some ((acc++[mkD n.2.2.2.2.2.1 f b],()),()) else none)=some ((acc++[mkD n.2.2.2.2.2.1 f b],()),());rw[z1];rfl
def ij (n:aa)(t:List af)(c:List aV)(ds:List ce):aa :=
 (n.1,n.2.1,n.2.2.1,n.2.2.2.1,n.2.2.2.2.1,n.2.2.2.2.2.1,n.2.2.2.2.2.2.1,n.2.2.2.2.2.2.2.1,t,c,n.2.2.2.2.2.2.2.2.2.2.1,ds,n.2.2.2.2.2.2.2.2.2.2.2.2)
def jP (n:aa)(f:af):Bool:=decide (∃ g∈aa.table n,g.1=f.1/\g.2.1=f.2.1/\g.2.2.1=f.2.2.1)
def sayOf (n:aa)(f:af)(b:Int):aa :=
 bif (b6 (aa.table n) f).2 then ij n (b6 (aa.table n) f).1 (eL (aa.cast n) f) (bif jP n f then aa.doubts n else cW n.2.2.2.2.2.1 (aa.doubts n) f b) else n
structure cI (n:aa):Prop where
 table:aA (aa.table n)
 cast:cV (aa.cast n)
 asc:Asc (λd:ce=>d.1) (aa.doubts n)
 inp:∀ d∈aa.doubts n,InP d.1 0 7
 lt:(aa.table n).length<=1048576
 lc:(aa.cast n).length<=1048576
 ld:(aa.doubts n).length<=1048576
theorem wS {n:aa}{f g:af}(hT:Asc (λg:af=>g.1) (aa.table n))(hg:g∈aa.table n)(e:g.1=f.1):jP n f=(g.2.1==f.2.1&&g.2.2.1==f.2.2.1):=by
 rw[BE,jP,decide_eq_true_eq,Ai,beq_iff_eq,beq_iff_eq];constructor
 ·rintro⟨x,hx,h1,h2,h3⟩;have:=f9 hT hx hg (by rw[h1,e]);subst this;exact⟨h2,h3⟩
 ·rintro⟨h1,h2⟩;exact⟨g,hg,e,h1,h2⟩
theorem wT {n:aa}{f:af}(h:∀ g∈aa.table n,g.1≠f.1):jP n f=false :=
 decide_eq_false λ⟨g,hg,e,_⟩=>h g hg e
theorem ol (K:Nat)(n:aa)(f:af)(b:Int)(h:cI n)(hK:1048577<K):Q138.f K (n,f,b,())=some ((sayOf n f b,()),()):=by
 simp only[Q138.f];rw[show Q103.f K (n.2.2.2.2.2.2.2.2.1,f,())=_ from put_s K (aa.table n) f h.lt h.table.2 hK];simp only[AA];cases hp:(b6 (aa.table n) f).2 with
 |false =>
  simp only[sayOf,hp];rfl
 |true =>
  simp only[sayOf,hp,AK,cond_false,cond_true];obtain⟨o,ho,h1⟩:=eJ K (aa.table n) f.1 h.lt hK;rw[show Q45.f K (n.2.2.2.2.2.2.2.2.1,f.1,())=_ from h1];simp only[AA];have hd:=ye K (n.1,n.2.1,n.2.2.1,n.2.2.2.1,n.2.2.2.2.1,n.2.2.2.2.2.1,n.2.2.2.2.2.2.1,n.2.2.2.2.2.2.2.1,(b6 (aa.table n) f).1,eL (aa.cast n) f,n.2.2.2.2.2.2.2.2.2.2) f b h.ld h.asc hK;have hc:=yd K (aa.cast n) f h.lc h.cast.2 hK;cases ho with
  |at_ i hi e =>
   simp only;rw[wS h.table.2 (AD hi) e,decide_eq_true (by omega:((i:Nat):Int)>=0)];simp only[cond_true];rw[show idx n.2.2.2.2.2.2.2.2.1 (i:Int)=some (aa.table n)[i] from ai hi];simp only[AA];rw[show Q104.f K (n.2.2.2.2.2.2.2.2.2.1,f,())=_ from hc];simp only[AA];rw[hd];cases (aa.table n)[i].2.1==f.2.1 with
   |true =>
    cases (aa.table n)[i].2.2.1==f.2.2.1 <;> rfl
   |false=>rfl
  |no hno =>
   simp only;rw[wT hno,decide_eq_false (by omega:¬ (-1:Int)>=0)];simp only[cond_false];rw[show Q104.f K (n.2.2.2.2.2.2.2.2.2.1,f,())=_ from hc];simp only[AA];rw[hd];rfl
theorem om {α:Type}{k:α->Int}{xs:List α}(h:Asc k xs)(p:α->Bool):Asc k (xs.filter p):=A5 p h
theorem gT {α:Type}{k:α->Int}{xs:List α}(h:Asc k xs)(h7:∀ x∈xs,InP (k x) 0 7):xs.length<=8:=by
 have:=(ic (xs.map k) [0,1,2,3,4,5,6,7] (by unfold Asc at h;rw[Aj];exact h) (by decide) (λy hy=>by
  obtain⟨x,hx,rfl⟩:=AR.1 hy;obtain⟨h1,h2⟩:=h7 x hx;simp only[Aw,List.not_mem_nil,or_false];omega)).1
 rw[AW]at this;exact this
theorem gh (t:List af)(f:af):(b6 t f).1=t\/(b6 t f).1=bN (λg=>g.1) f t:=by
 unfold b6;split
 ·split
  ·exact .inr rfl
  ·exact .inl rfl
 ·exact .inr rfl
theorem jr {t:List af}{f:af}(h:aA t)(hf:bD f):aA (b6 t f).1:=by
 rcases gh t f with e|e
 ·rw[e];exact h
 ·rw[e];refine⟨λg hg=>?_,eA h.2⟩;rcases aZ.1 hg with rfl|⟨h1,_⟩
  ·exact hf
  ·exact h.1 g h1
theorem oo {l:List aV}{f:af}(h:cV l)(hf:bD f):cV (eL l f):=by
 unfold eL;split
 ·exact h
 ·refine⟨λx hx=>?_,eA h.2⟩;rcases aZ.1 hx with rfl|⟨h1,_⟩
  ·exact⟨hf,show (1:Int)<=4 by omega,show (4:Int)<=4 by omega⟩
  ·exact h.1 x h1
theorem lM {now:Int}{ds:List ce}{f:af}{b:Int}{d:ce}(h:d∈cW now ds f b):d=mkD now f b\/d∈ds:=by
 unfold cW at h;split at h
 ·rcases aZ.1 h with h|h
  ·exact .inl h
  ·exact .inr h.1
 ·exact .inr (AF.1 h).1
theorem rq {now:Int}{ds:List ce}{f:af}{b:Int}(h:Asc (λd:ce=>d.1) ds):Asc (λd:ce=>d.1) (cW now ds f b):=by
 unfold cW;split
 ·exact eA h
 ·exact om h _
theorem iI (n:aa)(f:af)(b:Int):∃ t c ds,sayOf n f b=ij n t c ds/\(t=aa.table n\/t=(b6 (aa.table n) f).1)/\(c=aa.cast n\/c=eL (aa.cast n) f)/\(ds=aa.doubts n\/ds=cW n.2.2.2.2.2.1 (aa.doubts n) f b):=by
 unfold sayOf;cases (b6 (aa.table n) f).2 with
 |false=>exact⟨aa.table n,aa.cast n,aa.doubts n,rfl,.inl rfl,.inl rfl,.inl rfl⟩
 |true =>
  cases jP n f with
  |true=>exact⟨_,_,_,rfl,.inr rfl,.inr rfl,.inl rfl⟩
  |false=>exact⟨_,_,_,rfl,.inr rfl,.inr rfl,.inr rfl⟩
theorem cI.mk' {n:aa}(ht:aA (aa.table n))(hc:cV (aa.cast n))(ha:Asc (λd:ce=>d.1) (aa.doubts n))(h7:∀ d∈aa.doubts n,InP d.1 0 7):cI n where
 table:=ht
 cast:=hc
 asc:=ha
 inp:=h7
 lt:=Ag (gT ht.2 (λg hg=>(ht.1 g hg).1)) (by decide)
 lc:=Ag (gT hc.2 (λx hx=>(hc.1 x hx).1.1)) (by decide)
 ld:=Ag (gT ha h7) (by decide)
theorem js {n:aa}{f:af}{b:Int}(h:cI n)(hf:bD f):cI (sayOf n f b):=by
 obtain⟨t,c,ds,e,h1,h2,h3⟩:=iI n f b;rw[e];refine cI.mk' ?_ ?_ ?_ ?_
 ·show aA t;rcases h1 with rfl|rfl
  ·exact h.table
  ·exact jr h.table hf
 ·show cV c;rcases h2 with rfl|rfl
  ·exact h.cast
  ·exact oo h.cast hf
 ·show Asc _ ds;rcases h3 with rfl|rfl
  ·exact h.asc
  ·exact rq h.asc
 ·show ∀ d∈ds,InP d.1 0 7;rcases h3 with rfl|rfl
  ·exact h.inp
  ·intro d hd;rcases lM hd with rfl|hd
   ·exact hf.1
   ·exact h.inp d hd
theorem UpP.say {n:aa}(h:UpP n):cI n:=by
 obtain⟨h1,_,_,⟨h4,_⟩,_,h6,_⟩:=h;refine cI.mk' h1 h4 h6.2.1 λd hd=>?_
 obtain⟨f,hf,e,_⟩:=(h6.1 d hd).1;rw[<- e];exact (h1.1 f hf).1
theorem ph {α β A R:Type}(t:List α)(p:α->Bool)(g:α->β)(S:List β->Nat->A)(fin:List β->Option R){step:(A->Option R)->A->Option R}
  (h:∀ (rec:A->Option R) (acc:List β) (i:Nat) (hi:i<t.length),acc.length<=i->step rec (S acc i)=rec (S (bif p t[i] then acc++[g t[i]] else acc) (i+1)))
  (hend:∀ (rec:A->Option R) (acc:List β),acc.length<=t.length->step rec (S acc t.length)=fin acc) {k:Nat} (hk:t.length<k) :
  ae step k (S [] 0)=fin ((t.filter p).map g):=by
 have:∀ (d i k:Nat) (acc:List β),i+d=t.length->d<k->acc.length<=i->ae step k (S acc i)=fin (acc++((t.drop i).filter p).map g):=by
  intro d;induction d with
  |zero =>
   intro i k acc hi hk ha;obtain⟨k,rfl⟩:∃ k',k=k'+1:=⟨k-1,by omega⟩;have:i=t.length:=by omega
   subst this;show step (ae step k) _=_;rw[hend _ _ ha];simp
  |succ d ih =>
   intro i k acc hi hk ha;obtain⟨k,rfl⟩:∃ k',k=k'+1:=⟨k-1,by omega⟩;have hlt:i<t.length:=by omega
   show step (ae step k) _=_;rw[h _ _ _ hlt ha,AM hlt,AX];cases p t[i] with
   |true =>
    simp only[cond_true,if_true,Bb];rw[ih (i+1) k _ (by omega) (by omega) (by simp;omega),At];rfl
   |false =>
    simp only[cond_false];rw[ih (i+1) k _ (by omega) (by omega) (by omega)];rfl
 have:=this t.length 0 k [] (by omega) hk (AY _)
 rwa [Aa,AQ]at this
theorem szw (a b c:Nat)(hc:c<=128)(h:a+b<=2097152):decide ((a+b)*c<=ah)=true:=by
 have:=BJ h hc;exact decide_eq_true (by unfold ah;omega)
def jQ (n:aa):aa:=(n.1,n.2.1,true,n.2.2.2)
def ot (kind:Int)(n:aa)(to:Int):au:=(1,kind,n.1,to,0,n.1,aa.coord n,aa.table n)
theorem mE (K:Nat)(n:aa)(kind to:Int)(hn:(aa.table n).length<=1048576):Q102.f K (n,kind,to,0,n.1,aa.table n,())=some ((ot kind n to,()),()):=by
 simp only[Q102.f];rw[szb _ _ _ (by omega) (by show (AB ([]:List af))+(aa.table n).length<=_;simp;omega)];rfl
def d4 (f:af):Bool:=f.2.2.1==1||f.2.2.1==2
theorem td (K:Nat)(t:List af)(f:af)(hT:aA t)(ht:t.length<=1048576)(hf:f∈t)(hK:1048577<K):Q140.f K (t,f.1,())=rb (d4 f):=by
 simp only[Q140.f];obtain⟨o,ho,h1⟩:=eJ K t f.1 ht hK;rw[h1];simp only[AA];cases ho with
 |at_ i hi e =>
  simp only;rw[decide_eq_true (by omega:((i:Nat):Int)>=0),ai hi];simp only[cond_true,AA];rw[f9 hT.2 (AD hi) hf e,d4];cases f.2.2.1==1 <;> rfl
 |no h=>exact absurd rfl (h f hf)
def rr (n:aa)(f:af):Bool:=f.1 != n.1&&d4 f
def kD (n:aa):List au:=((aa.table n).filter (rr n)).map λf=>ot 5 n f.1
def lN (n:aa):aa:=jQ (sayOf n (n.1,n.2.2.2.2.1,4,n.2.2.2.1) n.1)
theorem ru (K:Nat)(x:ab Q156.ps)(m:aa)(hT:aA (aa.table m))(ht:(aa.table m).length<=1048576)(hK:1048577<K) :
  Q156.l0 K x ([],0,m.1,m.2.1,m.2.2.2.1,m.2.2.2.2.1,m.2.2.2.2.2.1,m.2.2.2.2.2.2.1,m.2.2.2.2.2.2.2.1,m.2.2.2.2.2.2.2.2.1,m.2.2.2.2.2.2.2.2.2.1,m.2.2.2.2.2.2.2.2.2.2.1.1,m.2.2.2.2.2.2.2.2.2.2.1.2.1,m.2.2.2.2.2.2.2.2.2.2.1.2.2.1,m.2.2.2.2.2.2.2.2.2.2.1.2.2.2,m.2.2.2.2.2.2.2.2.2.2.2.1,m.2.2.2.2.2.2.2.2.2.2.2.2.1.1,m.2.2.2.2.2.2.2.2.2.2.2.2.1.2.1,m.2.2.2.2.2.2.2.2.2.2.2.2.1.2.2.1,m.2.2.2.2.2.2.2.2.2.2.2.2.1.2.2.2,m.2.2.2.2.2.2.2.2.2.2.2.2.2.1,m.2.2.2.2.2.2.2.2.2.2.2.2.2.2)=some ((jQ m,kD (jQ m),()),()):=by
 refine ph (step:=λrec a=>Q156.l0.step K x rec a) (aa.table m) (rr (jQ m)) (λf=>ot 5 (jQ m) f.1) (λacc i=>(acc,(i:Int),m.1,m.2.1,m.2.2.2.1,m.2.2.2.2.1,m.2.2.2.2.2.1,m.2.2.2.2.2.2.1,m.2.2.2.2.2.2.2.1,m.2.2.2.2.2.2.2.2.1,m.2.2.2.2.2.2.2.2.2.1,m.2.2.2.2.2.2.2.2.2.2.1.1,m.2.2.2.2.2.2.2.2.2.2.1.2.1,m.2.2.2.2.2.2.2.2.2.2.1.2.2.1,m.2.2.2.2.2.2.2.2.2.2.1.2.2.2,m.2.2.2.2.2.2.2.2.2.2.2.1,m.2.2.2.2.2.2.2.2.2.2.2.2.1.1,m.2.2.2.2.2.2.2.2.2.2.2.2.1.2.1,m.2.2.2.2.2.2.2.2.2.2.2.2.1.2.2.1,m.2.2.2.2.2.2.2.2.2.2.2.2.1.2.2.2,m.2.2.2.2.2.2.2.2.2.2.2.2.2.1,m.2.2.2.2.2.2.2.2.2.2.2.2.2.2)) (λws=>some ((jQ m,ws,()),())) ?_ ?_ (by omega)
 ·intro rec acc i hi ha;simp only[Q156.l0.step];rw[show decide ((i:Int)<(AB m.2.2.2.2.2.2.2.2.1:Int))=true from bK (by omega:(i:Int)<(AB (aa.table m):Int)),show idx m.2.2.2.2.2.2.2.2.1 (i:Int)=some (aa.table m)[i] from ai hi,av i (by omega)];simp only[cond_true,AA,rr];rw[show (jQ m).1=m.1 from rfl];cases hb:(aa.table m)[i].1 != m.1 with
  |false=>rfl
  |true =>
   simp only[cond_true,Ap];rw[show Q140.f K (m.2.2.2.2.2.2.2.2.1,(aa.table m)[i].1,())=_ from td K (aa.table m) _ hT ht (AD hi) hK];simp only[AA];cases d4 (aa.table m)[i] with
   |false=>rfl
   |true =>
    simp only[cond_true];refine (congrArg (λo=>AG o _) (mE K (jQ m) 5 (aa.table m)[i].1 ht)).trans ?_;simp only[AA];rw[szw _ _ _ (by omega) (by simp;omega)];rfl
 ·intro rec acc ha;simp only[Q156.l0.step];rw[show decide ((AB (aa.table m):Int)<(AB m.2.2.2.2.2.2.2.2.1:Int))=false from bc _];rfl
theorem ua {n:aa}(hP:cF n):bD (n.1,n.2.2.2.2.1,4,n.2.2.2.1):=⟨hP.1,hP.2.2.2.2.1,show (1:Int)<=4 by omega,show (4:Int)<=4 by omega⟩
theorem yf (K:Nat)(n:aa)(hn:NB n)(hP:cF n)(hu:n.2.1=true)(hg:n.2.2.1=false)(hK:1048577<K):Q156.f K (n,())=some ((lN n,kD (lN n),()),()):=by
 have hs:=(hP.up hu).say;have h1:=js (b:=n.1) hs (ua hP);simp only[Q156.f,Q156.pre];rw[hu,hg];simp only[AK,cond_false];rw[ol K n _ n.1 hs hK];exact ru K _ _ h1.table h1.lt hK
theorem lO {α σ A R:Type}(ds:List α)(st:σ->α->σ)(Inv:σ->Prop)(S:σ->Nat->A)(fin:σ->Option R){step:(A->Option R)->A->Option R}(n:σ)(h0:Inv n)
  (h:∀ (rec:A->Option R) (m:σ) (i:Nat) (hi:i<ds.length),Inv m->step rec (S m i)=rec (S (st m ds[i]) (i+1))/\Inv (st m ds[i]))
  (hend:∀ (rec:A->Option R) (m:σ),Inv m->step rec (S m ds.length)=fin m) {k:Nat} (hk:ds.length<k):ae step k (S n 0)=fin (ds.foldl st n):=by
 have:∀ (d i k:Nat) (m:σ),i+d=ds.length->d<k->Inv m->ae step k (S m i)=fin ((ds.drop i).foldl st m):=by
  intro d;induction d with
  |zero =>
   intro i k m hi hk hm;obtain⟨k,rfl⟩:∃ k',k=k'+1:=⟨k-1,by omega⟩;have:i=ds.length:=by omega
   subst this;show step (ae step k) _=_;rw[hend _ _ hm,BD];rfl
  |succ d ih =>
   intro i k m hi hk hm;obtain⟨k,rfl⟩:∃ k',k=k'+1:=⟨k-1,by omega⟩;have hlt:i<ds.length:=by omega
   show step (ae step k) _=_;obtain⟨h1,h2⟩:=h (ae step k) m i hlt hm;rw[h1,AM hlt];exact ih (i+1) k _ (by omega) (by omega) h2
 have:=this ds.length 0 k n (by omega) hk h0
 rwa [Aa]at this
theorem k7 {α σ:Type}{st:σ->α->σ}{Inv:σ->Prop}:∀ {ds:List α} {n:σ},Inv n->(∀ m,∀ d∈ds,Inv m->Inv (st m d))->Inv (ds.foldl st n)
 |[],_,h,_=>h
 |d::ds,n,h,hs=>k7 (ds:=ds) (hs n d (by simp) h) (λm d' hd'=>hs m d' (by simp[hd']))
def aX (t:List af)(node:Int):af:=(t.find? λg=>g.1==node).getD (0,0,0,false)
theorem jR {t:List af}(hA:Asc (λg:af=>g.1) t){f:af}(hf:f∈t):aX t f.1=f:=by
 obtain⟨i,hi,e⟩:=AO hf;unfold aX;rw[show t.find? (λg=>g.1==f.1)=some t[i] from nE hA hi (by rw[e]),e];rfl
theorem jS {t:List af}{node:Int}(h:∀ g∈t,g.1≠node):aX t node=(0,0,0,false):=by
 unfold aX;rw[show t.find? (λg=>g.1==node)=none from mD h];rfl
theorem rv (K:Nat)(t:List af)(node:Int)(hT:aA t)(ht:t.length<=1048576)(hK:1048577<K):Q140.f K (t,node,())=rb (d4 (aX t node)):=by
 by_cases h:∃ f∈t,f.1=node
 ·obtain⟨f,hf,rfl⟩:=h;rw[td K t f hT ht hf hK,jR hT.2 hf]
 ·have h0:∀ g∈t,g.1≠node:=λg hg e=>h ⟨g,hg,e⟩
  simp only[Q140.f];obtain⟨o,ho,h1⟩:=eJ K t node ht hK;rw[h1,jS h0];cases ho with
  |at_ i hi e=>exact absurd e (h0 _ (AD hi))
  |no _=>rfl
theorem jt (n:aa)(f:af)(b:Int):(sayOf n f b).1=n.1/\(sayOf n f b).2.1=n.2.1/\(sayOf n f b).2.2.1=n.2.2.1/\(sayOf n f b).2.2.2.1=n.2.2.2.1/\(sayOf n f b).2.2.2.2.1=n.2.2.2.2.1/\(sayOf n f b).2.2.2.2.2.1=n.2.2.2.2.2.1/\(sayOf n f b).2.2.2.2.2.2.1=n.2.2.2.2.2.2.1/\(sayOf n f b).2.2.2.2.2.2.2.1=n.2.2.2.2.2.2.2.1/\aa.probe (sayOf n f b)=aa.probe n/\(sayOf n f b).2.2.2.2.2.2.2.2.2.2.2.2=n.2.2.2.2.2.2.2.2.2.2.2.2:=by
 obtain⟨t,c,ds,e,_⟩:=iI n f b;rw[e];exact⟨rfl,rfl,rfl,rfl,rfl,rfl,rfl,rfl,rfl,rfl⟩
theorem lP {t:List af}{f g:af}(hg:g∈t):∃ g'∈(b6 t f).1,g'.1=g.1:=by
 rcases gh t f with e|e
 ·rw[e];exact⟨g,hg,rfl⟩
 ·rw[e];by_cases h:g.1=f.1
  ·exact⟨f,aZ.2 (.inl rfl),h.symm⟩
  ·exact⟨g,aZ.2 (.inr ⟨hg,h⟩),rfl⟩
theorem iJ {n:aa}{f:af}{b:Int}{g:af}(hg:g∈aa.table n):∃ g'∈aa.table (sayOf n f b),g'.1=g.1:=by
 obtain⟨t,c,ds,e,h1,_⟩:=iI n f b;rw[e];rcases h1 with rfl|rfl
 ·exact⟨g,hg,rfl⟩
 ·exact lP hg
def pi (now since:Int)(len:Nat):Bool:=decide (now-since>=if 6-(len:Int)+1<3 then 3 else 6-(len:Int)+1)
def jT (f:af):af:=(f.1,f.2.1,3,f.2.2.2)
def gx (n:aa)(d:ce):aa:=bif pi n.2.2.2.2.2.1 d.2.2.1 d.2.2.2.length then sayOf n (jT (aX (aa.table n) d.1)) n.1 else n
def ju (n:aa):aa:=(aa.doubts n).foldl gx n
theorem due_s (K:Nat)(now:Int)(d:ce)(h0:0<=d.2.2.1)(h1:d.2.2.1<=now)(h2:now<=1000000)(hl:d.2.2.2.length<=1048576):Q137.f K (now,d,())=rb (pi now d.2.2.1 d.2.2.2.length):=by
 simp only[Q137.f];rw[aK (n:=6-(AB d.2.2.2:Int)) (by omega) (by omega),aK (n:=6-(AB d.2.2.2:Int)+1) (by omega) (by omega),aK (n:=now-d.2.2.1) (by omega) (by omega)];unfold pi;by_cases h:6-(AB d.2.2.2:Int)+1<3
 ·rw[decide_eq_true h,if_pos h];rfl
 ·rw[decide_eq_false h,if_neg h];rfl
structure ou (ds:List ce) (now:Int) (n:aa):Prop where
 ok:cI n
 key:∀ d∈ds,∃ f∈aa.table n,f.1=d.1
 now_:n.2.2.2.2.2.1=now
theorem te {f:af}(h:bD f):bD (jT f):=⟨h.1,h.2.1,show (1:Int)<=3 by omega,show (3:Int)<=4 by omega⟩
theorem eu {t:List af}{node:Int}(hT:aA t)(h:∃ f∈t,f.1=node):bD (aX t node)/\(aX t node).1=node/\aX t node∈t:=by
 obtain⟨f,hf,rfl⟩:=h;rw[jR hT.2 hf];exact⟨hT.1 f hf,rfl,hf⟩
theorem sD {ds:List ce}{now:Int}{n:aa}{d:ce}(h:ou ds now n)(hd:d∈ds):ou ds now (gx n d):=by
 unfold gx;cases pi n.2.2.2.2.2.1 d.2.2.1 d.2.2.2.length with
 |false=>exact h
 |true =>
  have hf:=te (eu h.ok.table (h.key d hd)).1;refine⟨js h.ok hf,λd' hd'=>?_,(jt n _ _).2.2.2.2.2.1.trans h.now_⟩;obtain⟨g,hg,e⟩:=h.key d' hd';obtain⟨g',hg',e'⟩:=iJ (f:=jT (aX (aa.table n) d.1)) (b:=n.1) hg;exact⟨g',hg',e'.trans e⟩
theorem ze (K:Nat)(n:aa)(h:ou (aa.doubts n) n.2.2.2.2.2.1 n)(hd:∀ d∈aa.doubts n,0<=d.2.2.1/\d.2.2.1<=n.2.2.2.2.2.1/\d.2.2.2.length<=1048576)(hnow:n.2.2.2.2.2.1<=1000000)(hK:1048577<K):Q139.f K (n,())=some ((ju n,()),()):=by
 have hl:=h.ok.ld;refine lO (step:=λrec a=>Q139.l0.step K (n,()) rec a) (aa.doubts n) gx (ou (aa.doubts n) n.2.2.2.2.2.1) (λm i=>((i:Int),m.1,m.2.1,m.2.2.1,m.2.2.2.1,m.2.2.2.2.1,m.2.2.2.2.2.1,m.2.2.2.2.2.2.1,m.2.2.2.2.2.2.2.1,m.2.2.2.2.2.2.2.2.1,m.2.2.2.2.2.2.2.2.2.1,m.2.2.2.2.2.2.2.2.2.2.1.1,m.2.2.2.2.2.2.2.2.2.2.1.2.1,m.2.2.2.2.2.2.2.2.2.2.1.2.2.1,m.2.2.2.2.2.2.2.2.2.2.1.2.2.2,m.2.2.2.2.2.2.2.2.2.2.2.1,m.2.2.2.2.2.2.2.2.2.2.2.2.1.1,m.2.2.2.2.2.2.2.2.2.2.2.2.1.2.1,m.2.2.2.2.2.2.2.2.2.2.2.2.1.2.2.1,m.2.2.2.2.2.2.2.2.2.2.2.2.1.2.2.2,m.2.2.2.2.2.2.2.2.2.2.2.2.2.1,m.2.2.2.2.2.2.2.2.2.2.2.2.2.2)) (λm=>some ((m,()),())) n h ?_ ?_ (by omega)
 ·intro rec m i hi hm;refine⟨?_,sD hm (AD hi)⟩;simp only[Q139.l0.step];obtain⟨d0,d1,d2⟩:=hd _ (AD hi);rw[show decide ((i:Int)<(AB n.2.2.2.2.2.2.2.2.2.2.2.1:Int))=true from bK (by omega:(i:Int)<(AB (aa.doubts n):Int)),show idx n.2.2.2.2.2.2.2.2.2.2.2.1 (i:Int)=some (aa.doubts n)[i] from ai hi,av i (by omega)];simp only[cond_true,AA];rw[due_s K m.2.2.2.2.2.1 (aa.doubts n)[i] d0 (by rw[hm.now_];exact d1) (by rw[hm.now_];exact hnow) d2];simp only[AA];have hkey:=hm.key _ (AD hi);generalize (aa.doubts n)[i]=d at hkey d0 d1 d2 ⊢;unfold gx;cases pi m.2.2.2.2.2.1 d.2.2.1 d.2.2.2.length with
  |false=>rfl
  |true =>
   simp only[cond_true];have hft:=eu hm.ok.table hkey;obtain⟨o,ho,h1⟩:=eJ K (aa.table m) d.1 hm.ok.lt hK;rw[show Q45.f K (m.2.2.2.2.2.2.2.2.1,d.1,())=_ from h1];simp only[AA];cases ho with
   |no h=>exact absurd hkey (λ⟨f,hf,e⟩=>h f hf e)
   |at_ j hj e =>
    simp only;rw[show idx m.2.2.2.2.2.2.2.2.1 ((j:Nat):Int)=some (aa.table m)[j] from ai hj,f9 hm.ok.table.2 (AD hj) hft.2.2 (by rw[e,hft.2.1])];simp only[AA];refine (congrArg (λo=>AG o _) (ol K m (jT (aX (aa.table m) d.1)) m.1 hm.ok hK)).trans ?_;rfl
 ·intro rec m hm;simp only[Q139.l0.step];rw[show decide ((AB (aa.doubts n):Int)<(AB n.2.2.2.2.2.2.2.2.2.2.2.1:Int))=false from bc _];rfl
def setP (n:aa)(p:af):aa:=(n.1,n.2.1,n.2.2.1,n.2.2.2.1,n.2.2.2.2.1,n.2.2.2.2.2.1,n.2.2.2.2.2.2.1,n.2.2.2.2.2.2.2.1,n.2.2.2.2.2.2.2.2.1,n.2.2.2.2.2.2.2.2.2.1,p,n.2.2.2.2.2.2.2.2.2.2.2)
def noP:af:=(-1,0,0,false)
def ov (f:af):af:=(f.1,f.2.1,2,f.2.2.2)
def ub (n:aa)(f:af):Bool:=f.2.2.1==1&&f.1 != n.1&&f.1 != (aa.probe n).1
def eT (n:aa):List Int:=(((aa.table n).filter (ub n)).map (·.1)).take 2
def askW (n:aa)(to:Int):au:=(1,3,n.1,to,(aa.probe n).2.2.1,(aa.probe n).1,aa.coord n,[])
def kE (n:aa):aa:=setP n ((aa.probe n).1,(aa.probe n).2.1,(aa.probe n).2.2.1,true)
def cX (n:aa):aa×List au :=
 bif (aa.probe n).1==-1 then (n,[]) else
 bif !d4 (aX (aa.table n) (aa.probe n).1) then (setP n noP,[]) else
 bif decide (n.2.2.2.2.2.1-(aa.probe n).2.1>=4) then (bif (aX (aa.table n) (aa.probe n).1).2.2.1==1 then sayOf (setP n noP) (ov (aX (aa.table n) (aa.probe n).1)) n.1 else setP n noP,[]) else
 bif decide (n.2.2.2.2.2.1-(aa.probe n).2.1>=2) then (bif !(aa.probe n).2.2.2 then (kE n,(eT n).map (askW n)) else (n,[])) else (n,[])
theorem cI.setP {n:aa}(h:cI n)(p:af):cI (setP n p):=⟨h.table,h.cast,h.asc,h.inp,h.lt,h.lc,h.ld⟩
theorem yg {f:af}(h:bD f):bD (ov f):=⟨h.1,h.2.1,show (1:Int)<=2 by omega,show (2:Int)<=4 by omega⟩
theorem gi {t:List af}{node:Int}(h:d4 (aX t node)=true):∃ f∈t,f.1=node:=by
 by_cases h1:∃ f∈t,f.1=node
 ·exact h1
 ·rw[jS (λg hg e=>h1 ⟨g,hg,e⟩)]at h;simp[d4]at h
theorem vm (K:Nat)(n:aa)(ht:(aa.table n).length<=1048576)(hK:1048577<K):Q141.f K (n,())=some ((eT n,()),()):=by
 have:=kb (step:=λrec a=>Q141.l0.step K (n,()) rec a) (aa.table n) (ub n) (λf=>f.1) 2 (λxs=>some ((xs,()),())) ?_ ?_ ?_ (aa.table n).length 0 K [] (by omega) (by omega) (AY _) (by simp)
 ·exact this
 ·intro rec acc i hi ha hn;simp only[Q141.l0.step];rw[show decide ((i:Int)<(AB n.2.2.2.2.2.2.2.2.1:Int))=true from bK (by omega:(i:Int)<(AB (aa.table n):Int)),show idx n.2.2.2.2.2.2.2.2.1 (i:Int)=some (aa.table n)[i] from ai hi,av i (by omega),decide_eq_true (by omega:(AB acc:Int)<2)];simp only[cond_true,AA,ub];show (bif (aa.table n)[i].1 != n.1 then (bif (aa.table n)[i].1 != (aa.probe n).1 then (bif (aa.table n)[i].2.2.1==1 then (bif decide ((AB acc+AB ([(aa.table n)[i].1]))*8<=ah) then (rec (acc++([(aa.table n)[i].1]),((i+1:Nat):Int))) else none) else (rec (acc,((i+1:Nat):Int)))) else (rec (acc,((i+1:Nat):Int)))) else (rec (acc,((i+1:Nat):Int))))=_;rw[szb _ _ _ (by omega) (by simp;omega)];cases (aa.table n)[i].1 != n.1 <;> cases (aa.table n)[i].1 != (aa.probe n).1 <;> cases (aa.table n)[i].2.2.1==1 <;> rfl
 ·intro rec acc i hi ha hn;simp only[Q141.l0.step];rw[show decide ((i:Int)<(AB n.2.2.2.2.2.2.2.2.1:Int))=true from bK (by omega:(i:Int)<(AB (aa.table n):Int)),decide_eq_false (by omega:¬ (AB acc:Int)<2)];rfl
 ·intro rec acc _;simp only[Q141.l0.step];rw[show decide ((AB (aa.table n):Int)<(AB n.2.2.2.2.2.2.2.2.1:Int))=false from bc _];rfl
theorem zf (K:Nat)(n:aa)(h:cI n)(hp:(aa.probe n).1≠-1)(h0:0<=(aa.probe n).2.1)(h1:(aa.probe n).2.1<=1000000)(hn0:0<=n.2.2.2.2.2.1)(hn1:n.2.2.2.2.2.1<=1000000)(hK:1048577<K) :
  Q142.f K (n,())=some (((cX n).1,(cX n).2,()),()):=by
 simp only[Q142.f,Q142.pre,cX];rw[show ((aa.probe n).1==-1)=false by simpa using hp];simp only[cond_false];rw[show Q140.f K (n.2.2.2.2.2.2.2.2.1,n.2.2.2.2.2.2.2.2.2.2.1.1,())=_ from rv K (aa.table n) (aa.probe n).1 h.table h.lt hK];simp only[AA];cases hl:d4 (aX (aa.table n) (aa.probe n).1) with
 |false=>rfl
 |true =>
  have hf:=eu h.table (gi hl);simp only[AK,cond_false];rw[aK (n:=n.2.2.2.2.2.1-n.2.2.2.2.2.2.2.2.2.2.1.2.1) (by show -9223372036854775808<=n.2.2.2.2.2.1-(aa.probe n).2.1;omega) (by show n.2.2.2.2.2.1-(aa.probe n).2.1<=9223372036854775807;omega)];show (bif decide (n.2.2.2.2.2.1-(aa.probe n).2.1>=4) then _ else _)=_;cases decide (n.2.2.2.2.2.1-(aa.probe n).2.1>=4) with
  |true =>
   simp only[cond_true];obtain⟨o,ho,e1⟩:=eJ K (aa.table n) (aa.probe n).1 h.lt hK;rw[show Q45.f K (n.2.2.2.2.2.2.2.2.1,n.2.2.2.2.2.2.2.2.2.2.1.1,())=_ from e1];simp only[AA];cases ho with
   |no hno=>exact absurd (gi hl) (λ⟨f,hf,e⟩=>hno f hf e)
   |at_ j hj e =>
    simp only;rw[show idx n.2.2.2.2.2.2.2.2.1 ((j:Nat):Int)=some (aa.table n)[j] from ai hj,f9 h.table.2 (AD hj) hf.2.2 (by rw[e,hf.2.1])];simp only[AA];cases (aX (aa.table n) (aa.probe n).1).2.2.1==1 with
    |true =>
     simp only[cond_true];refine (congrArg (λo=>AG o _) (ol K (setP n noP) (ov (aX (aa.table n) (aa.probe n).1)) n.1 (h.setP noP) hK)).trans ?_;rfl
    |false=>rfl
  |false =>
   simp only[cond_false];show (bif decide (n.2.2.2.2.2.1-(aa.probe n).2.1>=2) then _ else _)=_;cases decide (n.2.2.2.2.2.1-(aa.probe n).2.1>=2) with
   |false=>rfl
   |true =>
    simp only[cond_true];show (bif !(aa.probe n).2.2.2 then _ else _)=_;cases hask:(aa.probe n).2.2.2 with
    |true=>rfl
    |false =>
     simp only[Ae,cond_true];refine (congrArg (λo=>AG o _) (vm K (kE n) h.lt hK)).trans ?_;simp only[AA];rw[show eT (kE n)=eT n from rfl];have hlen:(eT n).length<=2:=BF _ _;refine Bf (ph (step:=λrec a=>Q142.l0.step K (n,()) rec a) (eT n) (λ_=>true) (askW n) (λacc i=>(acc,eT n,(i:Int))) (λws=>some ((kE n,ws,()),())) ?_ ?_ (by omega)) (by rw[AU.2 (λ_ _=>rfl)])
     ·intro rec acc i hi ha;simp only[Q142.l0.step];rw[bK (by omega:(i:Int)<(AB (eT n):Int)),ai hi,av i (by omega),AH,ai hi];simp only[cond_true,AA,Q102.f];rw[szb _ _ _ (by omega) (by simp)];simp only[cond_true,AA];rw[szw _ _ _ (by omega) (by simp;omega)];rfl
     ·intro rec acc ha;simp only[Q142.l0.step,bc];rfl
def gy (n:aa)(i:Int):aa:=(n.1,n.2.1,n.2.2.1,n.2.2.2.1,i,n.2.2.2.2.2)
def eZ (n:aa)(f:af):aa:=bif decide (bF f (aX (aa.table n) n.1))&&decide (f.2.1<999) then sayOf (gy n (f.2.1+1)) (n.1,f.2.1+1,1,n.2.2.2.1) n.1 else n
def dO (f:af)(b:Int)(d:ce):ce:=bif d.1==f.1&&d.2.1==f.2.1&&f.2.2.1==2 then (d.1,d.2.1,d.2.2.1,bN (λx:Int=>x) b d.2.2.2) else d
def jU (n:aa)(f:af)(b:Int):aa:=ij n (aa.table n) (aa.cast n) ((aa.doubts n).map (dO f b))
def dR (b:Int)(n:aa)(f:af):aa:=bif f.1==n.1 then eZ n f else jU (sayOf n f b) f b
def ik (n:aa)(t:List af)(b:Int):aa:=t.foldl (dR b) n
def k8 (l:List Int):Prop:=Asc (λx:Int=>x) l/\∀ x∈l,InP x 0 7
theorem k8.len {l:List Int}(h:k8 l):l.length<=8:=gT h.1 h.2
theorem k8.put {l:List Int}{b:Int}(h:k8 l)(hb:InP b 0 7):k8 (bN (λx:Int=>x) b l) :=
 ⟨eA h.1,λx hx=>by
  rcases aZ.1 hx with rfl|⟨hx,_⟩
  ·exact hb
  ·exact h.2 x hx⟩
structure dW (n:aa):Prop where
 say:cI n
 me:InP n.1 0 7
 has:∃ g∈aa.table n,g.1=n.1
 by_:∀ d∈aa.doubts n,k8 d.2.2.2
theorem cI.inc {n:aa}(h:cI n)(i:Int):cI (gy n i):=⟨h.table,h.cast,h.asc,h.inp,h.lt,h.lc,h.ld⟩
theorem k9 {n:aa}{f:af}{b:Int}(hb:InP b 0 7)(h:∀ d∈aa.doubts n,k8 d.2.2.2):∀ d∈aa.doubts (sayOf n f b),k8 d.2.2.2:=by
 obtain⟨t,c,ds,e,_,_,h3⟩:=iI n f b;rw[e];intro d hd;have hd:d∈ds:=hd;rcases h3 with rfl|rfl
 ·exact h d hd
 ·rcases lM hd with rfl|hd
  ·exact⟨BQ _ _,λx hx=>by rw[AS.1 hx];exact hb⟩
  ·exact h d hd
theorem tf {n:aa}{f:af}(hm:InP n.1 0 7)(hf:bD f)(h:f.2.1<999):bD (n.1,f.2.1+1,1,n.2.2.2.1):=by
 obtain⟨_,⟨h1,h2⟩,_⟩:=hf;exact⟨hm,⟨show (0:Int)<=f.2.1+1 by omega,show f.2.1+1<=999 by omega⟩,show (1:Int)<=1 by omega,show (1:Int)<=4 by omega⟩
theorem dW.refute {n:aa}{f:af}(h:dW n)(hf:bD f):dW (eZ n f):=by
 unfold eZ;cases hc:decide (bF f (aX (aa.table n) n.1))&&decide (f.2.1<999) with
 |false=>exact h
 |true =>
  have hi:f.2.1<999:=by
   rw[Ai]at hc;exact of_decide_eq_true hc.2
  obtain⟨f1,_⟩:=jt (gy n (f.2.1+1)) (n.1,f.2.1+1,1,n.2.2.2.1) n.1;refine⟨js (h.say.inc _) (tf h.me hf hi),?_,?_,k9 h.me h.by_⟩
  ·show InP (sayOf (gy n (f.2.1+1)) (n.1,f.2.1+1,1,n.2.2.2.1) n.1).1 0 7;rw[f1];exact h.me
  ·obtain⟨g,hg,e⟩:=h.has;obtain⟨g',hg',e'⟩:=iJ (n:=gy n (f.2.1+1)) (f:=(n.1,f.2.1+1,1,n.2.2.2.1)) (b:=n.1) (g:=g) hg;refine⟨g',hg',?_⟩;show g'.1=(sayOf (gy n (f.2.1+1)) (n.1,f.2.1+1,1,n.2.2.2.1) n.1).1;rw[f1,e',e];rfl
theorem dW.confirm {n:aa}{f:af}{b:Int}(h:dW n)(hf:bD f)(hb:InP b 0 7):dW (jU (sayOf n f b) f b):=by
 have hs:=js (b:=b) h.say hf;obtain⟨f1,_⟩:=jt n f b;have hby:=k9 (f:=f) hb h.by_;obtain⟨g,hg,e⟩:=h.has;obtain⟨g',hg',e'⟩:=iJ (n:=n) (f:=f) (b:=b) hg;have hk:∀ d,(dO f b d).1=d.1:=λd=>by unfold dO;cases d.1==f.1&&d.2.1==f.2.1&&f.2.2.1==2 <;> rfl
 refine⟨⟨hs.table,hs.cast,?_,λd hd=>?_,hs.lt,hs.lc,?_⟩,?_,⟨g',hg',?_⟩,λd hd=>?_⟩
 ·show Asc (λd:ce=>d.1) ((aa.doubts (sayOf n f b)).map (dO f b));unfold Asc;rw[Aj];exact hs.asc.imp λ {a c} h=>by show (dO f b a).1<(dO f b c).1;rw[hk,hk];exact h
 ·obtain⟨d',hd',rfl⟩:=AR.1 hd;rw[hk];exact hs.inp d' hd'
 ·show ((aa.doubts (sayOf n f b)).map (dO f b)).length<=_;rw[AW];exact hs.ld
 ·show InP (sayOf n f b).1 0 7;rw[f1];exact h.me
 ·show g'.1=(sayOf n f b).1;rw[f1,e',e]
 ·obtain⟨d',hd',rfl⟩:=AR.1 hd;unfold dO;cases d'.1==f.1&&d'.2.1==f.2.1&&f.2.2.1==2 with
  |false=>exact hby d' hd'
  |true=>exact (hby d' hd').put hb
theorem dW.step {n:aa}{f:af}{b:Int}(h:dW n)(hf:bD f)(hb:InP b 0 7):dW (dR b n f):=by
 unfold dR;cases f.1==n.1 with
 |true=>exact h.refute hf
 |false=>exact h.confirm hf hb
theorem wU {α A R:Type}(ds:List α)(g:α->α)(S:List α->Nat->A)(fin:List α->Option R){step:(A->Option R)->A->Option R}
  (h:∀ (rec:A->Option R) (cur:List α) (i:Nat) (hi:i<ds.length),cur.length=ds.length->cur[i]?=some ds[i]->step rec (S cur i)=rec (S (cur.set i (g ds[i])) (i+1)))
  (hend:∀ (rec:A->Option R) (cur:List α),cur.length=ds.length->step rec (S cur ds.length)=fin cur) {k:Nat} (hk:ds.length<k):ae step k (S ds 0)=fin (ds.map g):=by
 have:∀ (d i k:Nat) (cur:List α),i+d=ds.length->d<k->cur.length=ds.length->(∀ j,(hj:j<ds.length)->cur[j]?=some (if j<i then g ds[j] else ds[j]))->ae step k (S cur i)=fin (ds.map g):=by
  intro d;induction d with
  |zero =>
   intro i k cur hi hk hl hc;obtain⟨k,rfl⟩:∃ k',k=k'+1:=⟨k-1,by omega⟩;have:i=ds.length:=by omega
   subst this;show step (ae step k) _=_;rw[hend _ _ hl];congr 1;refine List.ext_getElem? λj=>?_
   rw[List.getElem?_map];by_cases hj:j<ds.length
   ·rw[hc j hj,if_pos hj,AN hj];rfl
   ·rw[A1 (by omega),A1 (by omega)];rfl
  |succ d ih =>
   intro i k cur hi hk hl hc;obtain⟨k,rfl⟩:∃ k',k=k'+1:=⟨k-1,by omega⟩;have hlt:i<ds.length:=by omega
   show step (ae step k) _=_;rw[h (ae step k) cur i hlt hl (by rw[hc i hlt,if_neg (by omega)])];refine ih (i+1) k _ (by omega) (by omega) (by rw[Bp,hl]) λj hj=>?_
   rw[List.getElem?_set];by_cases e:i=j
   ·subst e;rw[if_pos rfl,if_pos (by omega),if_pos (by omega)]
   ·rw[if_neg e,hc j hj];by_cases h1:j<i
    ·rw[if_pos h1,if_pos (by omega)]
    ·rw[if_neg h1,if_neg (by omega)]
 exact this ds.length 0 k ds (by omega) hk rfl (λj hj=>by rw[if_neg (by omega),AN hj])
theorem rx {α:Type}{cur:List α}{i:Nat}{x:α}(h:cur[i]?=some x):cur.set i x=cur:=by
 obtain⟨hi,e⟩:=List.getElem?_eq_some_iff.1 h;rw[<- e,List.set_getElem_self]
theorem rz {by_:List Int}{b:Int}{m:Nat}(hm:m<=by_.length)(hl:by_.length<=8){R:Type}(G:List Int->Option R) :
  (bif decide ((0:Int)<=0)&&decide ((0:Int)<=(m:Int))&&decide ((m:Int)<=(AB by_:Int))&&true then (bif decide ((AB ([]:List Int)+AB ((by_.take (AC (m:Int))).drop (AC 0)))*8<=ah) then (bif decide ((AB ([]++((by_.take (AC (m:Int))).drop (AC 0)))+AB ([b]))*8<=ah) then (bif decide ((0:Int)<=(m:Int))&&decide ((m:Int)<=(AB by_:Int))&&decide ((AB by_:Int)<=(AB by_:Int))&&true then (bif decide ((AB (([]++((by_.take (AC (m:Int))).drop (AC 0)))++([b]))+AB ((by_.take (AC (AB by_:Int))).drop (AC (m:Int))))*8<=ah) then G ((([]++((by_.take (AC (m:Int))).drop (AC 0)))++([b]))++((by_.take (AC (AB by_:Int))).drop (AC (m:Int)))) else none) else none) else none) else none) else none)=G (by_.take m++[b]++by_.drop m):=by
 rw[decide_eq_true (by omega:(0:Int)<=0),decide_eq_true (by omega:(0:Int)<=(m:Int)),decide_eq_true (by omega:(m:Int)<=(AB by_:Int)),decide_eq_true (by omega:(AB by_:Int)<=(AB by_:Int))];simp only[AH,A9,Aa,AQ,Aq,A8,cond_true];have h1:(by_.take m).length=m:=by rw[Ab];omega
 have h2:(by_.drop m).length=by_.length-m:=Ah;rw[szb _ _ _ (by omega) (by simp only[AP];omega),szb _ _ _ (by omega) (by simp only[AI,AP];omega),szb _ _ _ (by omega) (by simp only[AJ,AI,AP];omega)];rfl
theorem vn (K:Nat)(n:aa)(f:af)(b:Int)(hd:∀ d∈aa.doubts n,k8 d.2.2.2)(hl:(aa.doubts n).length<=1048576)(hK:1048577<K):Q108.f K (n,f,b,())=some ((jU n f b,()),()):=by
 simp only[Q108.f,Q108.pre];refine wU (step:=λrec a=>Q108.l0.step K (n,f,b,()) (Q108.l1 K (n,f,b,()) rec) rec a) (aa.doubts n) (dO f b) (λcur i=>((i:Int),cur)) (λcur=>some ((ij n (aa.table n) (aa.cast n) cur,()),())) ?_ ?_ (by omega)
 ·intro rec cur i hi hlen hget;have hi':i<cur.length:=by omega
  have hcur:cur[i]=(aa.doubts n)[i]:=by
   rw[AN hi']at hget;exact Option.some.inj hget
  have hby:=hd _ (AD hi);simp only[Q108.l0.step];rw[bK (by omega:(i:Int)<(AB cur:Int)),ai hi',av i (by omega),AH,ai hi',hcur];simp only[cond_true,AA];generalize hdd:(aa.doubts n)[i]=d at hby hget ⊢;have hstay:rec (((i+1:Nat):Int),cur)=rec (((i+1:Nat):Int),cur.set i d):=by rw[rx hget]
  unfold dO;by_cases h1:d.1=f.1
  case neg =>
   rw[show (d.1 != f.1)=true by simpa using h1,show (d.1==f.1)=false by simpa using h1];exact hstay
  by_cases h2:d.2.1=f.2.1
  case neg =>
   rw[show (d.1 != f.1)=false by simpa using h1,show (d.2.1 != f.2.1)=true by simpa using h2,show (d.2.1==f.2.1)=false by simpa using h2,Br];exact hstay
  by_cases h3:f.2.2.1=2
  case neg =>
   rw[show (d.1 != f.1)=false by simpa using h1,show (d.2.1 != f.2.1)=false by simpa using h2,show (f.2.2.1 != 2)=true by simpa using h3,show (f.2.2.1==2)=false by simpa using h3,Br];exact hstay
  rw[show (d.1 != f.1)=false by simpa using h1,show (d.2.1 != f.2.1)=false by simpa using h2,show (f.2.2.1 != 2)=false by simpa using h3,show (d.1==f.1)=true by simpa using h1,show (d.2.1==f.2.1)=true by simpa using h2,show (f.2.2.1==2)=true by simpa using h3];simp only[cond_false,A8,cond_true];have hbl:=hby.len;have ins:∀ m:Nat,m<=d.2.2.2.length->(∀ j,(hj:j<d.2.2.2.length)->j<m->d.2.2.2[j]<b)->(∀ j,(hj:j<d.2.2.2.length)->m<=j->b<d.2.2.2[j])->d.2.2.2.take m++[b]++d.2.2.2.drop m=bN (λx:Int=>x) b d.2.2.2:=λm hm lo hi=>nD (k:=λx:Int=>x) hm lo hi
  have:=cU (step:=λr a=>Q108.l1.step K (n,f,b,()) rec r a) d.2.2.2.length (λj=>((i:Int),(j:Int),cur,d.1,d.2.1,d.2.2.1,d.2.2.2)) (λj=>∃ h:j<d.2.2.2.length,¬ d.2.2.2[j]<b)
   (rec (((i+1:Nat):Int),cur.set i (d.1,d.2.1,d.2.2.1,d.2.2.2.take d.2.2.2.length++[b]++d.2.2.2.drop d.2.2.2.length)))
   (λj=>if h:j<d.2.2.2.length then (if d.2.2.2[j]=b then rec (((i+1:Nat):Int),cur) else rec (((i+1:Nat):Int),cur.set i (d.1,d.2.1,d.2.2.1,d.2.2.2.take j++[b]++d.2.2.2.drop j))) else none) ?_ ?_ d.2.2.2.length K 0 (by omega) (by omega)
  ·rcases this with ⟨hno,he⟩|⟨j,_,hj,⟨hj',hge⟩,hlt,he⟩
   ·refine Bf he ?_;rw[ins _ (AY _) (λj hj _=>by
     by_cases hb:d.2.2.2[j]<b
     ·exact hb
     ·exact absurd ⟨hj,hb⟩ (hno j (Al _) hj)) (λj hj hm=>by omega)]
   ·refine Bf he ?_;rw[dif_pos hj'];have lo:∀ m,(hm:m<d.2.2.2.length)->m<j->d.2.2.2[m]<b:=λm hm hmj=>by
     by_cases hb:d.2.2.2[m]<b
     ·exact hb
     ·exact absurd ⟨hm,hb⟩ (hlt m (Al _) hmj)
    by_cases hbe:d.2.2.2[j]=b
    ·rw[if_pos hbe,<- nC (k:=λx:Int=>x) hby.1 hj' hbe];rw[show d.2.2.2.set j b=d.2.2.2 from rx (by rw[AN hj',hbe])];exact hstay
    ·rw[if_neg hbe,ins j (by omega) lo (λm hm hjm=>by
      rcases Ay hjm with h4|rfl
      ·have:=ek.1 hby.1 j m (by omega) hm h4;omega
      ·omega)]
  ·intro r j hj;simp only[Q108.l1.step];rw[bK (by omega:(j:Int)<(AB d.2.2.2:Int)),ai hj,av j (by omega)];simp only[cond_true,AA];by_cases hb:d.2.2.2[j]<b
   ·left;refine⟨λ⟨_,h⟩=>h hb,?_⟩;rw[decide_eq_true hb];rfl
   ·right;refine⟨⟨hj,hb⟩,?_⟩;rw[decide_eq_false hb,show ((j:Int)==(AB d.2.2.2:Int))=false by simp;omega,dif_pos hj];simp only[cond_false];by_cases hbe:d.2.2.2[j]=b
    ·rw[if_pos hbe,show (d.2.2.2[j] != b)=false by simpa using hbe,av i (by omega)];rfl
    ·rw[if_neg hbe,show (d.2.2.2[j] != b)=true by simpa using hbe];simp only[cond_true];refine (rz (m:=j) (b:=b) (Nat.le_of_lt hj) hbl (λz=>(idx cur (i:Int)).bind λ_=>(idx cur (AC (i:Int):Nat)).bind λ_=>rec (wr .i64 ((i:Int)+1),cur.set (AC (i:Int)) (d.1,(d.2.1,(d.2.2.1,z)))))).trans ?_;rw[AH,ai hi',av i (by omega)];rfl
  ·intro r;simp only[Q108.l1.step];rw[bc];simp only[cond_false,beq_self_eq_true,cond_true];refine (rz (b:=b) (AY _) hbl (λz=>(idx cur (i:Int)).bind λ_=>(idx cur (AC (i:Int):Nat)).bind λ_=>rec (wr .i64 ((i:Int)+1),cur.set (AC (i:Int)) (d.1,(d.2.1,(d.2.2.1,z)))))).trans ?_;rw[AH,ai hi',av i (by omega)];rfl
 ·intro rec cur hlen;simp only[Q108.l0.step];rw[<- hlen,bc];rfl
theorem wV (K:Nat)(n:aa)(f:af)(h:dW n)(hf:bD f)(hK:1048577<K):Q107.f K (n,f,())=some ((eZ n f,()),()):=by
 simp only[Q107.f];have hft:=eu h.say.table h.has;obtain⟨o,ho,h1⟩:=eJ K (aa.table n) n.1 h.say.lt hK;rw[show Q45.f K (n.2.2.2.2.2.2.2.2.1,n.1,())=_ from h1];simp only[AA];cases ho with
 |no hno=>exact absurd h.has (λ⟨g,hg,e⟩=>hno g hg e)
 |at_ j hj e =>
  simp only;rw[show idx n.2.2.2.2.2.2.2.2.1 ((j:Nat):Int)=some (aa.table n)[j] from ai hj,f9 h.say.table.2 (AD hj) hft.2.2 (by rw[e,hft.2.1])];simp only[AA];rw[oj];obtain⟨_,⟨i0,i1⟩,_⟩:=hf;simp only[rb,AA,eZ];cases decide (bF f (aX (aa.table n) n.1)) with
  |false=>rfl
  |true =>
   simp only[AK,cond_false,Ap];by_cases hi:f.2.1<999
   ·rw[decide_eq_false (by omega:¬ f.2.1>=999),decide_eq_true hi,aK (by omega) (by omega)];simp only[cond_false,cond_true];refine (congrArg (λo=>AG o _) (ol K (gy n (f.2.1+1)) (n.1,f.2.1+1,1,n.2.2.2.1) n.1 (h.say.inc _) hK)).trans ?_;rfl
   ·rw[decide_eq_true (by omega:f.2.1>=999),decide_eq_false hi];rfl
theorem tg (K:Nat)(n:aa)(t:List af)(b:Int)(h:dW n)(ht:∀ f∈t,bD f)(hl:t.length<=1048576)(hb:InP b 0 7)(hK:1048577<K):Q109.f K (n,t,b,())=some ((ik n t b,()),()):=by
 refine lO (step:=λrec a=>Q109.l0.step K (n,t,b,()) rec a) t (dR b) dW (λm i=>((i:Int),m.1,m.2.1,m.2.2.1,m.2.2.2.1,m.2.2.2.2.1,m.2.2.2.2.2.1,m.2.2.2.2.2.2.1,m.2.2.2.2.2.2.2.1,m.2.2.2.2.2.2.2.2.1,m.2.2.2.2.2.2.2.2.2.1,m.2.2.2.2.2.2.2.2.2.2.1.1,m.2.2.2.2.2.2.2.2.2.2.1.2.1,m.2.2.2.2.2.2.2.2.2.2.1.2.2.1,m.2.2.2.2.2.2.2.2.2.2.1.2.2.2,m.2.2.2.2.2.2.2.2.2.2.2.1,m.2.2.2.2.2.2.2.2.2.2.2.2.1.1,m.2.2.2.2.2.2.2.2.2.2.2.2.1.2.1,m.2.2.2.2.2.2.2.2.2.2.2.2.1.2.2.1,m.2.2.2.2.2.2.2.2.2.2.2.2.1.2.2.2,m.2.2.2.2.2.2.2.2.2.2.2.2.2.1,m.2.2.2.2.2.2.2.2.2.2.2.2.2.2)) (λm=>some ((m,()),())) n h ?_ ?_ (by omega)
 ·intro rec m i hi hm;have hf:=ht _ (AD hi);refine⟨?_,hm.step hf hb⟩;simp only[Q109.l0.step];rw[bK (by omega:(i:Int)<(AB t:Int)),ai hi,av i (by omega)];simp only[cond_true,AA];generalize t[i]=f at hf ⊢;unfold dR;cases f.1==m.1 with
  |true =>
   simp only[cond_true];refine (congrArg (λo=>AG o _) (wV K m f hm hf hK)).trans ?_;rfl
  |false =>
   simp only[cond_false];refine (congrArg (λo=>AG o _) (ol K m f b hm.say hK)).trans ?_;simp only[AA];rw[vn K (sayOf m f b) f b (k9 hb hm.by_) (js hm.say hf).ld hK];rfl
 ·intro rec m hm;simp only[Q109.l0.step];rw[bc];rfl
def eB {α:Type}(lt:α->α->Bool)(x:α):List α->List α->List α
 |[],B=>x::B
 |y::A,B=>bif lt x y then eB lt x A (y::B) else (y::A).reverse++x::B
def dg {α:Type}(lt:α->α->Bool):List α->List α->List α
 |done,[]=>done
 |done,x::xs=>dg lt (eB lt x done.reverse []) xs
theorem rA {α:Type}(lt:α->α->Bool)(x:α):∀ (A B C:List α),eB lt x A (B++C)=eB lt x A B++C
 |[],B,C=>rfl
 |y::A,B,C=>by
  simp only[eB];cases lt x y with
  |true=>exact rA lt x A (y::B) C
  |false=>simp
theorem rB {α:Type}(lt:α->α->Bool)(x:α):∀ (A B:List α),(eB lt x A B).length=A.length+B.length+1
 |[],B=>by simp[eB]
 |y::A,B=>by
  simp only[eB];cases lt x y with
  |true=>simp only[cond_true];rw[rB lt x A (y::B)];simp;omega
  |false=>simp;omega
theorem pU {α:Type}(lt:α->α->Bool)(x:α):∀ (A B:List α),(eB lt x A B).Perm (x::(A.reverse++B))
 |[],B=>by simp[eB]
 |y::A,B=>by
  simp only[eB];cases lt x y with
  |true=>exact (pU lt x A (y::B)).trans (by simp)
  |false=>simp only[cond_false];exact Bj
theorem gU {α:Type}(lt:α->α->Bool):∀ (xs done:List α),(dg lt done xs).Perm (done++xs)
 |[],done=>by simp[dg]
 |x::xs,done=>by
  simp only[dg];refine (gU lt xs _).trans ?_;have:=pU lt x done.reverse [];simp only[An,AL]at this;exact (this.append_right xs).trans (by simpa using (Bj (a:=x) (l₁:=done) (l₂:=xs)).symm)
def il {α:Type}(lt:α->α->Bool)(xs:List α):Prop:=xs.Pairwise λa b=>lt b a=false
theorem kd {α:Type}(lt:α->α->Bool)(ht:∀ a b c,lt a b=false->lt b c=false->lt a c=false)(x:α) :
  ∀ (A B:List α),il lt A.reverse->eB lt x A B=(A.reverse.filter λy=>!lt x y)++x::((A.reverse.filter λy=>lt x y)++B)
 |[],B,_=>rfl
 |y::A,B,h=>by
  simp only[eB];have hA:il lt A.reverse:=by
   unfold il at h ⊢;rw[A3,Au]at h;exact h.1
  cases hl:lt x y with
  |true =>
   simp only[cond_true];rw[kd lt ht x A (y::B) hA];simp[hl,Am]
  |false =>
   have hy:∀ a∈A.reverse,lt x a=false:=λa ha=>by
    unfold il at h;rw[A3,Au]at h;exact ht x y a hl (h.2.2 a ha y (by simp))
   simp only[cond_false];have e1:(y::A).reverse.filter (λy=>!lt x y)=(y::A).reverse:=AU.2 λa ha=>by
    rw[A3,Af,AS]at ha;rcases ha with ha|rfl
    ·rw[hy a ha];rfl
    ·rw[hl];rfl
   have e2:(y::A).reverse.filter (λy=>lt x y)=[]:=AV.2 λa ha=>by
    rw[A3,Af,AS]at ha;rcases ha with ha|rfl
    ·rw[hy a ha];simp
    ·rw[hl];simp
   rw[e1,e2];rfl
theorem uc {α:Type}(lt:α->α->Bool)(ht:∀ a b c,lt a b=false->lt b c=false->lt a c=false)(has:∀ a b,lt a b=true->lt b a=false)(x:α)(A:List α)(h:il lt A):il lt (eB lt x A.reverse []):=by
 rw[kd lt ht x A.reverse [] (by rwa [An])];unfold il at h ⊢;simp only[An,AL];rw[Au];refine⟨h.filter _,?_,?_⟩
 ·rw[AT];refine⟨λa ha=>?_,h.filter _⟩;exact has _ _ (by simpa using (AF.1 ha).2)
 ·intro a ha b hb;have h1:lt x a=false:=by simpa using (AF.1 ha).2
  rcases Aw.1 hb with rfl|hb
  ·exact h1
  ·have h2:lt x b=true:=by simpa using (AF.1 hb).2
   exact ht b x a (has _ _ h2) h1
theorem lQ {α:Type}(lt:α->α->Bool)(ht:∀ a b c,lt a b=false->lt b c=false->lt a c=false)(has:∀ a b,lt a b=true->lt b a=false):∀ (xs done:List α),il lt done->il lt (dg lt done xs)
 |[],done,h=>h
 |x::xs,done,h=>lQ lt ht has xs _ (uc lt ht has x done h)
theorem iA {α:Type}(lt:α->α->Bool):∀ {ys zs:List α},ys.Perm zs->il lt ys->zs.Pairwise (λa b=>lt a b=true)->ys=zs
 |ys,[],hp,_,_=>hp.eq_nil
 |[],z::zs,hp,_,_=>absurd hp.symm.eq_nil (by simp)
 |y::ys,z::zs,hp,h1,h2=>by
  unfold il at h1;rw[AT]at h1 h2;have e:y=z:=by
   rcases Aw.1 (hp.mem_iff.1 (Bc ..)) with h|h
   ·exact h
   ·have h3:=h2.1 y h;rcases Aw.1 (hp.symm.mem_iff.1 (Bc ..)) with h4|h4
    ·exact h4.symm
    ·rw[h1.1 z h4]at h3;cases h3
  subst e;rw[iA lt hp.cons_inv h1.2 h2.2]
abbrev SoR (α:Type):=Unit×(List α×Unit)
theorem ud {α R:Type}(lt:α->α->Bool)(i:Int)(fin:List α×Int->Option R){step:(List α×Int×Int->Option R)->List α×Int×Int->Option R}
  (h:∀ (rec:List α×Int×Int->Option R) (A:List α) (y x:α) (B:List α),A.length+B.length<=1048576->step rec (A++y::x::B,i,((A.length+1:Nat):Int))=bif lt x y then rec (A++x::y::B,i,(A.length:Int)) else fin (A++y::x::B,wr .i64 (i+1)))
  (h0:∀ (rec:List α×Int×Int->Option R) (ys:List α),step rec (ys,i,0)=fin (ys,wr .i64 (i+1))) :
  ∀ (A B:List α) (x:α) (k:Nat),A.length+B.length<=1048576->A.length<k->ae step k (A.reverse++x::B,i,(A.length:Int))=fin (eB lt x A B,wr .i64 (i+1)):=by
 intro A;induction A with
 |nil =>
  intro B x k hl hk;obtain⟨k,rfl⟩:∃ k',k=k'+1:=⟨k-1,by simp at hk;omega⟩;exact h0 (ae step k) (x::B)
 |cons y A ih =>
  intro B x k hl hk;simp only[AI]at hk hl;obtain⟨k,rfl⟩:∃ k',k=k'+1:=⟨k-1,by omega⟩;have h1:=h (ae step k) A.reverse y x B (by simp;omega);simp only[BY]at h1;show step (ae step k) _=_;rw[A3,At];simp only[AI,List.cons_append,AQ,eB];rw[h1];cases lt x y with
  |true=>exact ih (y::B) x k (by simp;omega) (by omega)
  |false=>simp
theorem sE {α:Type}(lt:α->α->Bool){step:(List α×Int->Option (SoR α))->List α×Int->Option (SoR α)}(n:Nat)(hn:n<=1048576)
  (h:∀ (rec:List α×Int->Option (SoR α)) (done:List α) (x:α) (xs:List α),done.length+1+xs.length=n->step rec (done++x::xs,(done.length:Int))=rec (eB lt x done.reverse xs,wr .i64 ((done.length:Int)+1)))
  (h0:∀ (rec:List α×Int->Option (SoR α)) (ys:List α) (i:Int),(n:Int)<=i->step rec (ys,i)=some ((),(ys,()))) :
  ∀ (xs done:List α) (k:Nat),done.length+xs.length=n->xs.length<k->ae step k (done++xs,(done.length:Int))=some ((),(dg lt done xs,())):=by
 intro xs;induction xs with
 |nil =>
  intro done k hl hk;obtain⟨k,rfl⟩:∃ k',k=k'+1:=⟨k-1,by omega⟩;show step (ae step k) _=_;rw[h0 _ _ _ (by simp at hl;omega)];simp[dg]
 |cons x xs ih =>
  intro done k hl hk;simp only[AI]at hk hl;obtain⟨k,rfl⟩:∃ k',k=k'+1:=⟨k-1,by omega⟩;show step (ae step k) _=_;rw[h _ _ _ _ (by omega),av _ (by omega)];have e:eB lt x done.reverse xs=eB lt x done.reverse []++xs:=rA lt x done.reverse [] xs;have e2:(eB lt x done.reverse []).length=done.length+1:=by rw[rB];simp
  rw[e,<- e2];exact ih _ k (by rw[e2];omega) (by omega)
theorem wW {α:Type}(lt:α->α->Bool){step:(List α×Int->Option (SoR α))->List α×Int->Option (SoR α)}(xs:List α)(hn:xs.length<=1048576)
  (h:∀ (rec:List α×Int->Option (SoR α)) (done:List α) (x:α) (r:List α),done.length+1+r.length=xs.length->step rec (done++x::r,(done.length:Int))=rec (eB lt x done.reverse r,wr .i64 ((done.length:Int)+1)))
  (h0:∀ (rec:List α×Int->Option (SoR α)) (ys:List α) (i:Int),(xs.length:Int)<=i->step rec (ys,i)=some ((),(ys,()))) {k:Nat} (hk:xs.length<k) :
  ae step k (xs,1)=some ((),(dg lt [] xs,())):=by
 cases xs with
 |nil =>
  obtain⟨k,rfl⟩:∃ k',k=k'+1:=⟨k-1,by simp at hk;omega⟩;exact h0 (ae step k) [] 1 (by simp)
 |cons x xs =>
  simp only[AI]at hk;have:=sE lt (xs.length+1) (by simpa using hn) h h0 xs [x] k (by simp;omega) (by omega);exact this
theorem yh {α:Type}(A B:List α)(x:α):idx (A++x::B) (A.length:Int)=some x:=by
 rw[pd];simp
theorem wX {α:Type}(A B:List α)(y x:α):idx (A++y::x::B) ((A.length+1:Nat):Int)=some x:=by
 rw[pd];simp[List.getElem?_append_right]
theorem yi {α:Type}(A B:List α)(x v:α):(A++x::B).set A.length v=A++v::B:=by simp
theorem wY {α:Type}(A B:List α)(y x v:α):(A++y::x::B).set (A.length+1) v=A++y::v::B:=by
 simp[List.set_append_right]
def dJ (l:List aV)(i:Int):Int:=((l[i.toNat]?).map (·.2)).getD 0
def ltL (l:List aV)(a b:Int):Bool:=decide (dJ l b<dJ l a)
def lt2 (l:List aV)(a b:Int):Prop:=dJ l b<dJ l a\/(dJ l a=dJ l b/\a<b)
def eM (n:Nat):List Int:=(List.range n).map λ (i:Nat)=>(i:Int)
def bM (l:List aV):List Int:=dg (ltL l) [] (eM l.length)
theorem nF {n:Nat}{i:Int}:i∈eM n<->0<=i/\i<n:=by
 unfold eM;rw[AR];constructor
 ·rintro⟨j,hj,rfl⟩;have:=Bs.1 hj;omega
 ·rintro⟨h0,h1⟩;exact⟨i.toNat,Bs.2 (by omega),by omega⟩
theorem rC (n:Nat):(eM n).Pairwise (·<·):=by
 unfold eM;rw[Aj];exact List.pairwise_lt_range.imp λh=>by omega
theorem ew {l:List aV}{i:Nat}(h:i<l.length):dJ l (i:Int)=l[i].2:=by
 unfold dJ;rw[AH,AN h];rfl
theorem rD (l:List aV):∀ (xs done:List Int),done.Pairwise (lt2 l)->(∀ a∈done,∀ b∈xs,a<b)->xs.Pairwise (·<·)->(dg (ltL l) done xs).Pairwise (lt2 l)
 |[],done,h,_,_=>h
 |x::xs,done,h,hlt,hxs=>by
  have hxs':=AT.1 hxs;have hno:il (ltL l) done:=h.imp λ {a b} hab=>by
   unfold ltL;rw[decide_eq_false_iff_not];rcases hab with h1|⟨h1,_⟩ <;> omega
  have e:=kd (ltL l) (λa b c h1 h2=>by
   unfold ltL at h1 h2 ⊢;rw[decide_eq_false_iff_not]at h1 h2 ⊢;omega) x done.reverse [] (by rw[An];exact hno)
  rw[An,AL]at e;simp only[dg];rw[e];refine rD l xs _ ?_ ?_ hxs'.2
  ·rw[Au,AT];refine⟨h.filter _,⟨λb hb=>?_,h.filter _⟩,λa ha b hb=>?_⟩
   ·have h1:ltL l x b=true:=by simpa using (AF.1 hb).2
    exact .inl (by simpa[ltL]using h1)
   ·have h1:ltL l x a=false:=by simpa using (AF.1 ha).2
    have h1':¬ dJ l a<dJ l x:=by simpa[ltL]using h1
    have hax:=hlt a (AF.1 ha).1 x (by simp);rcases Aw.1 hb with rfl|hb
    ·by_cases h2:dJ l b<dJ l a
     ·exact .inl h2
     ·exact .inr ⟨by omega,hax⟩
    ·have h2:ltL l x b=true:=by simpa using (AF.1 hb).2
     have h2':dJ l b<dJ l x:=by simpa[ltL]using h2
     exact .inl (by omega)
  ·intro a ha b hb;rcases Af.1 ha with ha|ha
   ·exact hlt a (AF.1 ha).1 b (by simp[hb])
   ·rcases Aw.1 ha with rfl|ha
    ·exact hxs'.1 b hb
    ·exact hlt a (AF.1 ha).1 b (by simp[hb])
theorem ox (l:List aV):(bM l).Pairwise (lt2 l):=rD l _ [] List.Pairwise.nil (by simp) (rC _)
theorem ue (l:List aV):(bM l).Perm (eM l.length):=by
 unfold bM;simpa using gU (ltL l) (eM l.length) []
theorem jV {l:List aV}{i:Int}:i∈bM l<->0<=i/\i<l.length:=by rw[(ue l).mem_iff,nF]
def cY (T:List Int)(n:Nat):List Bool:=(eM n).map λi=>decide (i∈T)
theorem ey (T:List Int)(n:Nat):(cY T n).length=n:=by simp[cY,eM]
theorem gL (T:List Int){n i:Nat}(h:i<n):(cY T n)[i]'(by rw[ey];exact h)=decide ((i:Int)∈T):=by
 simp[cY,eM]
theorem vo {T:List Int}{n b:Nat}(hb:b<n):(cY T n).set b true=cY (T++[(b:Int)]) n:=by
 refine BR (by rw[Bp,ey,ey]) λi h1 h2=>?_
 rw[ey]at h2;rw[List.getElem_set,gL _ h2];by_cases h:b=i
 ·subst h;rw[if_pos rfl,gL _ h2];simp
 ·rw[if_neg h,gL _ h2];have:¬ (i:Int)=(b:Int):=by omega
  simp[this]
def oy (l:List aV)(T:List Int)(i:Nat)(best:Int):Prop :=
 (best=-1/\∀ j:Nat,j<i->(j:Int)∈T)\/(0<=best/\best<i/\best∉T/\∀ j:Nat,j<i->(j:Int)∉T->(j:Int)≠best->lt2 l best (j:Int))
theorem yj (K:Nat)(l:List aV)(T:List Int)(hl:l.length<=1048576):∀ (d i k:Nat) (best:Int),i+d=l.length->d<k->oy l T i best ->
  ∃ b:Int,ae (λrec a=>Q116.l0.step K (l,cY T l.length,()) rec a) k (best,(i:Int))=some ((b,()),())/\oy l T l.length b:=by
 intro d;induction d with
 |zero =>
  intro i k best hi hk hb;obtain⟨k,rfl⟩:∃ k',k=k'+1:=⟨k-1,by omega⟩;have:i=l.length:=by omega
  subst this;refine⟨best,?_,hb⟩;show Q116.l0.step K (l,cY T l.length,()) _ _=_;simp only[Q116.l0.step,bc];rfl
 |succ d ih =>
  intro i k best hi hk hb;obtain⟨k,rfl⟩:∃ k',k=k'+1:=⟨k-1,by omega⟩;have hlt:i<l.length:=by omega
  have ih':∀ best,oy l T (i+1) best->∃ b:Int,ae (λrec a=>Q116.l0.step K (l,cY T l.length,()) rec a) k (best,((i+1:Nat):Int))=some ((b,()),())/\oy l T l.length b:=λbest h=>ih (i+1) k best (by omega) (by omega) h
  show ∃ b:Int,Q116.l0.step K (l,cY T l.length,()) (ae (λrec a=>Q116.l0.step K (l,cY T l.length,()) rec a) k) (best,(i:Int))=_/\_;generalize ae (λrec a=>Q116.l0.step K (l,cY T l.length,()) rec a) k=REC at ih' ⊢;simp only[Q116.l0.step];rw[bK (by omega:(i:Int)<(AB l:Int)),ai (show i<(cY T l.length).length by rw[ey];exact hlt),gL T hlt,av i (by omega)];simp only[cond_true,AA];by_cases ht:(i:Int)∈T
  ·rw[decide_eq_true ht];simp only[AK,cond_false];refine ih' best ?_;rcases hb with ⟨rfl,h⟩|⟨h0,h1,h2,h3⟩
   ·refine .inl ⟨rfl,λj hj=>?_⟩;by_cases hji:j=i
    ·subst hji;exact ht
    ·exact h j (by omega)
   ·refine .inr ⟨h0,by omega,h2,λj hj hjt hne=>?_⟩;by_cases hji:j=i
    ·subst hji;exact absurd ht hjt
    ·exact h3 j (by omega) hjt hne
  ·rw[decide_eq_false ht];simp only[Ae,cond_true];rcases hb with ⟨rfl,h⟩|⟨h0,h1,h2,h3⟩
   ·rw[show decide ((-1:Int)<0)=true from rfl];refine ih' (i:Int) (.inr ⟨by omega,by omega,ht,λj hj hjt hne=>?_⟩);exact absurd (h j (by omega)) hjt
   ·rw[decide_eq_false (by omega:¬ best<0)];obtain⟨b,rfl⟩:=AE h0;have hbl:b<l.length:=by omega
    simp only[cond_false];rw[ai hlt,ai hbl];simp only[AA];by_cases hgt:l[i].2>l[b].2
    ·rw[decide_eq_true hgt];refine ih' (i:Int) (.inr ⟨by omega,by omega,ht,λj hj hjt hne=>?_⟩);have hji:j<i:=by omega
     have hjl:j<l.length:=by omega
     by_cases hjb:(j:Int)=(b:Int)
     ·rw[hjb];exact .inl (by rw[ew hlt,ew hbl];exact hgt)
     ·have:=h3 j hji hjt hjb;rcases this with h4|⟨h4,_⟩
      ·exact .inl (by rw[ew hbl]at h4;rw[ew hlt];omega)
      ·exact .inl (by rw[ew hbl]at h4;rw[ew hlt];omega)
    ·rw[decide_eq_false hgt];refine ih' (b:Int) (.inr ⟨by omega,by omega,h2,λj hj hjt hne=>?_⟩);by_cases hji:j=i
     ·subst hji;by_cases heq:dJ l (b:Int)=dJ l (j:Int)
      ·exact .inr ⟨heq,h1⟩
      ·refine .inl ?_;rw[ew hlt,ew hbl]at *;omega
     ·exact h3 j (by omega) hjt hne
theorem zg (K:Nat)(l:List aV)(n:Nat)(hl:l.length<=1048576)(hK:1048577<K):Q116.f K (l,cY ((bM l).take n) l.length,())=some ((((bM l)[n]?).getD (-1),()),()):=by
  obtain⟨b,e,hb⟩:=yj K l ((bM l).take n) hl l.length 0 K (-1) (by omega) (by omega) (.inl ⟨rfl,λj hj=>by omega⟩);have:b=((bM l)[n]?).getD (-1):=by
    by_cases hn:n<(bM l).length
    · rw[AN hn]
      show b=(bM l)[n];have hm:(bM l)[n]∉(bM l).take n:=λh=>by
        obtain⟨j,hj,e⟩:=AO h;rw[Ab]at hj;rw[BN]at e;have:=A7.1 (ox l) j n (by omega) hn (by omega);rw[e]at this;rcases this with h5|⟨_,h5⟩ <;> omega
      have hr:=jV.1 (AD hn);obtain⟨m,hm'⟩:=AE hr.1;rcases hb with ⟨rfl,h⟩|⟨h0,h1,h2,h3⟩
      · have:=h m (by omega)
        rw[<- hm']at this;exact absurd this hm
      · by_cases he:b=(bM l)[n]
        · exact he
        · exfalso
          have h4:=h3 m (by omega) (by rw[<- hm'];exact hm) (by rw[<- hm'];exact λh=>he h.symm);rw[<- hm']at h4;have hbo:b∈bM l:=jV.2 ⟨h0,h1⟩;obtain⟨j,hj,ej⟩:=AO hbo;have hjn:n<j:=by
            rcases Nat.lt_trichotomy j n with h|h|h
            · exact absurd (BM.2 ⟨j,by omega,ej⟩) h2
            · subst h;exact absurd ej.symm he
            · exact h
          have h5:=A7.1 (ox l) n j hn hj hjn;rw[ej]at h5;rcases h4 with h4|⟨h4,h6⟩ <;> rcases h5 with h5|⟨h5,h7⟩ <;> omega
    · rw[A1 (by omega)]
      show b=-1;rcases hb with ⟨rfl,_⟩|⟨h0,h1,h2,_⟩
      · rfl
      · exfalso
        rw[Ax (by omega)]at h2;exact h2 (jV.2 ⟨h0,h1⟩)
  rw[<- this];exact e
def gV (l:List aV):List Int:=(bM l).take 3
def jv (l:List aV)(i:Int):aV:=(l[i.toNat]?).getD ((0,0,0,false),0)
def fp (l:List aV)(T:List Int)(i:Int):aV:=bif decide (i∈T) then ((jv l i).1,(jv l i).2-1) else jv l i
def e8 (l:List aV)(T:List Int)(n:Nat):List af:=((eM n).filter λi=>decide (i∈T)).map λi=>(jv l i).1
def la (l:List aV)(T:List Int)(n:Nat):List aV:=(eM n).map (fp l T)
def eD (l:List aV)(T:List Int)(n:Nat):List aV:=(la l T n).filter λx=>decide (x.2>0)
theorem dP {l:List aV}{i:Nat}(h:i<l.length):jv l (i:Int)=l[i]:=by
 unfold jv;rw[AH,AN h];rfl
theorem pV (n:Nat):eM (n+1)=eM n++[(n:Int)]:=by
 unfold eM;rw[List.range_succ,BV];rfl
theorem uf (l:List aV)(T:List Int)(n:Nat):e8 l T (n+1)=e8 l T n++(bif decide ((n:Int)∈T) then [(jv l (n:Int)).1] else []):=by
 unfold e8;rw[pV,Am,BV,AX];cases decide ((n:Int)∈T) <;> rfl
theorem ug (l:List aV)(T:List Int)(n:Nat):eD l T (n+1)=eD l T n++(bif decide ((fp l T (n:Int)).2>0) then [fp l T (n:Int)] else []):=by
 unfold eD la;rw[pV,BV,Am,Bb,AX];cases decide ((fp l T (n:Int)).2>0) <;> rfl
theorem vp (l:List aV)(T:List Int)(n:Nat):(e8 l T n).length<=n:=by
 unfold e8;rw[AW];refine Ag (Az _ _) ?_;simp[eM]
theorem vq (l:List aV)(T:List Int)(n:Nat):(eD l T n).length<=n:=by
 unfold eD;refine Ag (Az _ _) ?_;simp[la,eM]
theorem yk (K:Nat)(l:List aV)(m:Int)(T:List Int)(hl:l.length<=1048576)(hC:cV l)(hK:1048577<K) :
  Q117.l1 K (l,m,()) (cY T l.length,[],[],0)=some ((e8 l T l.length,eD l T l.length,()),()):=by
 refine fR (step:=λrec a=>Q117.l1.step K (l,m,()) rec a) l.length (λi=>(cY T l.length,e8 l T i,eD l T i,(i:Int))) (some ((e8 l T l.length,eD l T l.length,()),())) ?_ ?_ (by omega)
 ·intro rec i hi;simp only[Q117.l1.step];have hi':i<(cY T l.length).length:=by rw[ey];exact hi
  have h1:=vp l T i;have h2:=vq l T i;obtain⟨c0,c1⟩:=(hC.1 l[i] (AD hi)).2;rw[bK (by omega:(i:Int)<(AB l:Int)),ai hi,ai hi',av i (by omega),AH,ai hi',gL T hi,uf,ug,dP hi];simp only[cond_true,AA];cases hT:decide ((i:Int)∈T) with
  |true =>
   have hd:fp l T (i:Int)=(l[i].1,l[i].2-1):=by unfold fp;rw[hT,dP hi];rfl
   rw[hd];simp only[cond_true];rw[szb _ _ _ (by omega) (by simp;omega),aK (n:=l[i].2-1) (by omega) (by omega)];simp only[cond_true];cases decide (l[i].2-1>0) with
   |true =>
    simp only[cond_true];rw[szb _ _ _ (by omega) (by simp;omega)];rfl
   |false =>
    simp only[cond_false,AL]
  |false =>
   have hd:fp l T (i:Int)=l[i]:=by unfold fp;rw[hT,dP hi];rfl
   rw[hd];simp only[cond_false,AL];cases decide (l[i].2>0) with
   |true =>
    simp only[cond_true];rw[szb _ _ _ (by omega) (by simp;omega)];rfl
   |false =>
    simp only[cond_false,AL]
 ·intro rec;simp only[Q117.l1.step,bc];rfl
theorem zh (K:Nat)(l:List aV)(hl:l.length<=1048576)(hC:cV l)(hK:1048577<K):Q117.f K (l,3,())=some ((e8 l (gV l) l.length,eD l (gV l) l.length,()),()):=by
 have hdone:∀ T,Q117.l1 K (l,3,()) (cY T l.length,[],[],0)=some ((e8 l T l.length,eD l T l.length,()),()):=λT=>yk K l 3 T hl hC hK
 have go:∀ (d n k:Nat),n+d=3->d<k->ae (λrec a=>Q117.l0.step K (l,3,()) (Q117.l1 K (l,3,())) rec a) k (cY ((bM l).take n) l.length,(n:Int))=some ((e8 l (gV l) l.length,eD l (gV l) l.length,()),()):=by
  intro d;induction d with
  |zero =>
   intro n k hn hk;obtain⟨k,rfl⟩:∃ k',k=k'+1:=⟨k-1,by omega⟩;have:n=3:=by omega
   subst this;exact hdone _
  |succ d ih =>
   intro n k hn hk;obtain⟨k,rfl⟩:∃ k',k=k'+1:=⟨k-1,by omega⟩;have ih':=ih (n+1) k (by omega) (by omega);show Q117.l0.step K (l,3,()) (Q117.l1 K (l,3,())) (ae (λrec a=>Q117.l0.step K (l,3,()) (Q117.l1 K (l,3,())) rec a) k) (cY ((bM l).take n) l.length,(n:Int))=_;generalize ae (λrec a=>Q117.l0.step K (l,3,()) (Q117.l1 K (l,3,())) rec a) k=REC at ih' ⊢;simp only[Q117.l0.step];rw[decide_eq_true (by omega:(n:Int)<3),zg K l n hl hK,av n (by omega)];simp only[cond_true,AA];by_cases hlen:n<(bM l).length
   ·rw[AN hlen];have hr:=jV.1 (AD hlen);have htk:(bM l).take (n+1)=(bM l).take n++[(bM l)[n]]:=Av hlen;rw[htk]at ih';simp only[Bk];generalize (bM l)[n]=v at hr ih' ⊢;obtain⟨b,rfl⟩:=AE hr.1;have hb:b<l.length:=by omega
    have hb':b<(cY ((bM l).take n) l.length).length:=by rw[ey];exact hb
    rw[decide_eq_false (by omega:¬ (b:Int)<0),ai hb',AH,ai hb',vo hb];exact ih'
   ·rw[A1 (by omega)];show Q117.l1 K (l,3,()) (cY ((bM l).take n) l.length,[],[],0)=_;rw[hdone,show (bM l).take n=gV l by unfold gV;rw[Ax (by omega),Ax (by omega)]]
 simp only[Q117.f,Q117.pre];rw[decide_eq_true (by omega:(0:Int)<=(AB l:Int)),show decide ((AB l:Int)*(1:Nat)<=ah)=true from decide_eq_true (by simp only[ah];omega),AH];simp only[decide_true,A8,cond_true];have h0:List.replicate l.length false=cY ((bM l).take 0) l.length:=by
  refine BR (by rw[List.length_replicate,ey]) λi h1 h2=>?_
  rw[ey]at h2;rw[List.getElem_replicate,gL _ h2];simp
 have:=go 3 0 K (by omega) (by omega);rw[<- h0]at this;exact this
theorem lb (l:List aV)(T:List Int)(n:Nat):(la l T n).length=n:=by simp[la,eM]
theorem lf (l:List aV)(T:List Int){n i:Nat}(h:i<n):(la l T n)[i]'(by rw[lb];exact h)=fp l T (i:Int):=by
 simp[la,eM]
theorem zi {a b:Int}(ha:0<=a)(ha':a<4611686018427387904)(hb:0<=b)(hb':b<4611686018427387904):0<=pb .i64 a b:=by
 obtain⟨m,rfl⟩:=AE ha;obtain⟨n,rfl⟩:=AE hb;have h:(BitVec.ofInt 64 (m:Int) ^^^ BitVec.ofInt 64 (n:Int)).toNat=m ^^^ n:=by
  rw[BitVec.toNat_xor,BitVec.toNat_ofInt,BitVec.toNat_ofInt];congr 1
  ·omega
  ·omega
 have h2:m ^^^ n<2 ^ 62:=Nat.xor_lt_two_pow (by omega) (by omega);show 0<=IntKind.i64.wrap (((BitVec.ofInt 64 (m:Int) ^^^ BitVec.ofInt 64 (n:Int)).toNat:Nat):Int);rw[h,Bl];omega
structure fj (b:List Int):Prop where
 byte:∀ y∈b,0<=y/\y<=255
 len:b.length<=2000
theorem yl (K:Nat)(b:List Int)(q:Nat)(n:Int)(h:fj b)(hq:q<=100000)(hn:1<=n):∃ v:Int,Q69.f K ((b,(q:Int)),n,())=some ((v,()),((b,((q+1:Nat):Int)),()))/\0<=v/\v<n:=by
 have w1:wr .i64 ((q:Int)+1)=((q+1:Nat):Int):=av q (by omega);have w2:wr .i64 (((q+1:Nat):Int)-1)=(q:Int):=by rw[aK (n:=((q+1:Nat):Int)-1) (by omega) (by omega)];omega
 have hl:=h.len;have hn0:decide (n=0)=false:=decide_eq_false (by omega);have mods:∀ x:Int,0<=x->0<=A6 x n/\A6 x n<n:=λx hx=>⟨BW _ hx,BK _ (by omega)⟩
 simp only[Q69.f];rw[decide_eq_false (by omega:¬ n<1)];simp only[cond_false,w1,w2,hn0];by_cases h0:b.length=0
 ·rw[show ((b.length:Int)==0)=true by simpa using h0];exact⟨0,rfl,by omega,by omega⟩
 ·rw[show ((b.length:Int)==0)=false by simpa using h0];simp only[cond_false];by_cases hlt:q<b.length
  ·rw[decide_eq_true (by omega:(q:Int)<(b.length:Int)),ai hlt];simp only[cond_true,AA];obtain⟨y0,y1⟩:=h.byte b[q] (AD hlt);rw[aK (n:=b[q]) (by omega) (by omega)];exact⟨_,rfl,mods _ y0⟩
  ·rw[decide_eq_false (by omega:¬ (q:Int)<(b.length:Int)),decide_eq_false (by omega:¬ (b.length:Int)=0)];simp only[cond_false];have t1:A6 (q:Int) (b.length:Int)=((q % b.length:Nat):Int):=by rw[BL (by omega)];rfl
   have t2:wr .i64 (wr .i64 ((q:Int)*7)+3)=((q*7+3:Nat):Int):=by rw[aK (n:=(q:Int)*7) (by omega) (by omega),aK (n:=(q:Int)*7+3) (by omega) (by omega)];omega
   have t3:A6 (((q*7+3:Nat)):Int) (b.length:Int)=(((q*7+3) % b.length:Nat):Int):=by rw[BL (by omega)];rfl
   have l1:q % b.length<b.length:=Nat.mod_lt _ (by omega);have l2:(q*7+3) % b.length<b.length:=Nat.mod_lt _ (by omega);rw[t1,t2,t3,ai l1,ai l2];simp only[AA];obtain⟨y0,y1⟩:=h.byte b[q % b.length] (AD l1);obtain⟨z0,z1⟩:=h.byte b[(q*7+3) % b.length] (AD l2);generalize b[q % b.length]=y at y0 y1 ⊢;generalize b[(q*7+3) % b.length]=z at z0 z1 ⊢;have d1:0<=BA (q:Int) (b.length:Int)/\BA (q:Int) (b.length:Int)<=q:=⟨Bq (by omega) (by omega),Bm _ (by omega)⟩;generalize BA (q:Int) (b.length:Int)=e at d1 ⊢;have x1:wr .i64 (wr .i64 (wr .i64 (wr .i64 (wr .i64 y*131)+wr .i64 (wr .i64 z*1117))+wr .i64 ((q:Int)*29))+wr .i64 (wr .i64 e*53))=y*131+z*1117+q*29+e*53:=by
    rw[aK (n:=y) (by omega) (by omega),aK (n:=z) (by omega) (by omega),aK (n:=e) (by omega) (by omega),aK (n:=y*131) (by omega) (by omega),aK (n:=z*1117) (by omega) (by omega),aK (n:=(q:Int)*29) (by omega) (by omega),aK (n:=e*53) (by omega) (by omega),
     aK (n:=y*131+z*1117) (by omega) (by omega),aK (n:=y*131+z*1117+(q:Int)*29) (by omega) (by omega),aK (n:=y*131+z*1117+(q:Int)*29+e*53) (by omega) (by omega)]
   rw[x1];have hx:0<=y*131+z*1117+q*29+e*53/\y*131+z*1117+q*29+e*53<=10000000:=by omega
   generalize y*131+z*1117+(q:Int)*29+e*53=X at hx ⊢;have d2:0<=BA X 64/\BA X 64<=X:=⟨Bq hx.1 (by omega),Bm _ hx.1⟩;rw[aK (n:=BA X 64) (by omega) (by omega)];exact⟨_,rfl,mods _ (zi hx.1 (by omega) d2.1 (by omega))⟩
theorem uh (K:Nat)(t:List af)(f:af)(ht:t.length<=1048576)(hA:Asc (λg:af=>g.1) t)(hK:1048577<K):Q110.f K (t,f,())=some (((b6 t f).1,(b6 t f).2,()),()):=by
 simp only[Q110.f,Q110.pre];obtain⟨o,ho,h1⟩:=eJ K t f.1 ht hK;rw[h1];simp only[AA];cases ho with
 |at_ i hi e =>
  simp only;rw[k6 hA hi e,decide_eq_true (by omega:((i:Nat):Int)>=0),ai hi];simp only[cond_true,AA,AH,ai hi];rw[show Q48.f K (f,t[i],())=_ from oj K f t[i]];simp only[AA];by_cases ho:bF f t[i]
  ·rw[decide_eq_true ho,if_pos ho];simp only[AK,cond_false];rw[szb _ _ _ (by omega) (by show (AB ([]:List af))+t.length<=_;simp;omega)];simp only[cond_true,AQ,ai hi,AA,AH];rw[nC (k:=λg:af=>g.1) hA hi e]
  ·rw[decide_eq_false ho,if_neg ho];rfl
 |no h =>
  simp only;rw[ii h,decide_eq_false (by omega:¬ (-1:Int)>=0)];simp only[cond_false];have fit:∀ m:Nat,m<=t.length->(bif decide ((0:Int)<=0)&&decide ((0:Int)<=(m:Int))&&decide ((m:Int)<=(AB t:Int))&&true then (bif decide ((AB ([]:List af)+AB ((t.take (AC (m:Int))).drop (AC 0)))*32<=ah) then (bif decide ((AB ([]++((t.take (AC (m:Int))).drop (AC 0)))+AB ([f]))*32<=ah) then (bif decide ((0:Int)<=(m:Int))&&decide ((m:Int)<=(AB t:Int))&&decide ((AB t:Int)<=(AB t:Int))&&true then (bif decide ((AB (([]++((t.take (AC (m:Int))).drop (AC 0)))++([f]))+AB ((t.take (AC (AB t:Int))).drop (AC (m:Int))))*32<=ah) then (some (((([]++((t.take (AC (m:Int))).drop (AC 0)))++([f]))++((t.take (AC (AB t:Int))).drop (AC (m:Int))),true,()),())) else none) else none) else none) else none) else (none:Option ((List af×Bool×Unit)×Unit)))=some ((t.take m++[f]++t.drop m,true,()),()):=by
   intro m hm;rw[decide_eq_true (by omega:(0:Int)<=0),decide_eq_true (by omega:(0:Int)<=(m:Int)),decide_eq_true (by omega:(m:Int)<=(AB t:Int)),decide_eq_true (by omega:(AB t:Int)<=(AB t:Int))];simp only[AH,A9,Aa,AQ,Aq,A8,cond_true];have h1:(t.take m).length=m:=by rw[Ab];omega
   have h2:(t.drop m).length=t.length-m:=Ah;rw[szb _ _ _ (by omega) (by simp only[AP];omega),szb _ _ _ (by omega) (by simp only[AI,AP];omega),szb _ _ _ (by omega) (by simp only[AJ,AI,AP];omega)];rfl
  have:=cU (step:=λrec a=>Q110.l0.step K (t,f,()) rec a) t.length (λi=>(i:Int)) (λj=>∃ h:j<t.length,¬ t[j].1<f.1) (some ((t.take t.length++[f]++t.drop t.length,true,()),())) (λj=>some ((t.take j++[f]++t.drop j,true,()),())) ?_ ?_ t.length K 0 (by omega) (by omega)
  ·have fin:∀ m,m<=t.length->(∀ i,(hi:i<t.length)->i<m->t[i].1<f.1)->(∀ i,(hi:i<t.length)->m<=i->f.1<t[i].1)->t.take m++[f]++t.drop m=bN (λg=>g.1) f t:=λm hm lo hi=>nD (k:=λg:af=>g.1) hm lo hi
   rcases this with ⟨h1,h2⟩|⟨j,_,h1,⟨h3,h4⟩,h5,h2⟩
   ·rw[fin t.length (AY _) (λi hi _=>by
     have:=h1 i (Al _) hi;exact Ao.1 λh=>this ⟨hi,h⟩) (λi hi h=>by omega)]at h2
    exact h2
   ·rw[fin j (by omega) (λi hi hij=>by
     have:=h5 i (Al _) hij;exact Ao.1 λh=>this ⟨hi,h⟩) (λi hi hij=>by
     have hne:=h t[i] (AD hi);rcases Ay hij with h6|h6
     ·have:=ek.1 hA j i h3 hi h6;omega
     ·subst h6;omega)]at h2
    exact h2
  ·intro rec i hi;simp only[Q110.l0.step];rw[bK (by omega:(i:Int)<(AB t:Int)),ai hi,av i (by omega)];simp only[cond_true,AA];rw[show idx t ((AC (i:Int):Nat):Int)=some t[i] by rw[AH];exact ai hi];simp only[AA];by_cases hlt:t[i].1<f.1
   ·exact .inl ⟨λ⟨_,h⟩=>h hlt,by rw[decide_eq_true hlt];rfl⟩
   ·exact .inr ⟨⟨hi,hlt⟩,by rw[decide_eq_false hlt];exact fit i (by omega)⟩
  ·intro rec;simp only[Q110.l0.step,bc,cond_false];exact fit t.length (AY _)
def eN (t:List af)(fs:List af):List af:=fs.foldl (λt f=>(b6 t f).1) t
theorem pW:∀ {fs t:List af},aA t->(∀ f∈fs,bD f)->aA (eN t fs)
 |[],_,h,_=>h
 |f::fs,t,h,hf=>pW (fs:=fs) (jr h (hf f (by simp))) (λg hg=>hf g (by simp[hg]))
theorem cD {t:List af}(h:aA t):t.length<=1048576:=Ag (gT h.2 (λg hg=>(h.1 g hg).1)) (by decide)
theorem sG {R:Type}(a fs:List af)(ha:aA a)(hf:∀ f∈fs,bD f)(fin:List af->Option R){step:(List af×Int->Option R)->List af×Int->Option R}
  (h:∀ (rec:List af×Int->Option R) (t:List af) (i:Nat) (hi:i<fs.length),aA t->step rec (t,(i:Int))=rec ((b6 t fs[i]).1,((i+1:Nat):Int)))
  (hend:∀ (rec:List af×Int->Option R) (t:List af),step rec (t,(fs.length:Int))=fin t) {k:Nat} (hk:fs.length<k):ae step k (a,0)=fin (eN a fs):=by
 have:∀ (d i k:Nat) (t:List af),i+d=fs.length->d<k->aA t->ae step k (t,(i:Int))=fin (eN t (fs.drop i)):=by
  intro d;induction d with
  |zero =>
   intro i k t hi hk _;obtain⟨k,rfl⟩:∃ k',k=k'+1:=⟨k-1,by omega⟩;have:i=fs.length:=by omega
   subst this;show step (ae step k) _=_;rw[hend,BD];rfl
  |succ d ih =>
   intro i k t hi hk ht;obtain⟨k,rfl⟩:∃ k',k=k'+1:=⟨k-1,by omega⟩;have hlt:i<fs.length:=by omega
   show step (ae step k) _=_;rw[h _ _ _ hlt ht,AM hlt];exact ih (i+1) k _ (by omega) (by omega) (jr ht (hf _ (AD hlt)))
 have:=this fs.length 0 k a (by omega) hk ha
 rwa [Aa]at this
theorem vr (f:af):¬ bF f f:=by
 unfold bF;simp
theorem jx (K:Nat)(xs:List af)(hx:xs.length<=1048576)(hK:1048577<K):Q180.f K (xs,xs,())=rb true:=by
 have hl:Q180.l0 K (xs,xs,()) 0=rb true:=by
  refine fR (step:=λrec a=>Q180.l0.step K (xs,xs,()) rec a) xs.length (λi=>(i:Int)) (rb true) ?_ ?_ (by omega)
  ·intro rec i hi;simp only[Q180.l0.step];rw[decide_eq_true (by omega:(i:Int)<(AB xs:Int)),ai hi,av i (by omega)];simp only[cond_true,AA];rw[show Ty.eqv t2 xs[i] xs[i]=decide (xs[i]=xs[i]) from iH _ _,decide_eq_true rfl];rfl
  ·intro rec;simp only[Q180.l0.step,bc];rfl
 simp only[Q180.f,Q180.pre,bne_self_eq_false,cond_false];exact hl
theorem rE {l:List aV}(hC:cV l)(T:List Int):aA (e8 l T l.length):=by
 unfold e8;constructor
 ·intro f hf;obtain⟨i,hi,rfl⟩:=AR.1 hf;obtain⟨h0,h1⟩:=nF.1 (AF.1 hi).1;obtain⟨b,rfl⟩:=AE h0;have hb:b<l.length:=by omega
  rw[dP hb];exact (hC.1 l[b] (AD hb)).1
 ·unfold Asc;rw[Aj];have hp:((eM l.length).filter λi=>decide (i∈T)).Pairwise λ (a b:Int)=>(0<=a/\a<l.length)/\(0<=b/\b<l.length)/\a<b:=by
   refine A5 _ ?_;have:∀ xs:List Int,(∀ x∈xs,0<=x/\x<l.length)->xs.Pairwise (·<·)->xs.Pairwise λ (a b:Int)=>(0<=a/\a<l.length)/\(0<=b/\b<l.length)/\a<b:=by
    intro xs hx hxs;induction xs with
    |nil=>exact List.Pairwise.nil
    |cons x xs ih =>
     rw[AT]at hxs ⊢;exact⟨λy hy=>⟨hx x (by simp),hx y (by simp[hy]),hxs.1 y hy⟩,ih (λy hy=>hx y (by simp[hy])) hxs.2⟩
   exact this _ (λx hx=>nF.1 hx) (rC _)
  refine hp.imp λ {a b} h=>?_
  obtain⟨⟨a0,a1⟩,⟨b0,b1⟩,hab⟩:=h;obtain⟨i,rfl⟩:=AE a0;obtain⟨j,rfl⟩:=AE b0;have hi:i<l.length:=by omega
  have hj:j<l.length:=by omega
  rw[dP hi,dP hj];exact ek.1 hC.2 i j hi hj (by omega)
theorem wZ {l:List aV}(hC:cV l)(T:List Int):cV (eD l T l.length):=by
 have hkey:∀ i (h:i<l.length),(fp l T (i:Int)).1=l[i].1:=λi h=>by
  unfold fp;rw[dP h];cases decide ((i:Int)∈T) <;> rfl
 have hle:∀ i (h:i<l.length),(fp l T (i:Int)).2<=l[i].2:=λi h=>by
  unfold fp;rw[dP h];cases decide ((i:Int)∈T) with
  |true=>show l[i].2-1<=l[i].2;omega
  |false=>exact Ac _
 unfold eD;constructor
 ·intro x hx;obtain⟨h1,h2⟩:=AF.1 hx;have h2:x.2>0:=by simpa using h2
  obtain⟨i,hi,rfl⟩:=AO h1;rw[lb]at hi;rw[lf l T hi]at h2 ⊢;have:=(hC.1 l[i] (AD hi));refine⟨by rw[hkey i hi];exact this.1,?_,?_⟩
  ·omega
  ·have h3:=hle i hi;have h4:=this.2.2;omega
 ·unfold Asc;refine A5 _ ?_;rw[A7];intro i j hi hj hij;rw[lb]at hi hj;show (la l T l.length)[i].1.1<(la l T l.length)[j].1.1;rw[lf l T hi,lf l T hj,hkey i hi,hkey j hj];exact ek.1 hC.2 i j hi hj hij
def jy (n:aa)(to:Int):List af :=
 bif (aX (aa.table n) to).2.2.1==2 then (b6 (e8 (aa.cast n) (gV (aa.cast n)) (aa.cast n).length) (aX (aa.table n) to)).1 else e8 (aa.cast n) (gV (aa.cast n)) (aa.cast n).length
def jz (n:aa):aa:=ij n (aa.table n) (eD (aa.cast n) (gV (aa.cast n)) (aa.cast n).length) (aa.doubts n)
theorem mF {n:aa}(h:cI n)(to:Int):aA (jy n to):=by
 have h1:=rE h.cast (gV (aa.cast n));unfold jy;cases hs:(aX (aa.table n) to).2.2.1==2 with
 |false=>exact h1
 |true =>
  refine jr h1 (eu h.table ?_).1;by_cases h2:∃ f∈aa.table n,f.1=to
  ·exact h2
  ·rw[jS (λg hg e=>h2 ⟨g,hg,e⟩)]at hs;simp at hs
theorem clen {n:aa}(h:cI n):(aa.cast n).length<=8:=gT h.cast.2 (λx hx=>(h.cast.1 x hx).1.1)
theorem th (K:Nat)(n:aa)(to:Int)(h:cI n)(hK:1048577<K):Q144.f K (n,to,())=some ((jy n to,jz n,()),()):=by
 have hc:=clen h;simp only[Q144.f];rw[show Q117.f K (n.2.2.2.2.2.2.2.2.2.1,3,())=_ from zh K (aa.cast n) (by omega) h.cast hK];simp only[AA];obtain⟨o,ho,e1⟩:=eJ K (aa.table n) to h.lt hK;rw[show Q45.f K (n.2.2.2.2.2.2.2.2.1,to,())=_ from e1];simp only[AA,jy];have hF:=rE h.cast (gV (aa.cast n));cases ho with
 |no hno =>
  rw[jS hno];rfl
 |at_ j hj e =>
  have hfa:aX (aa.table n) to=(aa.table n)[j]:=by rw[<- e];exact jR h.table.2 (AD hj)
  rw[hfa];simp only;rw[decide_eq_true (by omega:((j:Nat):Int)>=0),show idx n.2.2.2.2.2.2.2.2.1 ((j:Nat):Int)=some (aa.table n)[j] from ai hj];simp only[cond_true,AA];cases (aa.table n)[j].2.2.1==2 with
  |false=>rfl
  |true =>
   simp only[cond_true];rw[uh K _ _ (cD hF) hF.2 hK];rfl
def ct (n:aa)(k:Nat):Int:=A6 (n.2.2.2.2.2.2.2.1+(k:Int)) 8
def gl (n:aa)(k:Nat):Prop:=ct n k≠n.1/\d4 (aX (aa.table n) (ct n k))=true
def askN (n:aa)(to:Int):aa :=
 let m:=jz n
 (m.1,m.2.1,m.2.2.1,m.2.2.2.1,m.2.2.2.2.1,m.2.2.2.2.2.1,m.2.2.2.2.2.2.1+1,to+1,m.2.2.2.2.2.2.2.2.1,m.2.2.2.2.2.2.2.2.2.1,(to,m.2.2.2.2.2.1,m.2.2.2.2.2.2.1+1,false),m.2.2.2.2.2.2.2.2.2.2.2)
def pingW (n:aa)(to:Int):au:=(1,1,n.1,to,n.2.2.2.2.2.2.1+1,n.1,aa.coord n,jy n to)
theorem ym (K:Nat)(n:aa)(h:cI n)(ht0:0<=n.2.2.2.2.2.2.2.1)(ht1:n.2.2.2.2.2.2.2.1<=8)(hK:1048577<K) :
  ∃ to:Int,Q143.f K (n,())=some ((to,()),())/\((to=-1/\∀ k,k<8->¬ gl n k)\/∃ k,k<8/\gl n k/\(∀ j,j<k->¬ gl n j)/\to=ct n k):=by
 have hcand:∀ k:Nat,k<8->wr .i64 (n.2.2.2.2.2.2.2.1+(k:Int))=n.2.2.2.2.2.2.2.1+(k:Int):=λk hk=>aK (by omega) (by omega)
 have:=cU (step:=λrec a=>Q143.l0.step K (n,()) rec a) 8 (λi=>(i:Int)) (gl n) (some ((-1,()),())) (λj=>some ((ct n j,()),())) ?_ ?_ 8 K 0 (by omega) (by omega)
 ·rcases this with ⟨h1,h2⟩|⟨j,_,h1,h3,h4,h2⟩
  ·exact⟨-1,h2,.inl ⟨rfl,λk hk=>h1 k (Al _) hk⟩⟩
  ·exact⟨_,h2,.inr ⟨j,h1,h3,λm hm=>h4 m (Al _) hm,rfl⟩⟩
 ·intro rec i hi;simp only[Q143.l0.step];rw[decide_eq_true (by omega:(i:Int)<=7),hcand i hi,av i (by omega)];simp only[cond_true];show (¬ gl n i/\(bif ct n i != n.1 then ((Q140.f K (aa.table n,ct n i,())).bind λy1=>bif y1.1.1 then (some ((ct n i,()),())) else (rec ((i+1:Nat):Int))) else (rec ((i+1:Nat):Int)))=rec ((i+1:Nat):Int))\/(gl n i/\(bif ct n i != n.1 then ((Q140.f K (aa.table n,ct n i,())).bind λy1=>bif y1.1.1 then (some ((ct n i,()),())) else (rec ((i+1:Nat):Int))) else (rec ((i+1:Nat):Int)))=some ((ct n i,()),()));rw[rv K (aa.table n) (ct n i) h.table h.lt hK];by_cases hme:ct n i=n.1
  ·exact .inl ⟨λhc=>hc.1 hme,by rw[show (ct n i != n.1)=false by simpa using hme];rfl⟩
  ·rw[show (ct n i != n.1)=true by simpa using hme];cases hl:d4 (aX (aa.table n) (ct n i)) with
   |true=>exact .inr ⟨⟨hme,hl⟩,rfl⟩
   |false=>exact .inl ⟨λhc=>(by rw[hc.2]at hl;cases hl),rfl⟩
 ·intro rec;simp only[Q143.l0.step];rfl
theorem vt (K:Nat)(xs:List af)(φ:af×af×Unit->Option Int)(lt:af->af->Bool)(hφ:∀ y z,∃ c,φ (y,z,())=some c/\decide (c<0)=lt y z)(hx:xs.length<=1048576)(hK:1048577<K) :
  Q56.f K (xs,0,(xs.length:Int),φ,())=some ((),(dg lt [] xs,())):=by
 refine wW (step:=λrec a=>Q56.l0.step K (xs,0,(xs.length:Int),φ,()) (Q56.l1 K (xs,0,(xs.length:Int),φ,()) rec) rec a) lt xs hx ?_ ?_ (by omega)
 ·intro rec done x r hl;simp only[Q56.l0.step];rw[decide_eq_true (by omega:((done.length:Int))<(xs.length:Int))];simp only[cond_true];have:=ud lt (done.length:Int) rec (step:=λrec1 a=>Q56.l1.step K (xs,0,(xs.length:Int),φ,()) rec rec1 a) ?_ ?_ done.reverse r x K (by simp;omega) (by simp;omega)
  ·rw[An,BY]at this;exact this
  ·intro rec1 A y z B hl2;simp only[Q56.l1.step];have e1:wr .i64 (((A.length+1:Nat):Int)-1)=(A.length:Int):=(aK (by omega) (by omega)).trans (by omega);rw[decide_eq_true (by omega:((A.length+1:Nat):Int)>0)];obtain⟨c,hc,hd⟩:=hφ z y;simp only[cond_true,e1,AH,wX,yh,AA,hc,hd,wY,yi]
  ·intro rec1 ys;simp only[Q56.l1.step];rw[decide_eq_false (by omega:¬ (0:Int)>0)];rfl
 ·intro rec ys i hi;simp only[Q56.l0.step];rw[decide_eq_false (by omega:¬ i<(xs.length:Int))];rfl
theorem w8 (K:Nat)(xs:List af)(φ:af×af×Unit->Option Int)(lt:af->af->Bool)(hφ:∀ y z,∃ c,φ (y,z,())=some c/\decide (c<0)=lt y z)(hx:xs.length<=12)(hK:1048577<K) :
  Q64.f K (xs,φ,())=some ((),(dg lt [] xs,())):=by
 simp only[Q64.f,Q63.f];obtain⟨l,hl⟩:∃ l:Int,Q62.f K (wr .u64 (xs.length:Int),())=some ((l,()),()):=by
  have e:wr .u64 (xs.length:Int)=(xs.length:Int):=by
   show IntKind.u64.wrap _=_;have hw:IntKind.u64.wrap (xs.length:Int)=(xs.length:Int) % 18446744073709551616:=by simp[IntKind.wrap,IntKind.bits,IntKind.signed]
   rw[hw];omega
  rw[e];generalize hn:xs.length=n at hx;have:n=0\/n=1\/n=2\/n=3\/n=4\/n=5\/n=6\/n=7\/n=8\/n=9\/n=10\/n=11\/n=12:=by omega
  rcases this with rfl|rfl|rfl|rfl|rfl|rfl|rfl|rfl|rfl|rfl|rfl|rfl|rfl
  ·exact⟨0,by kernel_rfl⟩
  ·exact⟨1,by kernel_rfl⟩
  ·exact⟨2,by kernel_rfl⟩
  ·exact⟨2,by kernel_rfl⟩
  ·exact⟨3,by kernel_rfl⟩
  ·exact⟨3,by kernel_rfl⟩
  ·exact⟨3,by kernel_rfl⟩
  ·exact⟨3,by kernel_rfl⟩
  ·exact⟨4,by kernel_rfl⟩
  ·exact⟨4,by kernel_rfl⟩
  ·exact⟨4,by kernel_rfl⟩
  ·exact⟨4,by kernel_rfl⟩
  ·exact⟨4,by kernel_rfl⟩
 rw[hl];simp only[AA];have:Q61.f K (xs,0,(xs.length:Int),l,φ,())=some ((),(dg lt [] xs,())):=by
  obtain⟨k,rfl⟩:∃ k',K=k'+1:=⟨K-1,by omega⟩;have hs:∀ (rec:Q61.A_l0->Option Q61.Res) (a:Q61.A_l0),Q61.l0.step (k+1) (xs,0,(xs.length:Int),l,φ,()) rec a=some ((),(dg lt [] xs,())):=by
   intro rec a;simp only[Q61.l0.step];have e:wr .i64 ((xs.length:Int)-0)=(xs.length:Int):=(aK (by omega) (by omega)).trans (by omega);rw[e,decide_eq_true (by omega:(xs.length:Int)<=12)];simp only[cond_true];rw[vt (k+1) xs φ lt hφ (by omega) hK];rfl
  exact hs (λ_=>none) ()
 rw[this];rfl
abbrev kF:=Int×ByteArray×Bool
abbrev bT:=List aa×List kF×List Int×List af
abbrev bT.radio (w:bT):List kF:=w.2.1
abbrev bT.sides (w:bT):List Int:=w.2.2.1
abbrev bT.born (w:bT):List af:=w.2.2.2
def mG (f g:af):Prop:=if f.1≠g.1 then f.1<g.1 else bF g f
theorem vu (f g:af):¬ nA f g>=0<->mG f g:=by
 unfold nA mG;by_cases h0:f.1=g.1
 ·rw[ig ((dl f.1 g.1).2 h0),if_neg (show ¬ f.1≠g.1 from λh=>h h0)];unfold bF;by_cases h1:f.2.1=g.2.1
  ·rw[ig ((dl f.2.1 g.2.1).2 h1),if_neg (show ¬ g.2.1≠f.2.1 from λh=>h h1.symm)];by_cases h2:f.2.2.1=g.2.2.1
   ·rw[ig ((dl f.2.2.1 g.2.2.1).2 h2),if_neg (show ¬ g.2.2.1≠f.2.2.1 from λh=>h h2.symm)];cases f.2.2.2 <;> cases g.2.2.2 <;> simp[orI]
   ·rw[kB (λh=>h2 ((dl f.2.2.1 g.2.2.1).1 h)),if_pos (show g.2.2.1≠f.2.2.1 from λh=>h2 h.symm)];have:=jq f.2.2.1 g.2.2.1;omega
  ·rw[kB (λh=>h1 ((dl f.2.1 g.2.1).1 h)),if_pos (show g.2.1≠f.2.1 from λh=>h1 h.symm)];have:=jq f.2.1 g.2.1;omega
 ·rw[kB (λh=>h0 ((dl f.1 g.1).1 h)),if_pos (show f.1≠g.1 from h0)];have:=jq f.1 g.1;omega
def bI (b:Bool):Int:=if b=true then 1 else 0
theorem bI_lt (a b:Bool):bI a<bI b<->b=true/\a=false:=by cases a <;> cases b <;> simp[bI]
theorem jW (f g:af):mG f g<->f.1<g.1\/f.1=g.1/\(f.2.1<g.2.1\/f.2.1=g.2.1/\(f.2.2.1<g.2.2.1\/f.2.2.1=g.2.2.1/\bI f.2.2.2<bI g.2.2.2)):=by
 unfold mG bF;rw[bI_lt];by_cases h0:f.1=g.1
 ·rw[if_neg (λh=>h h0)];by_cases h1:g.2.1=f.2.1
  ·rw[if_neg (λh=>h h1)];by_cases h2:g.2.2.1=f.2.2.1
   ·rw[if_neg (λh=>h h2)];constructor
    ·intro h;exact .inr ⟨h0,.inr ⟨h1.symm,.inr ⟨h2.symm,h⟩⟩⟩
    ·rintro (h|⟨_,h|⟨_,h|⟨_,h⟩⟩⟩)
     ·omega
     ·omega
     ·omega
     ·exact h
   ·rw[if_pos h2];constructor
    ·intro h;exact .inr ⟨h0,.inr ⟨h1.symm,.inl h⟩⟩
    ·rintro (h|⟨_,h|⟨_,h|⟨_,h⟩⟩⟩) <;> omega
  ·rw[if_pos h1];constructor
   ·intro h;exact .inr ⟨h0,.inl h⟩
   ·rintro (h|⟨_,h|⟨_,h|⟨_,h⟩⟩⟩) <;> omega
 ·rw[if_pos h0];constructor
  ·intro h;exact .inl h
  ·rintro (h|⟨_,h⟩)
   ·exact h
   ·omega
def ltF (f g:af):Bool:=decide (nA f g<0)
theorem mH (f g:af):ltF f g=true<->mG f g:=by
 unfold ltF;rw[decide_eq_true_iff,<- vu];omega
theorem pX (f g:af):ltF f g=false<->¬ mG f g:=by
 rw[<- mH];cases ltF f g <;> simp
theorem vv (a b c:af)(h1:ltF a b=false)(h2:ltF b c=false):ltF a c=false:=by
 rw[pX,jW]at *;generalize bI a.2.2.2=x at *;generalize bI b.2.2.2=y at *;generalize bI c.2.2.2=z at *;omega
theorem vw (a b:af)(h:ltF a b=true):ltF b a=false:=by
 rw[pX];rw[mH]at h;rw[jW]at *;generalize bI a.2.2.2=x at *;generalize bI b.2.2.2=y at *;omega
def cZ (n:aa):List af:=aa.table n++(aa.others n).flatMap (·.2)
theorem nG {α β:Type}(xs:List α)(f:α->List β)(i:Nat)(h:i<xs.length):(xs.take (i+1)).flatMap f=(xs.take i).flatMap f++f xs[i]:=by
 rw[Av h,BZ];simp only[List.flatMap_cons,Bn,AL]
theorem nH {α β:Type}(xs:List α)(f:α->List β)(i:Nat):((xs.take i).flatMap f).length<=(xs.flatMap f).length:=by
 have:xs.flatMap f=(xs.take i).flatMap f++(xs.drop i).flatMap f:=(congrArg (List.flatMap f) (A0 i xs).symm).trans BZ;rw[this];simp
theorem ui (K:Nat)(hK:1048577<K)(y z:af):∃ c,(Q25.f K (y,z,())).map (λr=>r.1.1)=some c/\decide (c<0)=ltF y z:=by
 rw[pR K y z hK];exact⟨_,rfl,rfl⟩
theorem zj (K:Nat)(n:aa)(hn:NB n)(hs:(cZ n).length<=12)(hK:1048577<K):Q66.f K (n,())=some ((dg ltF [] (cZ n),()),()):=by
 have hl:=hn.others;have hs':(aa.table n).length+((aa.others n).flatMap (·.2)).length<=12:=by rw[<- AJ];exact hs
 simp only[Q66.f,Q66.pre,Q0.f];rw[wQ (Ag (Nat.mul_le_mul_right _ hn.table) (by decide))];simp only[AA];have hloop:∀ (d i k:Nat),i+d=(aa.others n).length->d<k->ae (λrec a=>Q66.l0.step K (n,()) rec a) k (aa.table n++((aa.others n).take i).flatMap (·.2),(i:Int))=some ((dg ltF [] (cZ n),()),()):=by
  intro d;induction d with
  |zero =>
   intro i k hi hk;obtain⟨k,rfl⟩:∃ k',k=k'+1:=⟨k-1,by omega⟩;have:i=(aa.others n).length:=by omega
   subst this;show Q66.l0.step K (n,()) _ _=_;rw[Aq];simp only[Q66.l0.step,bc,cond_false];have e:=w8 K (cZ n) (λy3=>(Q25.f K (y3.1,y3.2.1,())).map λy=>y.1.1) ltF (λy z=>ui K hK y z) hs hK;unfold cZ at e ⊢;rw[e];simp only[AA,Q65.f];simp
  |succ d ih =>
   intro i k hi hk;obtain⟨k,rfl⟩:∃ k',k=k'+1:=⟨k-1,by omega⟩;have hlt:i<(aa.others n).length:=by omega
   show Q66.l0.step K (n,()) _ _=_;simp only[Q66.l0.step];rw[bK (by omega:(i:Int)<(AB (aa.others n):Int)),ai hlt,av i (by omega)];simp only[cond_true,AA];have h1:=nH (aa.others n) (·.2) (i+1);rw[nG _ _ _ hlt,AJ]at h1;rw[oe (by simp only[AJ];omega),At,<- nG _ (·.2) _ hlt];exact ih (i+1) k (by omega) (by omega)
 have:=hloop (aa.others n).length 0 K (by omega) (by omega);simp only[List.take_zero,Bn,AL]at this;exact this
theorem eC {n:Int}(h:InP n 0 7):ap n=n / 4:=by
 obtain⟨h1,h2⟩:=h;unfold ap;rw[Ak h1,aK (by omega) (by omega)]
theorem yn {α:Type}{k:α->Int}{xs:List α}(h:Asc k xs):∀ i (hi:i<xs.length),k (xs[0]'(by omega))+i<=k xs[i]:=by
 rw[fQ]at h;intro i;induction i with
 |zero=>intro hi;simp
 |succ i ih =>
  intro hi;have h1:=ih (by omega);have h2:=h (i+1) hi (by omega);simp only[Nat.add_sub_cancel]at h2;omega
theorem ke {t:List af}{s:Int}(hT:aA t)(hS:bP t s):t.length<=4:=by
 cases h:t.length with
 |zero=>omega
 |succ m =>
  have hlt:m<t.length:=by omega
  have h0:0<t.length:=by omega
  have h1:=yn hT.2 m hlt;have a1:=hS _ (AD hlt);have a2:=hS _ (AD h0);have b1:=(hT.1 _ (AD hlt)).1;have b2:=(hT.1 _ (AD h0)).1;rw[eC b1]at a1;rw[eC b2]at a2;omega
theorem gW {me:Int}{l:List bZ}(hm:InP me 0 7)(h:cl me l):l=[]\/∃ x,l=[x]:=by
 match l,h with
 |[],_=>exact .inl rfl
 |[x],_=>exact .inr ⟨x,rfl⟩
 |x::y::r,h =>
  exfalso;have h1:=h.1 x (by simp);have h2:=h.1 y (by simp);have h3:x.1<y.1:=by
   have:=h.2;unfold Asc at this;rw[AT]at this;exact this.1 y (by simp)
  have e:=eC hm;obtain⟨⟨a1,a2⟩,a3,_⟩:=h1;obtain⟨⟨b1,b2⟩,b3,_⟩:=h2;obtain⟨m1,m2⟩:=hm;rw[e]at a3 b3;omega
theorem vz {n:aa}(hn:NB n)(h:mC n):aa.table n=[]/\aa.cast n=[]/\aa.doubts n=[]/\aa.places n=[]/\aa.others n=[]:=by
 obtain⟨_,_,_,_,_,h,_⟩:=h;have h1:=hn.table;have h2:=hn.cast;have h3:=hn.doubts;have h4:=hn.places;have h5:=hn.others;rw[aK (n:=(AB (aa.table n):Int)+(AB (aa.cast n):Int)) (by omega) (by omega)]at h;rw[aK (n:=(AB (aa.table n):Int)+(AB (aa.cast n):Int)+(AB (aa.doubts n):Int)) (by omega) (by omega)]at h;rw[aK (n:=(AB (aa.table n):Int)+(AB (aa.cast n):Int)+(AB (aa.doubts n):Int)+(AB (aa.places n):Int)) (by omega) (by omega)]at h;rw[aK (by omega) (by omega)]at h;refine⟨Ad ?_,Ad ?_,Ad ?_,Ad ?_,Ad ?_⟩ <;> omega
theorem jX {n:aa}(hn:NB n)(hP:cF n):(cZ n).length<=8/\(aa.others n).length<=1:=by
 have hm:=hP.1;cases hu:n.2.1 with
 |false =>
  have hD:mC n:=by have:=hP.2.2.2.2.2;rwa [if_neg (by rw[hu];simp)]at this
  obtain⟨h1,_,_,_,h5⟩:=vz hn hD;unfold cZ;rw[h1,h5];simp
 |true =>
  have hU:UpP n:=by have:=hP.2.2.2.2.2;rwa [if_pos hu]at this
  obtain⟨hT,hS,_,_,_,_,_,_,hO⟩:=hU;have ht:=ke hT hS;unfold cZ;rcases gW hm hO with h|⟨x,h⟩
  ·rw[h];simp;omega
  ·have hx:=hO.1 x (by rw[h];simp);have:=ke hx.2.2.2.1 hx.2.2.2.2;rw[h];simp;omega
theorem kG {a:Int}{m:Nat}(hm:m<4611686018427387904):0<=be .i64 a (m:Int)/\be .i64 a (m:Int)<=m:=by
 have h:(BitVec.ofInt 64 a &&& BitVec.ofInt 64 (m:Int)).toNat<=m:=by
  rw[BitVec.toNat_and];refine Ag Nat.and_le_right ?_;rw[BitVec.toNat_ofInt];omega
 show 0<=IntKind.i64.wrap (((BitVec.ofInt 64 a &&& BitVec.ofInt 64 (m:Int)).toNat:Nat):Int)/\IntKind.i64.wrap (((BitVec.ofInt 64 a &&& BitVec.ofInt 64 (m:Int)).toNat:Nat):Int)<=m;generalize (BitVec.ofInt 64 a &&& BitVec.ofInt 64 (m:Int)).toNat=r at h ⊢;rw[Bl];omega
def fT (g:List Int)(d:Int):Int:=g.getD (AC (A6 (be .i64 d 255) (g.length:Int))) 0
theorem gz {g:List Int}{d:Int}(h:g≠[]):idx g (A6 (be .i64 d 255) (g.length:Int))=some (fT g d)/\idx g ((AC (A6 (be .i64 d 255) (g.length:Int)):Nat):Int)=some (fT g d)/\fT g d∈g:=by
 have hl:0<g.length:=BG.2 h;have h0:=(kG (a:=d) (m:=255) (by omega)).1;have h1:0<=A6 (be .i64 d 255) (g.length:Int):=BW _ h0;have h2:A6 (be .i64 d 255) (g.length:Int)<g.length:=BK _ (by omega);unfold fT;obtain⟨v,hv⟩:=AE h1;rw[hv]at h2 ⊢;have h3:v<g.length:=by omega
 rw[AH,ai h3,List.getD_eq_getElem?_getD,AN h3];exact⟨rfl,rfl,AD h3⟩
def lg (n:aa)(site d:Int):Int :=
 bif decide (eY (dt (aa.others n) site)≠[])&&be .i64 d 4==0 then fT (eY (dt (aa.others n) site)) (AZ d (2 ^ 3)) else site*4+be .i64 (AZ d (2 ^ 3)) 3
structure qK (n:aa):Prop where
 short:(aa.others n).length<=1
 table:∀ x∈aa.others n,aA x.2/\x.2.length<=1048576
theorem zk {site d:Int}(h0:0<=site)(h1:site<=1):wr .i64 (wr .i64 (site*4)+be .i64 (AZ d (2 ^ 3)) 3)=site*4+be .i64 (AZ d (2 ^ 3)) 3:=by
 obtain⟨b0,b1⟩:=kG (a:=AZ d (2 ^ 3)) (m:=3) (by omega);have b0:0<=be .i64 (AZ d (2 ^ 3)) 3:=b0;have b1:be .i64 (AZ d (2 ^ 3)) 3<=3:=b1;rw[aK (n:=site*4) (by omega) (by omega),aK (by omega) (by omega)]
theorem far_s (K:Nat)(n:aa)(site d:Int)(h:qK n)(h0:0<=site)(h1:site<=1)(hK:1048577<K):Q149.f K (n,site,d,())=some ((lg n site d,()),()):=by
 obtain⟨k,rfl⟩:∃ k,K=k+2:=⟨K-2,by omega⟩;show Q149.l0.step (k+2) (n,site,d,()) (ae (λrec a=>Q149.l0.step (k+2) (n,site,d,()) rec a) (k+1)) 0=_;have hend:∀ (rec:Int->Option ((Int×Unit)×Unit)) (a:Int),¬ a<(aa.others n).length->Q149.l0.step (k+2) (n,site,d,()) rec a=some ((site*4+be .i64 (AZ d (2 ^ 3)) 3,()),()):=by
  intro rec a ha;simp only[Q149.l0.step];rw[show decide (a<(AB n.2.2.2.2.2.2.2.2.2.2.2.2.2.2:Int))=false from decide_eq_false ha,zk h0 h1];rfl
 match ho:aa.others n with
 |[] =>
  rw[hend _ _ (by rw[ho];simp),lg,ho];rfl
 |[x] =>
  have hx:=h.table x (by rw[ho];simp);have hrest:ae (λrec a=>Q149.l0.step (k+2) (n,site,d,()) rec a) (k+1) 1=some ((site*4+be .i64 (AZ d (2 ^ 3)) 3,()),()):=hend _ _ (by rw[ho];simp);generalize ae (λrec a=>Q149.l0.step (k+2) (n,site,d,()) rec a) (k+1)=rec at hrest ⊢;simp only[Q149.l0.step];rw[show decide ((0:Int)<(AB n.2.2.2.2.2.2.2.2.2.2.2.2.2.2:Int))=true from decide_eq_true (by show (0:Int)<((aa.others n).length:Int);rw[ho];simp),show idx n.2.2.2.2.2.2.2.2.2.2.2.2.2.2 (0:Int)=some x by show idx (aa.others n) (0:Int)=some x;rw[ho];rfl,show wr .i64 ((0:Int)+1)=1 from rfl];simp only[cond_true,AA,hrest];rw[lg,ho];cases hs:x.1==site with
  |false =>
   simp only[cond_false,dt,BT,hs,List.find?_nil];rfl
  |true =>
   simp only[cond_true,dt,BT,hs,Option.map_some,Bk];rw[tc (k+2) x.2 hx.2 hK];simp only[AA];by_cases hg:eY x.2=[]
   ·rw[hg];rfl
   ·have hl:0<(eY x.2).length:=BG.2 hg;rw[decide_eq_true hg,decide_eq_true (by omega:((eY x.2).length:Int)>0)];simp only[cond_true,Ap];cases be .i64 d 4==0 with
    |false=>rfl
    |true =>
     simp only[cond_true];rw[decide_eq_false (by omega:¬ ((eY x.2).length:Int)=0),(gz hg).1,(gz hg).2.1];rfl
 |_::_::_=>exact absurd h.short (by rw[ho];simp)
def kH (n:aa):Bool:=decide (n.1∈eY (aa.table n))
theorem xa (K:Nat)(n:aa)(ht:(aa.table n).length<=1048576)(hK:1048577<K):Q148.f K (n,())=rb (kH n):=by
 simp only[Q148.f,Q148.pre];rw[show Q147.f K (n.2.2.2.2.2.2.2.2.1,2,())=_ from tc K (aa.table n) ht hK];simp only[AA];have hl:=vj (aa.table n);unfold kH;generalize eY (aa.table n)=g at hl ⊢;have:=cU (step:=λrec a=>Q148.l0.step K (n,()) rec a) g.length (λi=>(g,(i:Int))) (λj=>∃ h:j<g.length,g[j]=n.1) (rb false) (λ_=>rb true) ?_ ?_ g.length K 0 (by omega) (by omega)
 ·rcases this with ⟨h1,h2⟩|⟨j,_,h1,⟨h3,h4⟩,_,h2⟩
  ·rw[decide_eq_false (λhm=>by
    obtain⟨i,hi,e⟩:=AO hm;exact h1 i (Al _) hi ⟨hi,e⟩)]
   exact h2
  ·rw[decide_eq_true (h4 ▸ AD h3:n.1∈g)];exact h2
 ·intro rec i hi;simp only[Q148.l0.step];rw[bK (by omega:(i:Int)<(AB g:Int)),ai hi,av i (by omega),AH,ai hi];simp only[cond_true,AA];by_cases h:g[i]=n.1
  ·exact .inr ⟨⟨hi,h⟩,by rw[show (g[i]==n.1)=true by simpa using h];rfl⟩
  ·exact .inl ⟨λ⟨_,h'⟩=>h h',by rw[show (g[i]==n.1)=false by simpa using h];rfl⟩
 ·intro rec;simp only[Q148.l0.step,bc];rfl
def wanW (n:aa)(d site:Int):au:=(2,(ot 6 n (lg n site d)).2)
def lh (n:aa)(d:Int):List au:=bif kH n then (([0,1]:List Int).filter (λs=>s != ap n.1)).map (wanW n d) else []
theorem wan_s (K:Nat)(n:aa)(d:Int)(h:qK n)(ht:(aa.table n).length<=1048576)(hK:1048577<K):Q150.f K (n,d,())=some ((lh n d,()),()):=by
 simp only[Q150.f,Q150.pre];rw[xa K n ht hK];simp only[AA,lh];cases kH n with
 |false=>rfl
 |true =>
  simp only[AK,cond_false,cond_true];refine ph (step:=λrec a=>Q150.l0.step K (n,d,()) rec a) ([0,1]:List Int) (λs=>s != ap n.1) (wanW n d) (λacc i=>(acc,(i:Int))) (λws=>some ((ws,()),())) ?_ ?_ (by simp;omega)
  ·intro rec acc i hi ha;have hi2:i<2:=hi;have hv:([0,1]:List Int)[i]=(i:Int):=by
    have:i=0\/i=1:=by omega
    rcases this with rfl|rfl <;> rfl
   simp only[Q150.l0.step,hv];rw[decide_eq_true (by omega:(i:Int)<=1),av i (by omega),dI K n.1];simp only[cond_true,AA];cases (i:Int) != ap n.1 with
   |false=>rfl
   |true =>
    simp only[cond_true];rw[far_s K n (i:Int) d h (by omega) (by omega) hK];simp only[AA];refine (congrArg (λo=>AG o _) (mE K n 6 (lg n (i:Int) d) ht)).trans ?_;simp only[AA];rw[szw _ _ _ (by omega) (by simp;omega)];rfl
  ·intro rec acc ha;simp only[Q150.l0.step];rfl
def rF (n:aa)(f:af):Bool:=f.2.2.1 != 4&&f.1 != n.1
def eO (n:aa):List Int:=((aa.table n).filter (rF n)).map (·.1)
def rG (n:aa)(to:Int):List au:=match aa.others n with
 |[]=>[]
 |x::_=>[(1,6,n.1,to,0,n.1,aa.coord n,x.2)]
def jg (n:aa)(draw:Int):List au :=
 bif be .i64 draw 3==1 then lh n (AZ draw (2 ^ 2)) else
 bif be .i64 draw 3==3||decide (eO n=[]) then [] else
 bif be .i64 draw 3==0 then [ot 4 n (fT (eO n) (AZ draw (2 ^ 2)))] else rG n (fT (eO n) (AZ draw (2 ^ 2)))
theorem and3 (a:Int):be .i64 a 3=0\/be .i64 a 3=1\/be .i64 a 3=2\/be .i64 a 3=3:=by
 obtain⟨b0,b1⟩:=kG (a:=a) (m:=3) (by omega);have b0:0<=be .i64 a 3:=b0;have b1:be .i64 a 3<=3:=b1;omega
theorem vA {n:aa}(hT:aA (aa.table n)){v:Int}(hv:v∈eO n):0<=v:=by
 obtain⟨f,hf,rfl⟩:=AR.1 hv;exact (hT.1 f (AF.1 hf).1).1.1
theorem zl (K:Nat)(n:aa)(d:Int)(ht:(aa.table n).length<=1048576)(hK:1048577<K):Q146.f K (n,d,())=some ((bif decide (eO n=[]) then -1 else fT (eO n) d,()),()):=by
 refine (tY (step:=λrec a=>Q146.l0.step K (n,d,()) rec a) (aa.table n) (rF n) (λf=>f.1) (λxs=>some ((bif decide (xs=[]) then -1 else fT xs d,()),())) ?_ ?_ (by omega)).trans rfl
 ·intro rec acc i hi ha;simp only[Q146.l0.step];rw[show decide ((i:Int)<(AB n.2.2.2.2.2.2.2.2.1:Int))=true from bK (by omega:(i:Int)<(AB (aa.table n):Int)),show idx n.2.2.2.2.2.2.2.2.1 (i:Int)=some (aa.table n)[i] from ai hi,av i (by omega)];simp only[cond_true,AA,rF];rw[szb _ _ _ (by omega) (by simp;omega)];cases (aa.table n)[i].1 != n.1 <;> cases (aa.table n)[i].2.2.1 != 4 <;> rfl
 ·intro rec acc _;simp only[Q146.l0.step];rw[show decide ((AB (aa.table n):Int)<(AB n.2.2.2.2.2.2.2.2.1:Int))=false from bc _];simp only[cond_false];by_cases hg:acc=[]
  ·subst hg;rfl
  ·have hl:0<acc.length:=BG.2 hg;rw[show ((acc.length:Int)==0)=false by simp;exact hg,decide_eq_false (by omega:¬ (acc.length:Int)=0),decide_eq_false hg,(gz hg).1,(gz hg).2.1];rfl
theorem zm (K:Nat)(n:aa)(draw:Int)(h:qK n)(hT:aA (aa.table n))(ht:(aa.table n).length<=1048576)(hK:1048577<K):Q151.f K (n,draw,())=some ((jg n draw,()),()):=by
 simp only[Q151.f];rw[zl K n _ ht hK];simp only[AA];rw[wan_s K n _ h ht hK];simp only[AA,jg];by_cases ht0:eO n=[]
 ·rw[decide_eq_true ht0];simp only[cond_true,Bg,show decide ((-1:Int)>=0)=false from rfl,cond_false];rcases and3 draw with e|e|e|e <;> rw[e] <;> rfl
 ·have h0:=vA hT (gz (d:=AZ draw (2 ^ 2)) ht0).2.2;rw[decide_eq_false ht0];simp only[cond_false,Bt];rw[decide_eq_true (by omega:fT (eO n) (AZ draw (2 ^ 2))>=0)];simp only[cond_true];rw[show Q102.f K (n,4,fT (eO n) (AZ draw (2 ^ 2)),0,n.1,n.2.2.2.2.2.2.2.2.1,())=_ from mE K n 4 _ ht];simp only[AA];rcases and3 draw with e|e|e|e
  ·rw[e];rfl
  ·rw[e];rfl
  ·rw[e];simp only[show ((2:Int)==0)=false from rfl,show ((2:Int)==1)=false from rfl,show ((2:Int)==2)=true from rfl,show ((2:Int)==3)=false from rfl,cond_false,cond_true];unfold rG
   match ho:aa.others n with
   |[] =>
    rw[show decide ((AB n.2.2.2.2.2.2.2.2.2.2.2.2.2.2:Int)>0)=false by show decide (((aa.others n).length:Int)>0)=false;rw[ho];rfl];rfl
   |[x] =>
    have hx:=h.table x (by rw[ho];simp);have hl:(aa.others n).length=1:=by rw[ho];rfl
    rw[show decide ((AB n.2.2.2.2.2.2.2.2.2.2.2.2.2.2:Int)>0)=true by show decide (((aa.others n).length:Int)>0)=true;rw[hl];rfl,show decide ((AB n.2.2.2.2.2.2.2.2.2.2.2.2.2.2:Int)=0)=false by show decide (((aa.others n).length:Int)=0)=false;rw[hl];rfl];simp only[cond_true,cond_false];rw[show idx n.2.2.2.2.2.2.2.2.2.2.2.2.2.2 (A6 (be .i64 (AZ draw (2 ^ 10)) 255) (AB n.2.2.2.2.2.2.2.2.2.2.2.2.2.2:Int))=some x by
     show idx (aa.others n) (A6 (be .i64 (AZ draw (2 ^ 10)) 255) ((aa.others n).length:Int))=some x;rw[hl,ho,show ((1:Nat):Int)=1 from rfl,Int.tmod_one];rfl]
    simp only[AA,Q102.f];rw[szb _ _ _ (by omega) (by have:=hx.2;simp;omega)];rfl
   |_::_::_=>exact absurd h.short (by rw[ho];simp)
  ·rw[e];rfl
def rk (f:af):Int:=f.2.1*16+f.2.2.1*2+(if f.2.2.2=true then 1 else 0)
theorem pj {f g:af}(hf:bD f)(hg:bD g):bF f g<->rk g<rk f:=by
 obtain⟨_,_,h1,h2⟩:=hf;obtain⟨_,_,h3,h4⟩:=hg;unfold bF rk;by_cases a:f.2.1=g.2.1
 ·rw[if_neg (by simpa using a)];by_cases c:f.2.2.1=g.2.2.1
  ·rw[if_neg (by simpa using c),a,c];cases f.2.2.2 <;> cases g.2.2.2 <;> simp <;> omega
  ·rw[if_pos c];cases f.2.2.2 <;> cases g.2.2.2 <;> simp <;> omega
 ·rw[if_pos a];cases f.2.2.2 <;> cases g.2.2.2 <;> simp <;> omega
theorem mT {t:List af}(hA:Asc (λg:af=>g.1) t)(f:af):b6 t f=(t,false)\/(b6 t f=(bN (λg=>g.1) f t,true)/\∀ g∈t,g.1=f.1->bF f g):=by
 by_cases h:∃ g∈t,g.1=f.1
 ·obtain⟨g,hg,e⟩:=h;obtain⟨i,hi,rfl⟩:=AO hg;rw[k6 hA hi e];by_cases ho:bF f t[i]
  ·rw[if_pos ho];refine .inr ⟨rfl,λg' hg' e'=>?_⟩;rw[f9 hA hg' hg (by rw[e,e'])];exact ho
  ·rw[if_neg ho];exact .inl rfl
 ·have h':∀ g∈t,g.1≠f.1:=λg hg e=>h ⟨g,hg,e⟩
  exact .inr ⟨ii h',λg hg e=>absurd e (h' g hg)⟩
theorem mU {n:aa}(hT:aA (aa.table n)):gK n<->(∀ d∈aa.doubts n,kC n d)/\Asc (λd:ce=>d.1) (aa.doubts n)/\∀ f∈aa.table n,f.2.2.1=2->∃ d∈aa.doubts n,d.1=f.1:=by
 have hs:((aS (aa.table n)).map (λf:af=>f.1)).Pairwise (·<·):=by
  rw[Aj];exact A5 _ hT.2
 constructor
 ·rintro⟨h1,h2,h3⟩;refine⟨h1,h2,λf hf hf2=>?_⟩;have hd:((aa.doubts n).map (λd:ce=>d.1)).Pairwise (·<·):=by rw[Aj];exact h2
  have:=(ic _ _ hd hs (λx hx=>by
   obtain⟨d,hd,rfl⟩:=AR.1 hx;obtain⟨⟨g,hg,e,e2,_⟩,_⟩:=h1 d hd;exact AR.2 ⟨g,AF.2 ⟨hg,by simpa using e2⟩,e⟩)).2 (by rw[AW,AW,h3])
  have hm:f.1∈(aS (aa.table n)).map (λf:af=>f.1):=AR.2 ⟨f,AF.2 ⟨hf,by simpa using hf2⟩,rfl⟩;rw[<- this]at hm;obtain⟨d,hd,e⟩:=AR.1 hm;exact⟨d,hd,e⟩
 ·rintro⟨h1,h2,h3⟩;refine⟨h1,h2,?_⟩;have hd:((aa.doubts n).map (λd:ce=>d.1)).Pairwise (·<·):=by rw[Aj];exact h2
  have l1:=(ic _ _ hd hs (λx hx=>by
   obtain⟨d,hd,rfl⟩:=AR.1 hx;obtain⟨⟨g,hg,e,e2,_⟩,_⟩:=h1 d hd;exact AR.2 ⟨g,AF.2 ⟨hg,by simpa using e2⟩,e⟩)).1
  have l2:=(ic _ _ hs hd (λx hx=>by
   obtain⟨f,hf,rfl⟩:=AR.1 hx;obtain⟨hf1,hf2⟩:=AF.1 hf;obtain⟨d,hd,e⟩:=h3 f hf1 (by simpa using hf2);exact AR.2 ⟨d,hd,e⟩)).1
  rw[AW,AW]at l1 l2;omega
def b7 (n:aa):Int:=n.2.2.2.2.2.1
def eP (n:aa)(b:Int):Prop:=InP b 0 7/\ap b=ap n.1
theorem mV {n:aa}(hA:Asc (λg:af=>g.1) (aa.table n))(f:af)(b:Int):sayOf n f b=n \/
  (sayOf n f b=ij n (bN (λg=>g.1) f (aa.table n)) (eL (aa.cast n) f) (bif jP n f then aa.doubts n else cW (b7 n) (aa.doubts n) f b)/\∀ g∈aa.table n,g.1=f.1->bF f g):=by
 rcases mT hA f with h|⟨h,ho⟩
 ·left;unfold sayOf;rw[h];rfl
 ·right;refine⟨?_,ho⟩;unfold sayOf;rw[h];rfl
theorem uj {n:aa}{f:af}{b:Int}(hT:aA (aa.table n))(hD:gK n)(hf:bD f)(hb:eP n b)(hn:0<=b7 n)(c:List aV) :
  gK (ij n (bN (λg=>g.1) f (aa.table n)) c (bif jP n f then aa.doubts n else cW (b7 n) (aa.doubts n) f b)):=by
 obtain⟨h1,h2,h3⟩:=(mU hT).1 hD;have hT':aA (bN (λg:af=>g.1) f (aa.table n)):=⟨λg hg=>by
  rcases aZ.1 hg with rfl|⟨hg,_⟩
  ·exact hf
  ·exact hT.1 g hg,eA hT.2⟩
 refine (mU (n:=ij n _ c _) hT').2 ?_;have old:∀ d∈aa.doubts n,d.1≠f.1->∀ ds,kC (ij n (bN (λg:af=>g.1) f (aa.table n)) c ds) d:=λd hd hne ds=>by
  obtain⟨⟨g,hg,e1,e2,e3⟩,r⟩:=h1 d hd;exact⟨⟨g,aZ.2 (.inr ⟨hg,by rw[e1];exact hne⟩),e1,e2,e3⟩,r⟩
 have cov:∀ g∈bN (λg:af=>g.1) f (aa.table n),g.1≠f.1->g.2.2.1=2->∃ d∈aa.doubts n,d.1=g.1:=λg hg hne h=>by
  rcases aZ.1 hg with rfl|⟨hg,_⟩
  ·exact absurd rfl hne
  ·exact h3 g hg h
 cases hs:jP n f with
 |true =>
  obtain⟨g0,hg0,s1,s2,s3⟩:=of_decide_eq_true hs;refine⟨λd hd=>?_,h2,λg hg h=>?_⟩
  ·by_cases hne:d.1=f.1
   ·obtain⟨⟨g,hg,e1,e2,e3⟩,r⟩:=h1 d hd;rw[f9 hT.2 hg hg0 (by rw[e1,s1,hne])]at e2 e3;exact⟨⟨f,aZ.2 (.inl rfl),hne.symm,by rw[<- s3];exact e2,by rw[<- s2];exact e3⟩,r⟩
   ·exact old d hd hne _
  ·by_cases hne:g.1=f.1
   ·have hgf:g=f:=by
     rcases aZ.1 hg with h|⟨_,h⟩
     ·exact h
     ·exact absurd hne h
    rw[hgf]at h ⊢;obtain⟨d,hd,e⟩:=h3 g0 hg0 (by rw[s3];exact h);exact⟨d,hd,by rw[e,s1]⟩
   ·exact cov g hg hne h
 |false =>
  by_cases h2f:f.2.2.1=2
  ·have e:cW (b7 n) (aa.doubts n) f b=bN (λd=>d.1) (mkD (b7 n) f b) (aa.doubts n):=by unfold cW;rw[if_pos h2f]
   simp only[cond_false];rw[e];refine⟨λd hd=>?_,eA h2,λg hg h=>?_⟩
   ·rcases aZ.1 hd with rfl|⟨hd,hne⟩
    ·exact⟨⟨f,aZ.2 (.inl rfl),rfl,h2f,rfl⟩,⟨hn,Ac _⟩,List.cons_ne_nil _ _,λx hx=>by rw[AS.1 hx];exact hb,BQ _ _⟩
    ·exact old d hd hne _
   ·by_cases hne:g.1=f.1
    ·exact⟨mkD (b7 n) f b,aZ.2 (.inl rfl),hne.symm⟩
    ·obtain⟨d,hd,e⟩:=cov g hg hne h;exact⟨d,aZ.2 (.inr ⟨hd,λe'=>hne (e.symm.trans e')⟩),e⟩
  ·have e:cW (b7 n) (aa.doubts n) f b=(aa.doubts n).filter (λd=>!(d.1==f.1)):=by unfold cW;rw[if_neg h2f]
   simp only[cond_false];rw[e];refine⟨λd hd=>?_,om h2 _,λg hg h=>?_⟩
   ·obtain⟨hd,hne⟩:=AF.1 hd;exact old d hd (by simpa using hne) _
   ·have hne:g.1≠f.1:=λhne=>by
     rcases aZ.1 hg with h'|⟨_,h'⟩
     ·rw[h']at h;exact h2f h
     ·exact h' hne
    obtain⟨d,hd,e⟩:=cov g hg hne h;exact⟨d,AF.2 ⟨hd,by rw[e];simpa using hne⟩,e⟩
theorem uk {n:aa}{f:af}(hT:aA (aa.table n))(hC:cV (aa.cast n))(hV:gf (aa.table n) (aa.cast n))(hf:bD f)(ho:∀ g∈aa.table n,g.1=f.1->bF f g) :
  gf (bN (λg=>g.1) f (aa.table n)) (eL (aa.cast n) f):=by
 have old:∀ x∈aa.cast n,∃ g∈bN (λg:af=>g.1) f (aa.table n),g.1=x.1.1/\¬ bF x.1 g:=λx hx=>by
  obtain⟨g,hg,e,hno⟩:=hV x hx;by_cases hne:g.1=f.1
  ·refine⟨f,aZ.2 (.inl rfl),by rw[<- e,hne],λh=>hno ?_⟩;have hx':=(hC.1 x hx).1;have hg':=hT.1 g hg;have:=ho g hg hne;rw[pj hf hg']at this;rw[pj hx' hf]at h;rw[pj hx' hg'];omega
  ·exact⟨g,aZ.2 (.inr ⟨hg,hne⟩),e,hno⟩
 intro x hx;unfold eL at hx;split at hx
 ·exact old x hx
 ·rcases aZ.1 hx with rfl|⟨hx,_⟩
  ·exact⟨f,aZ.2 (.inl rfl),rfl,vr f⟩
  ·exact old x hx
structure UpX (n:aa):Prop where
 me:InP n.1 0 7
 now0:0<=b7 n
 table:aA (aa.table n)
 site:bP (aa.table n) (ap n.1)
 cast:cV (aa.cast n)
 vs:gf (aa.table n) (aa.cast n)
 probe:cM n
 doubts:gK n
 coord:cr (aa.coord n)
 places:dV n.1 (aa.places n)
 others:cl n.1 (aa.others n)
theorem UpX.of {n:aa}(h:UpP n)(hm:InP n.1 0 7)(h0:0<=b7 n):UpX n:=by
 obtain⟨hT,hS,_,⟨hC,hV⟩,hP,hD,hco,hpl,hot⟩:=h;exact⟨hm,h0,hT,hS,hC,hV,hP,hD,hco,hpl,hot⟩
theorem UpX.up {n:aa}(h:UpX n)(hs:cP n):UpP n:=⟨h.table,h.site,hs,⟨h.cast,h.vs⟩,h.probe,h.doubts,h.coord,h.places,h.others⟩
theorem UpX.say {n:aa}(h:UpX n):cI n:=by
 refine cI.mk' h.table h.cast h.doubts.2.1 λd hd=>?_
 obtain⟨f,hf,e,_⟩:=(h.doubts.1 d hd).1;rw[<- e];exact (h.table.1 f hf).1
theorem eP.me {n:aa}(h:InP n.1 0 7):eP n n.1:=⟨h,rfl⟩
theorem pY {n m:aa}(h:cM n)(hm:m.1=n.1)(hp:aa.probe m=aa.probe n)(ht:∀ g∈aa.table n,∃ g'∈aa.table m,g'.1=g.1)(hn:b7 n<=b7 m)(hs:n.2.2.2.2.2.2.1<=m.2.2.2.2.2.2.1):cM m:=by
 unfold cM at h ⊢;rw[hp,hm];split at h
 ·rename_i h1;rw[if_pos h1];exact h
 ·rename_i h1;rw[if_neg h1];obtain⟨p1,⟨g,hg,eg⟩,⟨p2,p3⟩,⟨p4,p5⟩⟩:=h;obtain⟨g',hg',e'⟩:=ht g hg;exact⟨p1,⟨g',hg',e'.trans eg⟩,⟨p2,BB p3 hn⟩,⟨p4,BB p5 hs⟩⟩
theorem UpX.said {n:aa}{f:af}{b:Int}(h:UpX n)(hf:bD f)(hs:ap f.1=ap n.1)(hb:eP n b):UpX (sayOf n f b):=by
 rcases mV h.table.2 f b with e|⟨e,ho⟩
 ·rw[e];exact h
 ·have hk:=λg hg=>iJ (n:=n) (f:=f) (b:=b) (g:=g) hg
  rw[e]at hk ⊢;refine⟨h.me,h.now0,⟨λg hg=>?_,eA h.table.2⟩,λg hg=>?_,oo h.cast hf,uk h.table h.cast h.vs hf ho,pY h.probe rfl rfl hk (Ac _) (Ac _),uj h.table h.doubts hf hb h.now0 _,h.coord,h.places,h.others⟩
  ·rcases aZ.1 hg with rfl|⟨hg,_⟩
   ·exact hf
   ·exact h.table.1 g hg
  ·rcases aZ.1 hg with rfl|⟨hg,_⟩
   ·exact hs
   ·exact h.site g hg
theorem vB {n:aa}(hA:Asc (λg:af=>g.1) (aa.table n)){f g:af}{b:Int}(hne:g.1≠f.1):g∈aa.table (sayOf n f b)<->g∈aa.table n:=by
 rcases mV hA f b with e|⟨e,_⟩
 ·rw[e]
 ·rw[e];exact aZ.trans ⟨λh=>h.elim (λh=>absurd (by rw[h]) hne) (·.1),λh=>.inr ⟨h,hne⟩⟩
theorem pZ {n:aa}(hA:Asc (λg:af=>g.1) (aa.table n)){f:af}{b:Int}(h:∀ g∈aa.table n,g.1=f.1->bF f g):f∈aa.table (sayOf n f b):=by
 have hp:b6 (aa.table n) f=(bN (λg=>g.1) f (aa.table n),true):=by
  rcases mT hA f with e|⟨e,_⟩
  ·by_cases hx:∃ g∈aa.table n,g.1=f.1
   ·obtain⟨g,hg,eg⟩:=hx;obtain⟨i,hi,rfl⟩:=AO hg;rw[k6 hA hi eg,if_pos (h _ hg eg)]
   ·exact ii λg hg e=>hx ⟨g,hg,e⟩
  ·exact e
 unfold Go.Proofs.YtmcbmojdeikcdaaGreatEv.sayOf;rw[hp];exact aZ.2 (.inl rfl)
def OnN (n m:aa):Prop:=∃ t c ds,m=ij n t c ds
theorem OnN.refl (n:aa):OnN n n:=⟨_,_,_,rfl⟩
theorem OnN.say {n m:aa}(h:OnN n m)(f:af)(b:Int):OnN n (Go.Proofs.YtmcbmojdeikcdaaGreatEv.sayOf m f b):=by
 obtain⟨t,c,ds,rfl⟩:=h;obtain⟨t',c',ds',e,_⟩:=iI (ij n t c ds) f b;exact⟨t',c',ds',e⟩
def jY (n:aa):af:=(n.1,n.2.2.2.2.1,(if n.2.2.1=true then 4 else 1),n.2.2.2.1)
theorem nI {n m:aa}(hA:Asc (λg:af=>g.1) (aa.table m))(ho:OnN n m){f:af}{b:Int}(hne:f.1≠n.1)(h:cP m):cP (sayOf m f b):=by
 obtain⟨t,c,ds,e⟩:=ho.say f b;obtain⟨t',c',ds',e'⟩:=ho;have h1:jY n∈aa.table m:=by rw[e']at h ⊢;exact h
 have h2:=(vB hA (f:=f) (b:=b) (g:=jY n) (λh=>hne h.symm)).2 h1;rw[e]at h2 ⊢;exact h2
theorem xb {n:aa}(h:UpX n)(hs:cP n){d:ce}(hd:d∈aa.doubts n):d.1≠n.1:=by
 obtain⟨⟨g,hg,e,e2,_⟩,_⟩:=h.doubts.1 d hd;intro hh;have h1:jY n∈aa.table n:=hs;have:=f9 h.table.2 hg h1 (by rw[e,hh];rfl);rw[this]at e2;revert e2;show (if n.2.2.1=true then (4:Int) else 1)=2->False;split <;> omega
theorem lR {n:aa}(h:UpX n)(hs:cP n):UpX (ju n)/\cP (ju n)/\OnN n (ju n):=by
 have:=k7 (st:=gx) (Inv:=λm=>(UpX m/\cP m/\OnN n m)/\∀ g∈aa.table n,∃ g'∈aa.table m,g'.1=g.1) (ds:=aa.doubts n) (n:=n) ⟨⟨h,hs,OnN.refl n⟩,λg hg=>⟨g,hg,rfl⟩⟩ ?_
 ·exact this.1
 ·rintro m d hd ⟨⟨hm,hms,ho⟩,hk⟩;have hne:=xb h hs hd;unfold gx;cases pi m.2.2.2.2.2.1 d.2.2.1 d.2.2.2.length with
  |false=>exact⟨⟨hm,hms,ho⟩,hk⟩
  |true =>
   obtain⟨⟨g,hg,e,_⟩,_⟩:=h.doubts.1 d hd;obtain⟨g',hg',e'⟩:=hk g hg;obtain⟨h1,h2,h3⟩:=eu hm.table ⟨g',hg',e'.trans e⟩;have hsi:ap (jT (aX (aa.table m) d.1)).1=ap m.1:=by
    show ap (aX (aa.table m) d.1).1=ap m.1;exact hm.site _ h3
   have hk':(jT (aX (aa.table m) d.1)).1≠n.1:=by rw[show (jT (aX (aa.table m) d.1)).1=_ from h2];exact hne
   refine⟨⟨hm.said (te h1) hsi (eP.me hm.me),nI hm.table.2 ho hk' hms,ho.say _ _⟩,λg hg=>?_⟩;obtain⟨g1,hg1,e1⟩:=hk g hg;obtain⟨g2,hg2,e2⟩:=iJ (f:=jT (aX (aa.table m) d.1)) (b:=m.1) hg1;exact⟨g2,hg2,e2.trans e1⟩
theorem UpX.setProbe {n:aa}(h:UpX n){p:af}(hp:cM (setP n p)):UpX (setP n p):=⟨h.me,h.now0,h.table,h.site,h.cast,h.vs,hp,h.doubts,h.coord,h.places,h.others⟩
theorem vC (n:aa):cM (setP n noP):=by
 unfold cM;exact (if_pos rfl).mpr rfl
theorem vD {n:aa}(h:UpX n)(hs:cP n):UpX (cX n).1/\cP (cX n).1/\∃ p,OnN (setP n p) (cX n).1:=by
 have stay:UpX n/\cP n/\∃ p,OnN (setP n p) n:=⟨h,hs,aa.probe n,OnN.refl n⟩;have hno:UpX (setP n noP):=h.setProbe (vC n);unfold cX;cases hp:(aa.probe n).1==-1 with
 |true=>exact stay
 |false =>
  have hp':(aa.probe n).1≠-1:=by simpa using hp
  have hpr:=h.probe;unfold cM at hpr;rw[if_neg hp']at hpr;simp only[cond_false];cases hl:d4 (aX (aa.table n) (aa.probe n).1) with
  |false=>exact⟨hno,hs,_,OnN.refl _⟩
  |true =>
   obtain⟨h1,h2,h3⟩:=eu h.table (gi hl);simp only[AK,cond_false];cases decide (n.2.2.2.2.2.1-(aa.probe n).2.1>=4) with
   |true =>
    simp only[cond_true];cases (aX (aa.table n) (aa.probe n).1).2.2.1==1 with
    |true =>
     have hsi:ap (ov (aX (aa.table n) (aa.probe n).1)).1=ap (setP n noP).1:=by
      show ap (aX (aa.table n) (aa.probe n).1).1=ap n.1;exact h.site _ h3
     refine⟨hno.said (yg h1) hsi (eP.me (n:=setP n noP) h.me),nI (n:=setP n noP) (m:=setP n noP) h.table.2 (OnN.refl (setP n noP)) ?_ hs,noP,(OnN.refl (setP n noP)).say _ _⟩;rw[show (ov (aX (aa.table n) (aa.probe n).1)).1=_ from h2];exact hpr.1
    |false=>exact⟨hno,hs,_,OnN.refl _⟩
   |false =>
    simp only[cond_false];cases decide (n.2.2.2.2.2.1-(aa.probe n).2.1>=2) with
    |false=>exact stay
    |true =>
     simp only[cond_true];cases (aa.probe n).2.2.2 with
     |true=>exact stay
     |false =>
      refine⟨h.setProbe ?_,hs,_,OnN.refl _⟩;show cM (kE n);unfold cM;rw[if_neg (show ¬ (aa.probe (kE n)).1=-1 from hp')];exact hpr
def gX (n:aa):Option Int:=((List.range 8).map (ct n)).find? λx=>x != n.1&&d4 (aX (aa.table n) x)
def iP (n:aa):Int:=n.2.2.2.2.2.2.1
def dy (n:aa):aa×List au:=bif decide (iP n>=999999) then (n,[]) else match gX n with
 |some to=>(askN n to,[pingW n to])
 |none=>(n,[])
theorem p6 {n:aa}{to:Int}(h:gX n=some to):to≠n.1/\d4 (aX (aa.table n) to)=true:=by
 have:=BU h;simpa using this
theorem vE {l:List aV}{T:List Int}{x:aV}(h:x∈eD l T l.length):∃ y∈l,x.1=y.1:=by
 unfold eD at h;obtain⟨h1,_⟩:=AF.1 h;obtain⟨i,hi,rfl⟩:=AO h1;rw[lb]at hi;rw[lf l T hi];refine⟨l[i],AD hi,?_⟩;unfold fp;rw[dP hi];cases decide ((i:Int)∈T) <;> rfl
theorem UpX.way {n:aa}(h:UpX n):UpX (jz n):=⟨h.me,h.now0,h.table,h.site,wZ h.cast _,λx hx=>by
 obtain⟨y,hy,e⟩:=vE hx;obtain⟨g,hg,e1,e2⟩:=h.vs y hy;exact⟨g,hg,by rw[e,e1],by rw[e];exact e2⟩,h.probe,h.doubts,h.coord,h.places,h.others⟩
structure rH (n:aa):Prop where
 seq:InP (iP n) 0 999999
 turn:InP n.2.2.2.2.2.2.2.1 0 8
theorem zn {n:aa}(h:UpX n)(hs:cP n)(hq:rH n):UpX (dy n).1/\cP (dy n).1/\rH (dy n).1/\(dy n).1.1=n.1/\b7 (dy n).1=b7 n/\(dy n).1.2.2.2.2.1=n.2.2.2.2.1:=by
 unfold dy;by_cases hm:iP n>=999999
 ·rw[decide_eq_true hm];exact⟨h,hs,hq,rfl,rfl,rfl⟩
 ·rw[decide_eq_false hm];simp only[cond_false];cases hx:gX n with
  |none=>exact⟨h,hs,hq,rfl,rfl,rfl⟩
  |some to =>
   obtain⟨hne,hl⟩:=p6 hx;obtain⟨g1,g2,g3⟩:=eu h.table (gi hl);obtain⟨⟨q0,q1⟩,_⟩:=hq;have hto:InP to 0 7:=g2 ▸ g1.1;have hw:=h.way;refine⟨⟨h.me,h.now0,h.table,h.site,hw.cast,hw.vs,?_,h.doubts,h.coord,h.places,h.others⟩,hs,⟨⟨show 0<=iP n+1 by omega,show iP n+1<=999999 by omega⟩,show 0<=to+1 by have:=hto.1;omega,show to+1<=8 by have:=hto.2;omega⟩,rfl,rfl,rfl⟩;show cM (askN n to);unfold cM;rw[if_neg (show ¬ (aa.probe (askN n to)).1=-1 by have:=hto.1;show ¬ to=-1;omega)];exact⟨hne,⟨_,g3,g2⟩,⟨h.now0,Ac _⟩,show 1<=iP n+1 by omega,Ac _⟩
def dK (n:aa):aa:=(n.1,n.2.1,n.2.2.1,n.2.2.2.1,n.2.2.2.2.1,n.2.2.2.2.2.1+1,n.2.2.2.2.2.2)
def eQ (m:aa):aa×List au:=bif (aa.probe m).1==-1 then dy m else (m,[])
def eR (n:aa):aa×List au:=cX (ju (dK n))
def jZ (n:aa):aa:=(eQ (eR n).1).1
def oz (n:aa)(draw:Int):List au:=(eR n).2++(eQ (eR n).1).2++jg (jZ n) draw
theorem UpX.later {n:aa}(h:UpX n):UpX (dK n):=by
 have h0:b7 (dK n)=b7 n+1:=rfl;have hn:=h.now0;refine⟨h.me,by omega,h.table,h.site,h.cast,h.vs,pY h.probe rfl rfl (λg hg=>⟨g,hg,rfl⟩) (by omega) (Ac _),⟨λd hd=>?_,h.doubts.2⟩,h.coord,h.places,h.others⟩;obtain⟨h1,⟨h2,h3⟩,h4⟩:=h.doubts.1 d hd;exact⟨h1,⟨h2,BB h3 (show b7 n<=b7 (dK n) by omega)⟩,h4⟩
structure UpN (n:aa):Prop where
 x:UpX n
 self:cP n
 now1:b7 n<=999999
 seq:rH n
 inc:InP n.2.2.2.2.1 0 999
 up:n.2.1=true
theorem UpN.of {n:aa}(h:cF n)(hu:n.2.1=true):UpN n:=by
 obtain⟨h1,h2,h3,h4,h5,h6⟩:=h;rw[if_pos hu]at h6;exact⟨UpX.of h6 h1 h2.1,h6.2.2.1,h2.2,⟨h3,h4⟩,h5,hu⟩
theorem UpN.ok {n:aa}(h:UpN n):cF n:=⟨h.x.me,⟨h.x.now0,h.now1⟩,h.seq.seq,h.seq.turn,h.inc,by rw[if_pos h.up];exact h.x.up h.self⟩
theorem oA {n:aa}(h:UpN n)(hm:b7 n<999999):UpN (eR n).1/\(eR n).1.1=n.1/\(eR n).1.2.2.1=n.2.2.1:=by
 have hl:cP (dK n):=h.self;obtain⟨b1,b2,b3⟩:=lR h.x.later hl;obtain⟨f1,f2,p,f3⟩:=vD b1 b2;obtain⟨t,c,ds,eb⟩:=b3;obtain⟨t',c',ds',ef⟩:=f3;have e:(eR n).1=_:=ef;rw[eb]at e;refine⟨⟨f1,f2,?_,⟨?_,?_⟩,?_,?_⟩,?_,?_⟩
 ·show b7 (eR n).1<=999999;rw[e];show b7 n+1<=999999;omega
 ·show InP (iP (eR n).1) 0 999999;rw[e];exact h.seq.seq
 ·show InP (eR n).1.2.2.2.2.2.2.2.1 0 8;rw[e];exact h.seq.turn
 ·show InP (eR n).1.2.2.2.2.1 0 999;rw[e];exact h.inc
 ·show (eR n).1.2.1=true;rw[e];exact h.up
 ·rw[e];rfl
 ·rw[e];rfl
theorem rI {m:aa}:(dy m).1.2.1=m.2.1/\(dy m).1.2.2.1=m.2.2.1:=by
 unfold dy;cases decide (iP m>=999999) with
 |true=>exact⟨rfl,rfl⟩
 |false =>
  cases gX m with
  |none=>exact⟨rfl,rfl⟩
  |some to=>exact⟨rfl,rfl⟩
theorem ul {m:aa}(h:UpN m):UpN (eQ m).1/\(eQ m).1.1=m.1/\(eQ m).1.2.2.1=m.2.2.1:=by
 unfold eQ;cases (aa.probe m).1==-1 with
 |false=>exact⟨h,rfl,rfl⟩
 |true =>
  obtain⟨a1,a2,a3,a4,a5,a6⟩:=zn h.x h.self h.seq;refine⟨⟨a1,a2,?_,a3,?_,?_⟩,a4,rI.2⟩
  ·show b7 (dy m).1<=999999;rw[a5];exact h.now1
  ·show InP (dy m).1.2.2.2.2.1 0 999;rw[a6];exact h.inc
  ·show (dy m).1.2.1=true;rw[rI.1];exact h.up
theorem pm {n:aa}(h:UpN n)(hm:b7 n<999999):UpN (jZ n)/\(jZ n).1=n.1/\(jZ n).2.2.1=n.2.2.1:=by
 obtain⟨h1,h2,h3⟩:=oA h hm;obtain⟨h4,h5,h6⟩:=ul h1;exact⟨h4,h5.trans h2,h6.trans h3⟩
theorem xc {f g:af}(h:g.2.1<f.2.1):bF f g:=by
 unfold bF;rw[if_pos (by omega)];exact h
theorem yp {f g:af}(h:bF f g):g.2.1<=f.2.1:=by
 unfold bF at h;split at h <;> omega
theorem UpX.inc {n:aa}(h:UpX n)(i:Int):UpX (gy n i):=⟨h.me,h.now0,h.table,h.site,h.cast,h.vs,h.probe,h.doubts,h.coord,h.places,h.others⟩
theorem p7 {n:aa}(h:UpX n)(hs:cP n){g:af}(hg:g∈aa.table n)(e:g.1=n.1):g=jY n:=f9 h.table.2 hg hs (by rw[e];rfl)
theorem vF {n:aa}(h:UpX n)(hs:cP n):aX (aa.table n) n.1=jY n:=jR h.table.2 (f:=jY n) hs
theorem xd {n:aa}(h:UpN n)(hg:n.2.2.1=false):UpN (lN n)/\(lN n).1=n.1:=by
 have hf:bD (n.1,n.2.2.2.2.1,4,n.2.2.2.1):=⟨h.x.me,h.inc,show (1:Int)<=4 by omega,show (4:Int)<=4 by omega⟩;have hx:=h.x.said hf rfl (eP.me h.x.me);have hn:(n.1,n.2.2.2.2.1,(4:Int),n.2.2.2.1)∈aa.table (sayOf n (n.1,n.2.2.2.2.1,4,n.2.2.2.1) n.1):=pZ h.x.table.2 λg hg' e=>by
  rw[p7 h.x h.self hg' e];unfold bF jY;rw[hg];simp
 obtain⟨t,c,ds,e⟩:=(OnN.refl n).say (n.1,n.2.2.2.2.1,4,n.2.2.2.1) n.1;unfold lN;rw[e]at hx hn ⊢;exact⟨⟨⟨hx.me,hx.now0,hx.table,hx.site,hx.cast,hx.vs,hx.probe,hx.doubts,hx.coord,hx.places,hx.others⟩,hn,h.now1,⟨h.seq.seq,h.seq.turn⟩,h.inc,h.up⟩,rfl⟩
theorem vG {n:aa}{f:af}(h:UpN n)(hg:n.2.2.1=false)(hf:bD f):UpN (eZ n f)/\(eZ n f).1=n.1/\(eZ n f).2.2.1=false:=by
 unfold eZ;cases hc:decide (bF f (aX (aa.table n) n.1))&&decide (f.2.1<999) with
 |false=>exact⟨h,rfl,hg⟩
 |true =>
  rw[Ai,decide_eq_true_eq,decide_eq_true_eq,vF h.x h.self]at hc;obtain⟨ho,hi⟩:=hc;have hle:n.2.2.2.2.1<=f.2.1:=yp ho;have hf':=tf (n:=n) h.x.me hf hi;have hx:UpX (sayOf (gy n (f.2.1+1)) (n.1,f.2.1+1,1,n.2.2.2.1) n.1):=(h.x.inc (f.2.1+1)).said hf' rfl (eP.me (n:=gy n (f.2.1+1)) h.x.me);have hn:(n.1,f.2.1+1,(1:Int),n.2.2.2.1)∈aa.table (sayOf (gy n (f.2.1+1)) (n.1,f.2.1+1,1,n.2.2.2.1) n.1):=pZ (n:=gy n (f.2.1+1)) h.x.table.2 λg hg' e=>by
   rw[p7 h.x h.self hg' e];exact xc (show n.2.2.2.2.1<f.2.1+1 by omega)
  obtain⟨t,c,ds,e⟩:=(OnN.refl (gy n (f.2.1+1))).say (n.1,f.2.1+1,1,n.2.2.2.1) n.1;simp only[cond_true];rw[show sayOf (gy n (f.2.1+1)) (n.1,f.2.1+1,1,n.2.2.2.1) n.1=ij (gy n (f.2.1+1)) t c ds from e]at hx hn ⊢;refine⟨⟨hx,?_,h.now1,⟨h.seq.seq,h.seq.turn⟩,hf'.2.1,h.up⟩,rfl,hg⟩;show (n.1,f.2.1+1,(if n.2.2.1=true then (4:Int) else 1),n.2.2.2.1)∈_;rw[hg];exact hn
theorem lS (f:af)(b:Int)(d:ce):(dO f b d).1=d.1/\(dO f b d).2.1=d.2.1/\(dO f b d).2.2.1=d.2.2.1:=by
 unfold dO;cases d.1==f.1&&d.2.1==f.2.1&&f.2.2.1==2 <;> exact⟨rfl,rfl,rfl⟩
theorem UpX.conf {n:aa}(h:UpX n)(f:af){b:Int}(hb:eP n b):UpX (jU n f b):=by
 refine⟨h.me,h.now0,h.table,h.site,h.cast,h.vs,h.probe,⟨λd hd=>?_,?_,?_⟩,h.coord,h.places,h.others⟩
 ·obtain⟨d0,hd0,rfl⟩:=AR.1 hd;obtain⟨k1,k2,k3⟩:=lS f b d0;obtain⟨⟨g,hg,e1,e2,e3⟩,h2,h3,h4⟩:=h.doubts.1 d0 hd0;refine⟨⟨g,hg,by rw[k1];exact e1,e2,by rw[k2];exact e3⟩,by rw[k3];exact h2,?_⟩;unfold dO;cases d0.1==f.1&&d0.2.1==f.2.1&&f.2.2.1==2 with
  |false=>exact⟨h3,h4⟩
  |true =>
   refine⟨Bd (aZ.2 (.inl rfl)),λx hx=>?_,eA h4.2⟩;rcases aZ.1 hx with rfl|⟨hx,_⟩
   ·exact hb
   ·exact h4.1 x hx
 ·show Asc _ ((aa.doubts n).map (dO f b));unfold Asc;rw[Aj];exact h.doubts.2.1.imp λ {a c} h=>by show (dO f b a).1<(dO f b c).1;rw[(lS f b a).1,(lS f b c).1];exact h
 ·show _=((aa.doubts n).map (dO f b)).length;rw[AW];exact h.doubts.2.2
theorem rJ {n:aa}{f:af}{b:Int}(h:UpN n)(hg:n.2.2.1=false)(hf:bD f)(hs:ap f.1=ap n.1)(hb:eP n b):UpN (dR b n f)/\(dR b n f).1=n.1/\(dR b n f).2.2.1=false:=by
 unfold dR;by_cases hne:f.1=n.1
 ·rw[show (f.1==n.1)=true by simpa using hne];exact vG h hg hf
 ·rw[show (f.1==n.1)=false by simpa using hne];have hx:=h.x.said hf hs hb;have hss:=nI h.x.table.2 (OnN.refl n) (b:=b) hne h.self;obtain⟨t,c,ds,e⟩:=(OnN.refl n).say f b;simp only[cond_false];rw[show sayOf n f b=ij n t c ds from e]at hx hss ⊢;exact⟨⟨hx.conf f hb,hss,h.now1,⟨h.seq.seq,h.seq.turn⟩,h.inc,h.up⟩,rfl,hg⟩
theorem li {n:aa}{t:List af}{b:Int}(h:UpN n)(hg:n.2.2.1=false)(ht:aA t)(hs:bP t (ap n.1))(hb:eP n b):UpN (ik n t b)/\(ik n t b).1=n.1/\(ik n t b).2.2.1=false:=by
 refine k7 (st:=dR b) (Inv:=λm=>UpN m/\m.1=n.1/\m.2.2.1=false) (ds:=t) (n:=n) ⟨h,rfl,hg⟩ λm f hf ⟨h1,h2,h3⟩=>?_
 have:=rJ (b:=b) h1 h3 (ht.1 f hf) (by rw[h2];exact hs f hf) ⟨hb.1,by rw[h2];exact hb.2⟩;exact⟨this.1,this.2.1.trans h2,this.2.2⟩
theorem UpN.learns {n:aa}(h:UpN n):dW n:=⟨h.x.say,h.x.me,⟨_,h.self,rfl⟩,λd hd=>by
 obtain⟨_,_,_,h4⟩:=h.x.doubts.1 d hd;exact⟨h4.2,λx hx=>(h4.1 x hx).1⟩⟩
def setO (n:aa)(o:List bZ):aa:=(n.1,n.2.1,n.2.2.1,n.2.2.2.1,n.2.2.2.2.1,n.2.2.2.2.2.1,n.2.2.2.2.2.2.1,n.2.2.2.2.2.2.2.1,n.2.2.2.2.2.2.2.2.1,n.2.2.2.2.2.2.2.2.2.1,n.2.2.2.2.2.2.2.2.2.2.1,n.2.2.2.2.2.2.2.2.2.2.2.1,n.2.2.2.2.2.2.2.2.2.2.2.2.1,n.2.2.2.2.2.2.2.2.2.2.2.2.2.1,o)
theorem UpN.setOthers {n:aa}(h:UpN n){o:List bZ}(ho:cl n.1 o):UpN (setO n o):=⟨⟨h.x.me,h.x.now0,h.x.table,h.x.site,h.x.cast,h.x.vs,h.x.probe,h.x.doubts,h.x.coord,h.x.places,ho⟩,h.self,h.now1,⟨h.seq.seq,h.seq.turn⟩,h.inc,h.up⟩
theorem um {me s:Int}{all:List af}{o:List bZ}(ho:cl me o)(hs:InP s 0 1)(hne:s≠ap me)(h0:all≠[])(ht:aA all)(hss:bP all s):cl me (bN (λx:bZ=>x.1) (s,all) o) :=
 ⟨λx hx=>by
  rcases aZ.1 hx with rfl|⟨hx,_⟩
  ·exact⟨hs,hne,h0,ht,hss⟩
  ·exact ho.1 x hx,eA ho.2⟩
def gj (l:List Int)(t:Int):List Int:=(l++[t]).drop ((l++[t]).length-3)
def dm (l:List dr)(node:Int):List Int:=((l.find? λp=>p.1==node).map (·.2.2)).getD []
def nJ (l:List dr)(node:Int)(c:de)(t:Int):List dr:=bN (λp=>p.1) (node,c,gj (dm l node) t) l
def oB (n:aa)(c:de)(p:List dr):aa:=(n.1,n.2.1,n.2.2.1,n.2.2.2.1,n.2.2.2.2.1,n.2.2.2.2.2.1,n.2.2.2.2.2.2.1,n.2.2.2.2.2.2.2.1,n.2.2.2.2.2.2.2.2.1,n.2.2.2.2.2.2.2.2.2.1,noP,n.2.2.2.2.2.2.2.2.2.2.2.1,c,p,n.2.2.2.2.2.2.2.2.2.2.2.2.2.2)
theorem sH {l:List dr}{node:Int}{t:Int}(h:t∈dm l node):∃ p∈l,t∈p.2.2:=by
 unfold dm at h;cases hf:l.find? λp=>p.1==node with
 |none=>rw[hf]at h;simp at h
 |some p =>
  rw[hf]at h;exact⟨p,Ar hf,h⟩
theorem vH {l:List Int}{t:Int}(hl:∀ x∈l,InP x 1 60000)(ht:InP t 1 60000):InP ((gj l t).length:Int) 1 3/\∀ x∈gj l t,InP x 1 60000:=by
 unfold gj;constructor
 ·simp only[Ah,AJ,AI,AP];constructor <;> omega
 ·intro x hx;have:=List.mem_of_mem_drop hx;rcases Af.1 this with h|h
  ·exact hl x h
  ·rw[AS.1 h];exact ht
theorem un {me node:Int}{l:List dr}{c:de}{t:Int}(h:dV me l)(h0:InP node 0 7)(h1:ap node=ap me)(h2:node≠me)(hc:cr c)(ht:InP t 1 60000):dV me (nJ l node c t):=by
 have h3:=vH (l:=dm l node) (t:=t) (λx hx=>by
  obtain⟨p,hp,hx⟩:=sH hx;exact (h.1 p hp).2.2.2.2.2 x hx) ht
 exact⟨λp hp=>by
  rcases aZ.1 hp with rfl|⟨hp,_⟩
  ·exact⟨h0,h1,h2,hc,h3.1,h3.2⟩
  ·exact h.1 p hp,eA h.2⟩
theorem UpN.heard {n:aa}(h:UpN n){c:de}{p:List dr}(hc:cr c)(hp:dV n.1 p):UpN (oB n c p):=⟨⟨h.x.me,h.x.now0,h.x.table,h.x.site,h.x.cast,h.x.vs,vC n,h.x.doubts,hc,hp,h.x.others⟩,h.self,h.now1,⟨h.seq.seq,h.seq.turn⟩,h.inc,h.up⟩
theorem UpN.way {n:aa}(h:UpN n):UpN (jz n):=⟨h.x.way,h.self,h.now1,⟨h.seq.seq,h.seq.turn⟩,h.inc,h.up⟩
def Tot {α:Type}(o:Option α)(P:α->Prop):Prop:=∃ v,o=some v/\P v
section
variable {α β:Type} {P:α->Prop} {Q:β->Prop}
theorem Tot.ret {v:α}(h:P v):Tot (some v) P:=⟨v,rfl,h⟩
theorem Tot.mono {o:Option α}{P':α->Prop}(h:Tot o P)(k:∀ v,P v->P' v):Tot o P':=by obtain⟨v,e,hp⟩:=h;exact⟨v,e,k v hp⟩
theorem Tot.bind {o:Option α}{g:α->Option β}(h:Tot o P)(k:∀ v,P v->Tot (g v) Q):Tot (o.bind g) Q:=by obtain⟨v,e,hp⟩:=h;rw[e];exact k v hp
theorem Tot.vl {o:Option α}{v:α}{g:α->Option β}(e:o=some v)(k:Tot (g v) Q):Tot (o.bind g) Q:=by rw[e];exact k
theorem Tot.cnd {b:Bool}{x y:Option α}(h1:b=true->Tot x P)(h2:b=false->Tot y P):Tot (bif b then x else y) P:=by
 cases b
 ·exact h2 rfl
 ·exact h1 rfl
theorem Tot.must {b:Bool}{x y:Option α}(hb:b=true)(h:Tot x P):Tot (bif b then x else y) P:=by rw[hb];exact h
theorem Tot.not {b:Bool}{x y:Option α}(hb:b=false)(h:Tot x P):Tot (bif b then y else x) P:=by rw[hb];exact h
theorem Tot.ix {xs:List α}{i:Int}{g:α->Option β}(h0:0<=i)(h1:i<xs.length)(k:∀ y∈xs,idx xs i=some y->Tot (g y) Q):Tot ((idx xs i).bind g) Q:=by
 obtain⟨n,rfl⟩:=AE h0;have h2:n<xs.length:=by omega
 have:=ai h2;rw[this];exact k _ (AD h2) this
theorem Tot.iter {A:Type}{step:(A->Option β)->A->Option β}(Inv:A->Prop)(m:A->Nat)(h:∀ (rec:A->Option β) (a:A),Inv a->(∀ a',Inv a'->m a'<m a->Tot (rec a') Q)->Tot (step rec a) Q):∀ (k:Nat) (a:A),m a<k->Inv a->Tot (ae step k a) Q:=by
 intro k;induction k with
 |zero=>intro a hk;omega
 |succ k ih =>
  intro a hk ha;exact h (ae step k) a ha λa' ha' hlt=>ih a' (by omega) ha'
end
theorem Ret.tot {o:Option RB}{P:Prop}(h:Ret o P):Tot o λv=>(v.1.1=true<->P):=by
 obtain⟨b,e,hb⟩:=h;exact⟨_,e,hb⟩
section
variable {α β:Type} {Q:β->Prop}
theorem Tot.cat {x y:ByteArray}{k:ByteArray->Option β}{a b:Nat}(hx:x.size<=a)(hy:y.size<=b)(h:∀ z:ByteArray,z.size<=a+b->Tot (k z) Q)(hb:a+b<=4611686018427387904:=by omega):Tot (aT x y k) Q:=by
 unfold aT;rw[decide_eq_true (by omega)];exact h _ (by rw[ByteArray.size_append];omega)
theorem Tot.fit {a b c:Nat}{x y:Option β}(h:Tot x Q)(hc:c<=1000:=by omega)(hab:a+b<=2097152:=by omega):Tot (bif decide ((a+b)*c<=ah) then x else y) Q:=by
 have:=BJ hab hc;rw[decide_eq_true (by unfold ah;omega)];exact h
theorem Tot.ix2 {xs:List α}{i:Int}{g:α->Option β}(h0:0<=i)(h1:i<xs.length)(k:∀ y∈xs,idx xs i=some y->Tot (g y) Q):Tot ((idx xs i).bind λ_=>(idx xs ((AC i:Nat):Int)).bind g) Q :=
 Tot.ix h0 h1 λy hy e=>by rw[Int.toNat_of_nonneg h0,e];exact k y hy e
end
theorem e9 (s:ByteArray):s.data.toList.length=s.size:=Array.length_toList
theorem gY (xs:List Int):(fO xs).size=xs.length:=by
 unfold fO;show (List.toArray _).size=_;rw[List.size_toArray,AW]
theorem p8 (s:ByteArray):(dU s).length=s.size:=by
 unfold dU;rw[AW];exact e9 s
theorem dec_t:∀ (d k:Nat) (n:Int),0<=n->n<10 ^ (d+1)->n<=1000000000->d<=100->d<k->Tot (Q1.f k (n,())) λr=>r.1.1.size<=d+1:=by
 intro d;induction d with
 |zero =>
  intro k n h0 h1 h2 hd hk;obtain⟨k,rfl⟩:∃ m,k=m+1:=⟨k-1,by omega⟩;show Tot (Q1.step (Q1.f k) (n,())) _;simp only[Q1.step];refine Tot.not (decide_eq_false (show ¬ n< -9223372036854775807 by omega)) (Tot.not (decide_eq_false (show ¬ n<0 by omega)) (Tot.must (decide_eq_true (show n<10 by exact h1)) (Tot.ret ?_)));show (fO _).size<=1;rw[gY];exact AY _
 |succ d ih =>
  intro k n h0 h1 h2 hd hk;obtain⟨k,rfl⟩:∃ m,k=m+1:=⟨k-1,by omega⟩;show Tot (Q1.step (Q1.f k) (n,())) _;simp only[Q1.step];refine Tot.not (decide_eq_false (show ¬ n< -9223372036854775807 by omega)) (Tot.not (decide_eq_false (show ¬ n<0 by omega)) (Tot.cnd (λ_=>Tot.ret ?_) λh=>?_))
  ·show (fO _).size<=_;rw[gY];exact Nat.succ_le_succ (Al _)
  ·have h:¬ n<10:=of_decide_eq_false h;have e:BA n 10=n / 10:=by rw[Ak h0]
   have e10:(10:Int) ^ (d+1+1)=10 ^ (d+1)*10:=Int.pow_succ ..;have hq:n / 10<10 ^ (d+1):=Int.ediv_lt_of_lt_mul (by omega) (by rw[<- e10];exact h1);rw[e,aK (by omega) (by omega)];refine Tot.bind (ih k (n / 10) (by omega) hq (by omega) (by omega) (by omega)) λv hv=>Tot.cat hv (b:=1) (by rw[gY];exact AY _) (λz hz=>Tot.ret hz) (by omega)
theorem kf (K:Nat)(n:Int)(h0:0<=n)(h1:n<=999999)(hK:1048577<K):Tot (Q1.f K (n,())) λr=>r.1.1.size<=6 :=
 dec_t 5 K n h0 (by show n<1000000;omega) (by omega) (by omega) (by omega)
theorem rK (K:Nat)(i:Int)(h0:0<=i)(h1:i<=4):Tot (Q79.f K (i,())) λr=>r.1.1.size<=7:=by
 have:i=0\/i=1\/i=2\/i=3\/i=4:=by omega
 rcases this with rfl|rfl|rfl|rfl|rfl <;> exact⟨_,rfl,by decide⟩
theorem rL (K:Nat)(i:Int)(h0:0<=i)(h1:i<=6):Tot (Q77.f K (i,())) λr=>r.1.1.size<=4:=by
 have:i=0\/i=1\/i=2\/i=3\/i=4\/i=5\/i=6:=by omega
 rcases this with rfl|rfl|rfl|rfl|rfl|rfl|rfl <;> exact⟨_,rfl,by decide⟩
theorem xe (K:Nat)(t:List af)(hT:aA t)(hK:1048577<K):Tot (Q80.f K (t,())) λr=>r.1.1.size<=240:=by
 have hl:=gT hT.2 (λg hg=>(hT.1 g hg).1);refine Tot.iter (step:=λrec a=>Q80.l0.step K (t,()) rec a) (λa=>0<=a.2/\a.2<=t.length/\(a.1.size:Int)<=30*a.2) (λa=>t.length-a.2.toNat) ?_ K _ (by show t.length-AC 0<K;omega) ⟨by show (0:Int)<=0;omega,by show (0:Int)<=_;omega,by show (0:Int)<=30*0;omega⟩;rintro rec ⟨s,i⟩ ⟨h0,h1,h2⟩ ih;simp only at h0 h1 h2 ih ⊢;simp only[Q80.l0.step];refine Tot.cnd (λh=>?_) λh=>?_
 ·have h:=of_decide_eq_true h;obtain⟨n,rfl⟩:=AE h0;have hn:n<t.length:=by omega
  obtain⟨⟨f1,f2⟩,⟨f3,f4⟩,f5,f6⟩:=hT.1 t[n] (AD hn);rw[ai hn,av n (by omega)];simp only[AA];have go:∀ z:ByteArray,z.size<=s.size+29->Tot (rec (z,((n+1:Nat):Int))) λr=>r.1.1.size<=240:=λz hz=>ih _ ⟨by show (0:Int)<=((n+1:Nat):Int);omega,by show ((n+1:Nat):Int)<=_;omega,by show (z.size:Int)<=30*((n+1:Nat):Int);omega⟩ (by show t.length-AC ((n+1:Nat):Int)<t.length-AC (n:Int);omega)
  have body:∀ z0:ByteArray,z0.size<=s.size+1->Tot ((Q1.f K (t[n].1,())).bind λy3=>aT z0 y3.1.1 λy4=>aT y4 (ByteArray.mk #[58]) λy5=>(Q1.f K (t[n].2.1,())).bind λy7=>aT y5 y7.1.1 λy8=>aT y8 (ByteArray.mk #[58]) λy9=>(Q79.f K (t[n].2.2.1,())).bind λy11=>aT y9 y11.1.1 λy12=>bif t[n].2.2.2 then (aT y12 (ByteArray.mk #[42]) λy14=>rec (y14,((n+1:Nat):Int))) else (rec (y12,((n+1:Nat):Int)))) λr=>r.1.1.size<=240:=λz0 hz0 =>
   Tot.bind (kf K _ f1 (by omega) hK) λv1 s1=>Tot.cat hz0 s1 λz1 hz1=>Tot.cat hz1 (b:=1) (by decide) λz2 hz2 =>
   Tot.bind (kf K _ f3 (by omega) hK) λv2 s2=>Tot.cat hz2 s2 λz3 hz3=>Tot.cat hz3 (b:=1) (by decide) λz4 hz4 =>
   Tot.bind (rK K _ (by omega) f6) λv3 s3=>Tot.cat hz4 s3 λz5 hz5 =>
   Tot.cnd (λ_=>Tot.cat hz5 (b:=1) (by decide) λz6 hz6=>go z6 (by omega)) λ_=>go z5 (by omega)
  exact Tot.cnd (λ_=>Tot.cat (AY _) (b:=1) (by decide) λz hz=>body z hz) λ_=>body s (by omega)
 ·have h:=of_decide_eq_false h;exact Tot.ret (by show s.size<=240;omega)
theorem mW (K:Nat)(t:List af)(ht:t.length<=1048576)(hK:1048577<K):Tot (Q81.f K (t,())) λr=>r.1.1.size<=240:=by
 simp only[Q81.f];refine Tot.bind (fC K t ht hK).tot λv hv=>Tot.cnd (λ_=>Tot.ret (by show (0:Nat)<=240;omega)) λh=>?_
 have hT:=hv.1 (by simpa using h);exact Tot.cnd (λ_=>Tot.ret (by show (1:Nat)<=240;omega)) λ_=>Tot.bind (xe K t hT hK) λv h=>Tot.ret h
theorem oC (K:Nat)(n:Int)(h0:-999999<=n)(h1:n<=999999)(hK:1048577<K):Tot (Q78.f K (n,())) λr=>r.1.1.size<=7:=by
 simp only[Q78.f];refine Tot.cnd (λh=>?_) λh=>?_
 ·have h:n<0:=of_decide_eq_true h;rw[aK (by omega) (by omega)];exact Tot.bind (kf K _ (by omega) (by omega) hK) λv s=>Tot.cat (a:=1) (by decide) s λz hz=>Tot.ret hz
 ·have h:¬ n<0:=of_decide_eq_false h;exact Tot.bind (kf K _ (by omega) (by omega) hK) λv s=>Tot.cat (a:=1) (by decide) s λz hz=>Tot.ret hz
theorem xf (K:Nat)(w:au)(hw:gS w)(hK:1048577<K):Tot (Q82.f K (w,())) λr=>r.1.1.size<=400:=by
 obtain⟨_,⟨a1,a2⟩,⟨b1,b2⟩,⟨c1,c2⟩,⟨d1,d2⟩,⟨e1,e2⟩,⟨⟨x1,x2⟩,⟨y1,y2⟩,⟨z1,z2⟩,⟨u1,u2⟩⟩,hT,_⟩:=hw;have ht:=cD hT;simp only[Q82.f];have sp:(ByteArray.mk #[32]).size<=1:=by decide
 refine Tot.cnd (λ_=>?_) λ_=>?_ <;>
 exact Tot.cat (a:=3) (by decide) sp λ_ h=>Tot.bind (rL K _ (by omega) a2) λ_ s=>Tot.cat h s λ_ h=>Tot.cat h sp λ_ h =>
  Tot.bind (kf K _ b1 (by omega) hK) λ_ s=>Tot.cat h s λ_ h=>Tot.cat h sp λ_ h =>
  Tot.bind (kf K _ c1 (by omega) hK) λ_ s=>Tot.cat h s λ_ h=>Tot.cat h sp λ_ h =>
  Tot.bind (kf K _ d1 (by omega) hK) λ_ s=>Tot.cat h s λ_ h=>Tot.cat h sp λ_ h =>
  Tot.bind (kf K _ e1 (by omega) hK) λ_ s=>Tot.cat h s λ_ h=>Tot.cat h sp λ_ h =>
  Tot.bind (oC K _ (by show -999999<=(au.coord w).1;omega) (by show (au.coord w).1<=999999;omega) hK) λ_ s=>Tot.cat h s λ_ h=>Tot.cat h sp λ_ h =>
  Tot.bind (oC K _ (by show -999999<=(au.coord w).2.1;omega) (by show (au.coord w).2.1<=999999;omega) hK) λ_ s=>Tot.cat h s λ_ h=>Tot.cat h sp λ_ h =>
  Tot.bind (kf K _ z1 (by show (au.coord w).2.2.1<=999999;omega) hK) λ_ s=>Tot.cat h s λ_ h=>Tot.cat h sp λ_ h =>
  Tot.bind (kf K _ (by show 0<=(au.coord w).2.2.2;omega) (by show (au.coord w).2.2.2<=999999;omega) hK) λ_ s=>Tot.cat h s λ_ h=>Tot.cat h sp λ_ h =>
  Tot.bind (mW K _ ht hK) λ_ s=>Tot.cat h s λ_ h=>Tot.ret (Ag h (by decide))
theorem xg (K:Nat)(n:Int)(hK:1048577<K):Tot (Q84.f K (n,())) λ_=>True:=by
 refine Tot.iter (step:=λrec a=>Q84.l0.step K (n,()) rec a) (λa=>0<=a.2/\a.2<=8) (λa=>8-a.2.toNat) ?_ K _ (by show 8-AC 0<K;omega) ⟨by show (0:Int)<=0;omega,by show (0:Int)<=8;omega⟩;rintro rec ⟨s,i⟩ ⟨h0,h1⟩ ih;simp only at h0 h1 ih ⊢;simp only[Q84.l0.step];obtain⟨i,rfl⟩:=AE h0;refine Tot.cnd (λh=>?_) λ_=>Tot.ret trivial
 have h:=of_decide_eq_true h;rw[av i (by omega)];have go:∀ z:Int,Tot (rec (z,((i+1:Nat):Int))) λ_=>True:=λz=>ih _ ⟨by show (0:Int)<=((i+1:Nat):Int);omega,by show ((i+1:Nat):Int)<=8;omega⟩ (by show 8-AC ((i+1:Nat):Int)<8-AC (i:Int);omega)
 exact Tot.cnd (λ_=>go _) λ_=>go _
theorem yq (K:Nat)(s:ByteArray)(hs:s.size<=1000000)(hK:1048577<K):Tot (Q85.f K (s,())) λ_=>True:=by
 refine Tot.iter (step:=λrec a=>Q85.l0.step K (s,()) rec a) (λa=>0<=a.2/\a.2<=s.size) (λa=>s.size-a.2.toNat) ?_ K _ (by show s.size-AC 0<K;omega) ⟨by show (0:Int)<=0;omega,by show (0:Int)<=_;omega⟩;rintro rec ⟨z,i⟩ ⟨h0,h1⟩ ih;simp only at h0 h1 ih ⊢;simp only[Q85.l0.step];obtain⟨i,rfl⟩:=AE h0;refine Tot.cnd (λh=>?_) λ_=>Tot.ret trivial
 have h:=of_decide_eq_true h;rw[av i (by omega)];exact Tot.ix h0 (by rw[e9];exact h) λy _ _=>Tot.bind (xg K _ hK) λv _=>ih _ ⟨by show (0:Int)<=((i+1:Nat):Int);omega,by show ((i+1:Nat):Int)<=_;omega⟩ (by show s.size-AC ((i+1:Nat):Int)<s.size-AC (i:Int);omega)
theorem hex_t (K:Nat)(n:Int)(hK:1048577<K):Tot (Q83.f K (n,())) λr=>r.1.1.size<=8:=by
 refine Tot.iter (step:=λrec a=>Q83.l0.step K (n,()) rec a) (λa=>-1<=a.2/\a.2<=7/\a.1.length=7-a.2) (λa=>(a.2+1).toNat) ?_ K _ (by show AC 8<K;omega) ⟨by show (-1:Int)<=7;omega,by show (7:Int)<=7;omega,by show (0:Int)=7-7;omega⟩;rintro rec ⟨z,i⟩ ⟨h0,h1,h2⟩ ih;simp only at h0 h1 h2 ih ⊢;simp only[Q83.l0.step];refine Tot.cnd (λh=>?_) λh=>?_
 ·have h:=of_decide_eq_true h;rw[aK (n:=4*i) (by omega) (by omega),aK (n:=i-1) (by omega) (by omega)];obtain⟨b0,b1⟩:=kG (a:=AZ n (2 ^ min (AC (4*i)) 64)) (m:=15) (by omega);refine Tot.not (decide_eq_false (by omega)) (Tot.ix b0 (Int.lt_of_le_of_lt b1 (by decide)) λy _ _=>Tot.fit ?_ (by omega) (by simp only[AI,AP];omega));exact ih _ ⟨by show -1<=i-1;omega,by show i-1<=7;omega,by show ((z++[_]).length:Int)=7-(i-1);rw[AJ,A2];omega⟩ (by show AC (i-1+1)<AC (i+1);omega)
 ·have h:=of_decide_eq_false h;refine Tot.ret ?_;show (fO z).size<=8;rw[gY];omega
theorem mX (K:Nat)(w:au)(hw:(au.table w).length<=1048576)(hK:1048577<K):Tot (Q86.f K (w,())) λr=>r.1.1.size<=409/\(¬ gS w->r.1.1=ByteArray.mk #[]):=by
 simp only[Q86.f];refine Tot.bind (rm K w hw hK).tot λv hv=>Tot.cnd (λ_=>Tot.ret ⟨by show (0:Nat)<=409;omega,λ_=>rfl⟩) λh=>?_
 have hP:=hv.1 (by simpa using h);exact Tot.bind (xf K w hP hK) λb hb=>Tot.cat hb (b:=1) (by decide) λz hz=>Tot.bind (yq K _ (by omega) hK) λs _=>Tot.bind (hex_t K _ hK) λx hx=>Tot.cat hz hx λz hz=>Tot.ret ⟨hz,λh=>absurd hP h⟩
theorem uo (K:Nat)(s:ByteArray)(c:Int)(hs:s.size<=100000)(hK:1048577<K):Tot (Q94.f K (s,c,())) λr=>r.1.1.length<=s.size+1/\∀ p∈r.1.1,p.size<=s.size:=by
 have hex:∀ i j:Nat,(s.extract i j).size<=s.size:=λi j=>by rw[BC];omega
 refine Tot.iter (step:=λrec a=>Q94.l0.step K (s,c,()) rec a) (λa=>0<=a.2.1/\a.2.1<=a.2.2/\a.2.2<=s.size/\a.1.length<=a.2.2/\∀ p∈a.1,p.size<=s.size) (λa=>s.size-a.2.2.toNat) ?_ K _ (by show s.size-AC 0<K;omega) ⟨by show (0:Int)<=0;omega,by show (0:Int)<=0;omega,by show (0:Int)<=_;omega,by show (0:Int)<=0;omega,λp hp=>by cases hp⟩;rintro rec ⟨out,from_,i⟩ ⟨h0,h1,h2,h3,h4⟩ ih;simp only at h0 h1 h2 h3 h4 ih ⊢;simp only[Q94.l0.step];obtain⟨i,rfl⟩:=AE (BB h0 h1);have app:∀ x:ByteArray,x.size<=s.size->∀ p∈out++[x],p.size<=s.size:=λx hx p hp=>by
  rcases Af.1 hp with h|h
  ·exact h4 p h
  ·rw[AS.1 h];exact hx
 refine Tot.cnd (λh=>?_) λh=>?_
 ·have h:=of_decide_eq_true h;rw[av i (by omega)];refine Tot.ix (BB h0 h1) (by rw[e9];exact h) λy _ _=>Tot.cnd (λ_=>Tot.must (by rw[decide_eq_true h0,decide_eq_true h1,decide_eq_true h2];rfl) (Tot.fit (ih _ ⟨?_,?_,?_,?_,app _ (hex _ _)⟩ ?_) (by omega) (by simp only[AI,AP];omega))) λ_=>ih _ ⟨h0,?_,?_,?_,h4⟩ ?_
  ·show (0:Int)<=((i+1:Nat):Int);omega
  ·show ((i+1:Nat):Int)<=((i+1:Nat):Int);omega
  ·show ((i+1:Nat):Int)<=s.size;omega
  ·show ((out++[_]).length:Int)<=((i+1:Nat):Int);rw[AJ,A2];omega
  ·show s.size-AC ((i+1:Nat):Int)<s.size-AC (i:Int);omega
  ·show from_<=((i+1:Nat):Int);omega
  ·show ((i+1:Nat):Int)<=s.size;omega
  ·show (out.length:Int)<=((i+1:Nat):Int);omega
  ·show s.size-AC ((i+1:Nat):Int)<s.size-AC (i:Int);omega
 ·refine Tot.must (by rw[decide_eq_true h0,decide_eq_true (by omega),decide_eq_true (Ac _)];rfl) (Tot.fit (Tot.ret ⟨?_,app _ (hex _ _)⟩) (by omega) (by simp only[AI,AP];omega));show (out++[_]).length<=_;rw[AJ,A2];omega
theorem i9 (K:Nat)(s:ByteArray)(hs:s.size<=100000)(hK:1048577<K):Tot (Q95.f K (s,())) λ_=>True:=by
 simp only[Q95.f,Q95.pre];have loop:((s.size:Int)<=6)->Tot (Q95.l0 K (s,()) (0,0)) λ_=>True:=λh6=>by
  refine Tot.iter (step:=λrec a=>Q95.l0.step K (s,()) rec a) (λa=>0<=a.2/\a.2<=s.size) (λa=>s.size-a.2.toNat) ?_ K _ (by show s.size-AC 0<K;omega) ⟨by show (0:Int)<=0;omega,by show (0:Int)<=_;omega⟩;rintro rec ⟨z,i⟩ ⟨h0,h1⟩ ih;simp only at h0 h1 ih ⊢;simp only[Q95.l0.step];obtain⟨i,rfl⟩:=AE h0;refine Tot.cnd (λh=>?_) λ_=>Tot.ret trivial
  have h:=of_decide_eq_true h;have hd:((i:Nat):Int)<s.data.toList.length:=by rw[e9];exact h
  rw[av i (by omega)];exact Tot.ix h0 hd λy _ _=>Tot.cnd (λ_=>Tot.ret trivial) λ_=>Tot.ix h0 hd λy _ _=>Tot.cnd (λ_=>Tot.ret trivial) λ_=>Tot.ix h0 hd λy _ _=>ih _ ⟨by show (0:Int)<=((i+1:Nat):Int);omega,by show ((i+1:Nat):Int)<=_;omega⟩ (by show s.size-AC ((i+1:Nat):Int)<s.size-AC (i:Int);omega)
 refine Tot.bind (ci K _ _ _).tot λv hv=>Tot.cnd (λ_=>Tot.ret trivial) λh=>?_
 have h16:=hv.1 (by simpa using h);exact Tot.cnd (λh=>Tot.ix (by omega) (by rw[e9];have:=of_decide_eq_true h;omega) λy _ _=>Tot.cnd (λ_=>Tot.ret trivial) λ_=>loop h16.2) λ_=>loop h16.2
theorem tj (K:Nat)(s:ByteArray)(hs:s.size<=100000)(hK:1048577<K):Tot (Q96.f K (s,())) λ_=>True:=by
 simp only[Q96.f];refine Tot.cnd (λ_=>Tot.ret trivial) λh=>?_
 have h:=of_decide_eq_false h;have hd:(0:Int)<s.data.toList.length:=by rw[e9];omega
 have rest:Tot (bif decide ((0:Int)<=1)&&decide ((1:Int)<=(s.size:Int))&&decide ((s.size:Int)<=(s.size:Int)) then ((Q95.f K (s.extract (AC 1) (AC (s.size:Int)),())).bind λy5=>bif decide (y5.1.1<0) then (some (((-1),false,()),())) else (bif s.toList==(ByteArray.mk #[45,48]).toList then (some (((-1),false,()),())) else ((idx s.data.toList 0).bind λy6=>bif (y6.toNat:Int)==45 then (some ((wr .i64 (0-y5.1.1),true,()),())) else (some ((y5.1.1,true,()),()))))) else none) λ (_:(Int×Bool×Unit)×Unit)=>True :=
  Tot.must (by rw[decide_eq_true (by omega:(0:Int)<=1),decide_eq_true (by omega:(1:Int)<=s.size),decide_eq_true (Ac _)];rfl) (Tot.bind (i9 K _ (by rw[BC];omega) hK) λv _=>Tot.cnd (λ_=>Tot.ret trivial) λ_=>Tot.cnd (λ_=>Tot.ret trivial) λ_=>Tot.ix (by omega) hd λy _ _=>Tot.cnd (λ_=>Tot.ret trivial) λ_=>Tot.ret trivial)
 exact Tot.ix (by omega) hd λy _ _=>Tot.cnd (λ_=>Tot.ix (by omega) hd λy _ _=>Tot.cnd (λ_=>Tot.ret trivial) λ_=>rest) λ_=>rest
theorem yt (K:Nat)(s:ByteArray)(hs:s.size<=100000)(hK:1048577<K):Tot (Q97.f K (s,())) λ_=>True:=by
 simp only[Q97.f,Q97.pre];have loop:∀ (xs:List ByteArray) (n1 n2:Int) (b:Bool),xs.length=3->Tot (Q97.l0 K (s,()) (xs,1,n1,n2,0,b)) λ_=>True:=λxs n1 n2 b hx=>by
  refine Tot.iter (step:=λrec a=>Q97.l0.step K (s,()) rec a) (λa=>a.1.length=3/\1<=a.2.1/\a.2.1<=5) (λa=>5-a.2.1.toNat) ?_ K _ (by show 5-AC 1<K;omega) ⟨hx,by show (1:Int)<=1;omega,by show (1:Int)<=5;omega⟩;rintro rec ⟨ys,i,m1,m2,m3,m4⟩ ⟨h0,h1,h2⟩ ih;simp only at h0 h1 h2 ih ⊢;simp only[Q97.l0.step];refine Tot.cnd (λh=>?_) λ_=>Tot.bind (ny K _).tot λ_ _=>Tot.ret trivial
  have h:=of_decide_eq_true h;rw[aK (n:=i+1) (by omega) (by omega)];have go:∀ m:Int,Tot (rec (ys,i+1,m1,m2,m,m4)) λ_=>True:=λm=>ih _ ⟨h0,by show 1<=i+1;omega,by show i+1<=5;omega⟩ (by show 5-AC (i+1)<5-AC i;omega)
  exact Tot.bind (rK K i (by omega) h) λv _=>Tot.ix2 (by omega) (by omega) λy _ _=>Tot.cnd (λ_=>go _) λ_=>go _
 have rest:∀ (z:ByteArray) (b:Bool),z.size<=s.size->Tot ((Q94.f K (z,58,())).bind λy13=>bif (AB y13.1.1:Int) != 3 then (some (((0,(0,(0,b))),false,()),())) else ((idx y13.1.1 0).bind λ_=>(idx y13.1.1 (AC 0:Nat)).bind λy15=>(Q95.f K (y15,())).bind λy16=>(idx y13.1.1 1).bind λ_=>(idx y13.1.1 (AC 1:Nat)).bind λy18=>(Q95.f K (y18,())).bind λy19=>Q97.l0 K (s,()) (y13.1.1,1,y16.1.1,y19.1.1,0,b))) λ_=>True:=λz b hz =>
  Tot.bind (uo K z 58 (by omega) hK) λv ⟨_,hp⟩=>Tot.cnd (λ_=>Tot.ret trivial) λh=>by
   have h3:(v.1.1.length:Int)=3:=by simpa using h
   exact Tot.ix2 (by omega) (by omega) λy hy _=>Tot.bind (i9 K y (by have:=hp y hy;omega) hK) λ_ _=>Tot.ix2 (by omega) (by omega) λy hy _=>Tot.bind (i9 K y (by have:=hp y hy;omega) hK) λ_ _=>loop _ _ _ _ (by omega)
 refine Tot.cnd (λh=>?_) λ_=>rest s false (AY _)
 have h:=of_decide_eq_true h;rw[aK (n:=(s.size:Int)-1) (by omega) (by omega)];exact Tot.ix (by omega) (by rw[e9];omega) λy _ _=>Tot.cnd (λ_=>Tot.must (by simp only[Ai,decide_eq_true_eq];omega) (rest _ true (by rw[BC];omega))) λ_=>rest s false (AY _)
theorem yu (K:Nat)(s:ByteArray)(hs:s.size<=100000)(hK:1048577<K):Tot (Q98.f K (s,())) λr=>r.1.1.length<=100001:=by
 simp only[Q98.f,Q98.pre];refine Tot.cnd (λ_=>Tot.ret (by show (0:Nat)<=_;omega)) λ_=>Tot.bind (uo K s 44 hs hK) ?_
 rintro⟨⟨xs,⟨⟩⟩,⟨⟩⟩ ⟨hl,hp⟩;dsimp only at hl hp ⊢;refine Tot.iter (step:=λrec a=>Q98.l0.step K (s,()) rec a) (λa=>a.2.1=xs/\0<=a.2.2/\a.2.2<=xs.length/\(a.1.length:Int)<=a.2.2) (λa=>xs.length-a.2.2.toNat) ?_ K _ (by show xs.length-AC 0<K;omega) ⟨rfl,by show (0:Int)<=0;omega,by show (0:Int)<=_;omega,by show (0:Int)<=0;omega⟩;rintro rec ⟨out,ys,i⟩ ⟨rfl,h0,h1,h2⟩ ih;simp only at h0 h1 h2 hl hp ih ⊢;simp only[Q98.l0.step];obtain⟨i,rfl⟩:=AE h0;refine Tot.cnd (λh=>?_) λ_=>Tot.ret (by show out.length<=_;omega)
 have h:=of_decide_eq_true h;rw[av i (by omega)];exact Tot.ix2 h0 h λy hy _=>Tot.bind (yt K y (by have:=hp y hy;omega) hK) λv _=>Tot.cnd (λ_=>Tot.ret (by show (0:Nat)<=_;omega)) λ_=>Tot.fit (ih _ ⟨rfl,by show (0:Int)<=((i+1:Nat):Int);omega,by show ((i+1:Nat):Int)<=_;omega,by show ((out++[_]).length:Int)<=((i+1:Nat):Int);rw[AJ,A2];omega⟩ (by show ys.length-AC ((i+1:Nat):Int)<ys.length-AC (i:Int);omega)) (by omega) (by simp only[AI,AP];omega)
theorem yw (K:Nat)(s:ByteArray)(hs:s.size<=100000)(hK:1048577<K):Tot (Q99.f K (s,())) λr=>r.1.1.length<=100001:=by
 simp only[Q99.f];exact Tot.bind (yu K s hs hK) λv hv=>Tot.cnd (λ_=>Tot.ret (by show (0:Nat)<=_;omega)) λ_=>Tot.bind (mW K _ (by omega) hK) λx _=>Tot.cnd (λ_=>Tot.ret (by show (0:Nat)<=_;omega)) λ_=>Tot.ret hv
theorem oD (K:Nat)(s:ByteArray)(hs:s.size<=100000)(hK:1048577<K):Tot (Q100.f K (s,())) λr=>r.1.2.1=true->gS r.1.1:=by
 simp only[Q100.f,Q100.pre];refine Tot.bind (uo K s 32 hs hK) ?_;rintro⟨⟨xs,⟨⟩⟩,⟨⟩⟩ ⟨hl,hp⟩;dsimp only at hl hp ⊢;refine Tot.cnd (λ_=>Tot.ret λh=>by cases h) λ_=>Tot.cnd (λ_=>Tot.ret λh=>by cases h) λh=>?_
 have h12:(xs.length:Int)=12:=by simpa using h
 have hsz:∀ y∈xs,y.size<=100000:=λy hy=>Ag (hp y hy) hs
 have loop:∀ p:Int,Tot (Q100.l0 K (s,()) (xs,1,p,0)) λr=>r.1.2.1=true->gS r.1.1:=λp=>by
  refine Tot.iter (step:=λrec a=>Q100.l0.step K (s,()) rec a) (λa=>a.1=xs/\1<=a.2.1/\a.2.1<=7) (λa=>7-a.2.1.toNat) ?_ K _ (by show 7-AC 1<K;omega) ⟨rfl,by show (1:Int)<=1;omega,by show (1:Int)<=7;omega⟩;rintro rec ⟨ys,i,p,k⟩ ⟨rfl,h1,h2⟩ ih;simp only at h1 h2 hl h12 hsz ih ⊢;simp only[Q100.l0.step];refine Tot.cnd (λh=>?_) λ_=>?_
  ·have h:=of_decide_eq_true h;rw[aK (n:=i+1) (by omega) (by omega)];have go:∀ m:Int,Tot (rec (ys,i+1,p,m)) λr=>r.1.2.1=true->gS r.1.1:=λm=>ih _ ⟨rfl,by show 1<=i+1;omega,by show i+1<=7;omega⟩ (by show 7-AC (i+1)<7-AC i;omega)
   exact Tot.bind (rL K i (by omega) h) λv _=>Tot.ix2 (by omega) (by omega) λy _ _=>Tot.cnd (λ_=>go _) λ_=>go _
  ·refine Tot.ix2 (by omega) (by omega) λy hy _=>Tot.bind (i9 K y (hsz y hy) hK) λ_ _=>Tot.ix2 (by omega) (by omega) λy hy _=>Tot.bind (i9 K y (hsz y hy) hK) λ_ _=>Tot.ix2 (by omega) (by omega) λy hy _=>Tot.bind (i9 K y (hsz y hy) hK) λ_ _=>Tot.ix2 (by omega) (by omega) λy hy _=>Tot.bind (i9 K y (hsz y hy) hK) λ_ _ =>
    Tot.ix2 (by omega) (by omega) λy hy _=>Tot.bind (tj K y (hsz y hy) hK) λ_ _=>Tot.ix2 (by omega) (by omega) λy hy _=>Tot.bind (tj K y (hsz y hy) hK) λ_ _=>Tot.ix2 (by omega) (by omega) λy hy _=>Tot.bind (yw K y (hsz y hy) hK) λt ht=>Tot.ix2 (by omega) (by omega) λy hy _=>Tot.bind (i9 K y (hsz y hy) hK) λ_ _=>Tot.ix2 (by omega) (by omega) λy hy _=>Tot.bind (i9 K y (hsz y hy) hK) λ_ _ =>
    Tot.cnd (λ_=>Tot.ret λh=>by cases h) λ_=>Tot.cnd (λ_=>Tot.ret λh=>by cases h) λ_=>Tot.cnd (λ_=>Tot.ret λh=>by cases h) λ_=>Tot.bind (mX K _ (by show t.1.1.length<=1048576;omega) hK) λx ⟨_,hx⟩=>Tot.cnd (λ_=>Tot.ret λh=>by cases h) λhne=>Tot.ret λ_=>?_
   refine Classical.byContradiction λhn=>?_
   rw[hx hn]at hne;have he:(ByteArray.mk #[]).toList=s.toList:=by
    have:((ByteArray.mk #[]).toList != s.toList)=false:=hne;simpa using this
   rw[Ba,Ba]at he;have h0:=congrArg AB he;rw[e9,e9]at h0;have h1:(ByteArray.mk #[]).size=0:=rfl;omega
 exact Tot.ix2 (by omega) (by omega) λy _ _=>Tot.cnd (λ_=>loop 2) λ_=>loop 1
def Rt (v r:Nat):Prop:=r*r<=v/\v<(r+1)*(r+1)
theorem zo (K:Nat)(v:Nat)(hv:v<1500000001*1500000001)(hK:1048577<K):∃ r,Rt v r/\Q123.f K ((v:Int),())=some (((r:Int),()),()):=by
 have key:∀ (e k l h:Nat),h-l<2 ^ e->e<k->l<=h->h<=1500000000->l*l<=v->v<(h+1)*(h+1)->∃ r,Rt v r/\ae (λrec a=>Q123.l0.step K ((v:Int),()) rec a) k ((l:Int),(h:Int))=some (((r:Int),()),()):=by
  intro e;induction e with
  |zero =>
   intro k l h h1 hk hlh hh h2 h3;obtain⟨k,rfl⟩:∃ k',k=k'+1:=⟨k-1,by omega⟩;have:l=h:=by omega
   subst this;refine⟨l,⟨h2,h3⟩,?_⟩;show Q123.l0.step K _ _ _=_;simp only[Q123.l0.step];rw[decide_eq_false (by omega)];rfl
  |succ e ih =>
   intro k l h h1 hk hlh hh h2 h3;obtain⟨k,rfl⟩:∃ k',k=k'+1:=⟨k-1,by omega⟩;show ∃ r,Rt v r/\Q123.l0.step K _ _ _=_;simp only[Q123.l0.step];by_cases hl:l<h
   ·rw[decide_eq_true (show (l:Int)<(h:Int) by omega)];have e1:wr .i64 ((l:Int)+(h:Int))=(l:Int)+h:=aK (by omega) (by omega);have e2:wr .i64 ((l:Int)+(h:Int)+1)=((l+h+1:Nat):Int):=(aK (by omega) (by omega)).trans (by omega);have e3:BA ((l+h+1:Nat):Int) 2=(((l+h+1) / 2:Nat):Int):=by
     rw[Ak (by omega)];omega
    rw[e1,e2,e3];have hm:l<(l+h+1) / 2/\(l+h+1) / 2<=h:=by omega
    have hw:h-(l+h+1) / 2<2 ^ e/\(l+h+1) / 2-1-l<2 ^ e:=by
     rw[Nat.pow_succ]at h1;omega
    generalize (l+h+1) / 2=m at *;have e4:wr .i64 (m:Int)=m:=aK (by omega) (by omega);have e5:BA (v:Int) (m:Int)=((v / m:Nat):Int):=by
     rw[Ak (by omega)];rfl
    have hvm:v / m<=v:=Nat.div_le_self _ _;have hq:m<=v / m<->m*m<=v:=Nat.le_div_iff_mul_le (by omega);generalize v / m=q at *;have e6:wr .i64 (q:Int)=(q:Int):=aK (by omega) (by omega);rw[e4,e5,e6,decide_eq_false (show ¬ (m:Int)=0 by omega)];simp only[cond_true,cond_false];by_cases hc:m<=q
    ·rw[decide_eq_true (by omega)];exact ih k m h hw.1 (by omega) (by omega) hh (hq.1 hc) h3
    ·rw[decide_eq_false (by omega)];have hc2:¬ m*m<=v:=λh4=>hc (hq.2 h4)
     have e7:wr .i64 ((m:Int)-1)=((m-1:Nat):Int):=ei m (by omega) (by omega);rw[e7];exact ih k l (m-1) hw.2 (by omega) (by omega) (by omega) h2 (by rw[show m-1+1=m by omega];omega)
   ·have:l=h:=by omega
    subst this;refine⟨l,⟨h2,h3⟩,?_⟩;rw[decide_eq_false (by omega)];rfl
 exact key 31 K 0 1500000000 (by decide) (by omega) (by omega) (by omega) (by omega) hv
def gZ (x:Int):Int:=if x< -1000000000 then -1000000000 else if x>1000000000 then 1000000000 else x
theorem pn (K:Nat)(x:Int):Q122.f K (x,())=some ((gZ x,()),()):=by
 simp only[Q122.f,Q119.f,gZ];by_cases h:x< -1000000000
 ·rw[decide_eq_true h,if_pos h];rfl
 ·rw[decide_eq_false h,if_neg h];by_cases h2:x>1000000000
  ·rw[decide_eq_true h2,if_pos h2];rfl
  ·rw[decide_eq_false h2,if_neg h2];rfl
theorem rM (x:Int):-1000000000<=gZ x/\gZ x<=1000000000:=by
 unfold gZ;split
 ·omega
 ·split <;> omega
theorem xP {a:Int}(h:-1000000000<=a/\a<=1000000000):0<=a*a/\a*a<=1000000000000000000:=by
 have e:∃ b:Nat,b<=1000000000/\a*a=((b*b:Nat):Int):=by
  refine⟨a.natAbs,by omega,?_⟩;exact (Int.natAbs_mul_self).symm
 obtain⟨b,h1,h2⟩:=e;have:=BJ h1 h1;omega
theorem vI (K:Nat)(x y:Int)(hK:1048577<K):Tot (Q124.f K (x,y,())) λ_=>True:=by
 simp only[Q124.f];rw[pn K x,pn K y];simp only[AA];have h1:=xP (rM x);have h2:=xP (rM y);generalize gZ x*gZ x=a at *;generalize gZ y*gZ y=b at *;have e1:wr .i64 a=a:=aK (by omega) (by omega);have e2:wr .i64 b=b:=aK (by omega) (by omega);have e3:wr .i64 (a+b)=(((a+b).toNat:Nat):Int):=(aK (by omega) (by omega)).trans (by omega);rw[e1,e2,e3];obtain⟨r,_,r2⟩:=zo K (a+b).toNat (by omega) hK;rw[r2];simp only[AA];rw[pn K r];exact⟨_,rfl,trivial⟩
theorem zp (K:Nat)(c d:de)(hK:1048577<K):Tot (Q125.f K (c,d,())) λ_=>True:=by
 simp only[Q125.f];exact Tot.bind (gJ K c).tot λ_ _=>Tot.cnd (λ_=>Tot.ret trivial) λ_=>Tot.bind (gJ K d).tot λ_ _=>Tot.cnd (λ_=>Tot.ret trivial) λ_=>Tot.bind (vI K _ _ hK) λ_ _=>Tot.ret trivial
theorem j0 (K:Nat)(n lo hi:Int)(h:lo<=hi):Tot (Q119.f K (n,lo,hi,())) λr=>InP r.1.1 lo hi:=by
 simp only[Q119.f];exact Tot.cnd (λ_=>Tot.ret ⟨Ac _,h⟩) λh1=>Tot.cnd (λ_=>Tot.ret ⟨h,Ac _⟩) λh2=>Tot.ret ⟨Int.not_lt.1 (of_decide_eq_false h1),Int.not_lt.1 (of_decide_eq_false h2)⟩
theorem zq (K:Nat)(c b:de)(t s:Int)(hc:cr c)(hK:1048577<K):Tot (Q130.f K (c,b,t,s,())) λr=>cr r.1.1:=by
 simp only[Q130.f];refine Tot.bind (gJ K c).tot λv hv=>Tot.cnd (λh=>?_) λ_=>Tot.bind (gJ K b).tot λv hv=>Tot.cnd (λ_=>Tot.ret hc) λh2=>Tot.bind (ci K _ _ _).tot λv' hv'=>Tot.cnd (λ_=>Tot.ret hc) λh3=>?_
 ·rw[hv.2 hc]at h;cases h
 have hb:=hv.1 (by simpa using h2);have ht:=hv'.1 (by simpa using h3);obtain⟨_,_,_,⟨c1,c2⟩⟩:=hc;obtain⟨_,_,_,⟨b1,b2⟩⟩:=hb;obtain⟨t1,t2⟩:=ht;have hs:¬ wr .i64 (c.2.2.2+b.2.2.2)=0:=by rw[aK (by omega) (by omega)];omega
 have err:∀ w:Int,Tot (Q129.f K (c,b,w,t,())) λr=>InP r.1.1 1 1500:=λw=>by
  simp only[Q129.f,Q128.f];refine Tot.bind (P:=λ_=>True) (Tot.cnd (λ_=>Tot.ret trivial) λ_=>Tot.ret trivial) λ_ _=>Tot.not (decide_eq_false (show ¬ t=0 by omega)) (Tot.bind (j0 K _ _ _ (by omega)) λ_ _=>Tot.not (decide_eq_false hs) (Tot.bind (j0 K _ _ _ (by omega)) λ_ h=>Tot.ret h))
 refine Tot.bind (zp K c b hK) λ_ _=>?_
 simp only[Q126.f];refine Tot.bind (P:=λ_=>True) (Tot.not (decide_eq_false hs) (Tot.ret trivial)) λ_ _=>Tot.bind (vI K _ _ hK) λn _=>Tot.cnd (λ_=>?_) λh=>?_
 ·simp only[Q127.f];refine Tot.bind (P:=λ_=>True) (Tot.cnd (λ_=>Tot.ret trivial) λ_=>Tot.cnd (λ_=>Tot.ret trivial) λ_=>Tot.cnd (λ_=>Tot.ret trivial) λ_=>Tot.ret trivial) λ_ _=>Tot.cnd (λ_=>?_) λ_=>?_ <;>
  exact Tot.bind (j0 K _ _ _ (by omega)) λ_ h1=>Tot.bind (j0 K _ _ _ (by omega)) λ_ h2=>Tot.bind (j0 K _ _ _ (by omega)) λ_ h3=>Tot.bind (err _) λ_ h4=>Tot.ret ⟨h1,h2,h3,h4⟩
 ·have hn:¬ n.1.1=0:=by simpa using h
  refine Tot.cnd (λ_=>?_) λ_=>?_ <;>
  exact Tot.not (decide_eq_false hn) (Tot.bind (j0 K _ _ _ (by omega)) λ_ h1=>Tot.not (decide_eq_false hn) (Tot.bind (j0 K _ _ _ (by omega)) λ_ h2=>Tot.bind (j0 K _ _ _ (by omega)) λ_ h3=>Tot.bind (err _) λ_ h4=>Tot.ret ⟨h1,h2,h3,h4⟩))
noncomputable def oE (K:Nat)(c b:de)(t s:Int):de:=((Q130.f K (c,b,t,s,())).getD (((0,0,0,0),()),())).1.1
noncomputable def qL (K:Nat)(l:List Int):Int:=((Q131.f K (l,())).getD ((0,()),())).1.1
theorem vJ (K:Nat)(c b:de)(t s:Int)(hc:cr c)(hK:1048577<K):Q130.f K (c,b,t,s,())=some ((oE K c b t s,()),())/\cr (oE K c b t s):=by
 obtain⟨⟨⟨v,⟨⟩⟩,⟨⟩⟩,e,h⟩:=zq K c b t s hc hK;unfold oE;rw[e];exact⟨rfl,h⟩
theorem med_t (K:Nat)(l:List Int)(hl:l.length<=100)(hK:1048577<K):Tot (Q131.f K (l,())) λ_=>True:=by
 simp only[Q131.f,Q131.pre];have loop:∀ xs:List Int,xs.length<=100->Tot (Q131.l0 K (l,()) (xs,[],0)) λ_=>True:=λxs hx=>by
  refine Tot.iter (step:=λrec a=>Q131.l0.step K (l,()) (Q131.l1 K (l,()) rec) rec a) (λa=>a.1=xs/\0<=a.2.2/\a.2.2<=xs.length/\(a.2.1.length:Int)=a.2.2) (λa=>xs.length-a.2.2.toNat) ?_ K _ (by show xs.length-AC 0<K;omega) ⟨rfl,by show (0:Int)<=0;omega,by show (0:Int)<=_;omega,rfl⟩;rintro rec ⟨ys,zs,i⟩ ⟨rfl,h0,h1,h2⟩ ih;simp only at h0 h1 h2 hx ih ⊢;simp only[Q131.l0.step];obtain⟨i,rfl⟩:=AE h0;refine Tot.cnd (λh=>?_) λ_=>Tot.cnd (λ_=>Tot.ret trivial) λh=>?_
  ·have hlt:=of_decide_eq_true h;clear h;refine Tot.iter (step:=λrec1 a=>Q131.l1.step K (l,()) rec rec1 a) (λa=>a.1=ys/\a.2.1=zs/\a.2.2.1=i/\0<=a.2.2.2/\a.2.2.2<=zs.length) (λa=>zs.length-a.2.2.2.toNat) ?_ K _ (by show zs.length-AC 0<K;omega) ⟨rfl,rfl,rfl,by show (0:Int)<=0;omega,by show (0:Int)<=_;omega⟩;rintro rec1 ⟨us,vs,j,k⟩ ⟨rfl,rfl,e,k0,k1⟩ ih1;simp only at e k0 k1 hlt h1 h2 hx ih1 ih ⊢;subst e;simp only[Q131.l1.step];obtain⟨k,rfl⟩:=AE k0;have ins:∀ y:Int,Tot (rec (us,(([]++((vs.take (AC (k:Int))).drop (AC 0)))++([y]))++((vs.take (AC (AB vs:Int))).drop (AC (k:Int))),wr .i64 ((i:Int)+1))) λ_=>True:=λy=>by
    rw[av i (by omega)];refine ih _ ⟨rfl,by show (0:Int)<=((i+1:Nat):Int);omega,by show ((i+1:Nat):Int)<=_;omega,?_⟩ (by show us.length-AC ((i+1:Nat):Int)<us.length-AC (i:Int);omega);simp only[AH,A9,Aa,AQ,AJ,Ab,Ah,AI,AP];omega
   have fin:Tot (bif decide (0<=0)&&decide ((0:Int)<=(k:Int))&&decide ((k:Int)<=(AB vs:Int))&&true then (bif decide ((AB ([]:List (Ty.den (.int .i64)))+AB ((vs.take (AC (k:Int))).drop (AC 0)))*8<=ah) then ((idx us (i:Int)).bind λy3=>bif decide ((AB ([]++((vs.take (AC (k:Int))).drop (AC 0)))+AB ([y3]))*8<=ah) then (bif decide ((0:Int)<=(k:Int))&&decide ((k:Int)<=(AB vs:Int))&&decide ((AB vs:Int)<=(AB vs:Int))&&true then (bif decide ((AB (([]++((vs.take (AC (k:Int))).drop (AC 0)))++([y3]))+AB ((vs.take (AC (AB vs:Int))).drop (AC (k:Int))))*8<=ah) then (rec (us,(([]++((vs.take (AC (k:Int))).drop (AC 0)))++([y3]))++((vs.take (AC (AB vs:Int))).drop (AC (k:Int))),wr .i64 ((i:Int)+1))) else none) else none) else none) else none) else none) λ_=>True:=by
    refine Tot.must (by simp only[Ai,decide_eq_true_eq,BP];omega) (Tot.fit (Tot.ix h0 hlt λy _ _=>Tot.fit (Tot.must (by simp only[Ai,decide_eq_true_eq,BP];omega) (Tot.fit (ins y) (by omega) ?_)) (by omega) ?_) (by omega) ?_) <;>
    simp only[AH,A9,Aa,AQ,AJ,Ab,Ah,AI,AP] <;> omega
   refine Tot.cnd (λh4=>?_) λ_=>fin
   have h4:=of_decide_eq_true h4;refine Tot.ix k0 h4 λy1 _ _=>Tot.ix h0 hlt λy2 _ _=>Tot.cnd (λ_=>?_) λ_=>fin
   rw[av k (by omega)];exact ih1 _ ⟨rfl,rfl,rfl,by show (0:Int)<=((k+1:Nat):Int);omega,by show ((k+1:Nat):Int)<=_;omega⟩ (by show vs.length-AC ((k+1:Nat):Int)<vs.length-AC (k:Int);omega)
  ·have h:¬ (zs.length:Int)=0:=by simpa using h
   rw[aK (n:=(zs.length:Int)-1) (by omega) (by omega)];have e:BA ((zs.length:Int)-1) 2=((zs.length:Int)-1) / 2:=by rw[Ak (by omega)]
   rw[e,aK (by omega) (by omega)];exact Tot.ix (by omega) (by omega) λy _ _=>Tot.ret trivial
 refine Tot.cnd (λh=>?_) λ_=>loop l hl
 have h:=of_decide_eq_true h;rw[aK (n:=(l.length:Int)-3) (by omega) (by omega)];exact Tot.must (by simp only[Ai,decide_eq_true_eq,BP];omega) (loop _ (by simp only[Ah,Ab];omega))
theorem med_s (K:Nat)(l:List Int)(hl:l.length<=100)(hK:1048577<K):Q131.f K (l,())=some ((qL K l,()),()):=by
 obtain⟨⟨⟨v,⟨⟩⟩,⟨⟩⟩,e,_⟩:=med_t K l hl hK;unfold qL;rw[e];rfl
theorem p9 {α A R:Type}(k:α->Int)(x:α)(t:List α)(hA:Asc k t)(S0 S1:List α->Nat->A)(fin:List α->Option R){step:(A->Option R)->A->Option R}
  (h0:∀ (rec:A->Option R) (acc:List α) (i:Nat) (hi:i<t.length),acc.length=i->(∀ y∈t.take i,k y<k x)->step rec (S0 acc i)=if k t[i]<k x then rec (S0 (acc++[t[i]]) (i+1)) else if k t[i]=k x then rec (S1 (acc++[x]) (i+1)) else rec (S1 (acc++[x]++[t[i]]) (i+1)))
  (h1:∀ (rec:A->Option R) (acc:List α) (i:Nat) (hi:i<t.length),acc.length<=i+1->k x<k t[i]->step rec (S1 acc i)=rec (S1 (acc++[t[i]]) (i+1)))
  (e0:∀ (rec:A->Option R) (acc:List α),acc.length=t.length->(∀ y∈t,k y<k x)->step rec (S0 acc t.length)=fin (acc++[x]))
  (e1:∀ (rec:A->Option R) (acc:List α),acc.length<=t.length+1->step rec (S1 acc t.length)=fin acc) {K:Nat} (hK:t.length<K):ae step K (S0 [] 0)=fin (bN k x t):=by
 have r1:∀ (n i K:Nat) (acc:List α),i+n=t.length->n<K->acc.length<=i+1->(∀ y∈t.drop i,k x<k y)->ae step K (S1 acc i)=fin (acc++t.drop i):=by
  intro n;induction n with
  |zero =>
   intro i K acc hi hK ha _;obtain⟨K,rfl⟩:∃ k',K=k'+1:=⟨K-1,by omega⟩;have:i=t.length:=by omega
   subst this;show step (ae step K) _=_;rw[e1 _ _ ha,BD,AL]
  |succ n ih =>
   intro i K acc hi hK ha hg;obtain⟨K,rfl⟩:∃ k',K=k'+1:=⟨K-1,by omega⟩;have hlt:i<t.length:=by omega
   rw[AM hlt]at hg;show step (ae step K) _=_;rw[h1 _ _ _ hlt ha (hg _ (.head _)),ih (i+1) K _ (by omega) (by omega) (by simp;omega) (λy hy=>hg y (.tail _ hy)),AM hlt];simp
 have above:∀ i (hi:i<t.length),∀ y∈t.drop (i+1),k t[i]<k y:=λi hi y hy=>by
  have:=List.Pairwise.drop (i:=i) hA;rw[AM hi]at this;exact (AT.1 this).1 y hy
 have r0:∀ (n i K:Nat) (acc:List α),i+n=t.length->n<K->acc=t.take i->(∀ y∈t.take i,k y<k x)->ae step K (S0 acc i)=fin (bN k x t):=by
  intro n;induction n with
  |zero =>
   intro i K acc hi hK ha hl;obtain⟨K,rfl⟩:∃ k',K=k'+1:=⟨K-1,by omega⟩;have:i=t.length:=by omega
   subst this;rw[Aq]at ha hl;subst ha;show step (ae step K) _=_;rw[e0 _ _ rfl hl];unfold bN;rw[AU.2 (by simpa using hl),AV.2 (λy hy=>by have:=hl y hy;simp;omega)]
  |succ n ih =>
   intro i K acc hi hK ha hl;obtain⟨K,rfl⟩:∃ k',K=k'+1:=⟨K-1,by omega⟩;have hlt:i<t.length:=by omega
   subst ha;have htl:(t.take i).length=i:=by rw[Ab];omega
   show step (ae step K) _=_;rw[h0 _ _ _ hlt htl hl];have hput:k x<=k t[i]->bN k x t=t.take i++x::(t.drop i).filter (λy=>decide (k x<k y)):=λhc=>by
    unfold bN;conv=>lhs;rw[<- A0 i t]
    rw[Am,Am,AU.2 (by simpa using hl),(AV (l:=t.take i)).2 (λy hy=>by have:=hl y hy;simp;omega),AQ];rw[AM hlt,AX,if_neg (by simp;omega),AV.2 (λy hy=>by have:=above i hlt y hy;simp;omega),AL]
   by_cases hc:k t[i]<k x
   ·rw[if_pos hc];refine ih (i+1) K _ (by omega) (by omega) (by rw[Bh,AN hlt];rfl) λy hy=>?_
    rw[Bh,AN hlt]at hy;rcases Af.1 hy with hy|hy
    ·exact hl y hy
    ·simp at hy;rw[hy];exact hc
   ·rw[if_neg hc,hput (by omega),AM hlt];by_cases he:k t[i]=k x
    ·rw[if_pos he,r1 n (i+1) K _ (by omega) (by omega) (by simp;omega) (λy hy=>by have:=above i hlt y hy;omega),AX,if_neg (by simp;omega),AU.2 (λy hy=>by have:=above i hlt y hy;simp;omega)];simp
    ·rw[if_neg he,r1 n (i+1) K _ (by omega) (by omega) (by simp;omega) (λy hy=>by have:=above i hlt y hy;omega),AX,if_pos (by simp;omega),AU.2 (λy hy=>by have:=above i hlt y hy;simp;omega)];simp
 exact r0 t.length 0 K [] (by omega) hK rfl (by simp)
theorem vK {t:List af}{f:af}(h:∀ g∈t,g.1<f.1):(b6 t f).1=t++[f]:=by
 rw[ii (λg hg e=>by have:=h g hg;omega)];unfold bN;rw[AU.2 (by simpa using h),AV.2 (λy hy=>by have:=h y hy;simp;omega)]
theorem oF:∀ {fs t:List af},Asc (λf:af=>f.1) fs->(∀ g∈t,∀ f∈fs,g.1<f.1)->eN t fs=t++fs
 |[],t,_,_=>by simp[eN]
 |f::fs,t,hA,h=>by
  show eN (b6 t f).1 fs=_;rw[vK (λg hg=>h g hg f (by simp)),oF (AT.1 hA).2 ?_]
  ·simp
  ·intro g hg e he;rcases Af.1 hg with hg|hg
   ·exact h g hg e (by simp[he])
   ·rw[AS.1 hg];exact (AT.1 hA).1 e he
theorem uq {fs:List af}(h:aA fs):eN [] fs=fs:=by
 rw[oF h.2 (by simp)];rfl
theorem yx (K:Nat)(a b:List af)(hA:aA a)(hB:aA b)(hK:1048577<K):Q111.f K (a,b,())=some ((eN a b,()),()):=by
 simp only[Q111.f,Q111.pre];obtain⟨b1,s1,s2⟩:=fC K a (cD hA) hK;obtain⟨b2,s3,s4⟩:=fC K b (cD hB) hK;have:=cD hA;have:=cD hB;rw[s1,s3,s2.2 hA,s4.2 hB];simp only[AA,AK,cond_false];rw[szb _ _ _ (by omega) (by show (AB ([]:List af))+a.length<=_;simp;omega)];simp only[cond_true,AQ];refine sG a b hA hB.1 (step:=λrec x=>Q111.l0.step K (a,b,()) rec x) (λt=>some ((t,()),())) ?_ ?_ (by omega)
 ·intro rec t i hi ht;simp only[Q111.l0.step];rw[bK (by omega:(i:Int)<(AB b:Int)),ai hi,av i (by omega)];simp only[cond_true,AA];rw[uh K t _ (cD ht) ht.2 hK];rfl
 ·intro rec t;simp only[Q111.l0.step,bc];rfl
theorem nK {me:Int}{l:List bZ}(h:cl me l)(s:Int):aA (dt l s):=by
 rcases jO (l:=l) (s:=s) with e|⟨x,hx,_,e⟩ <;> rw[e]
 ·exact⟨by simp,List.Pairwise.nil⟩
 ·exact (h.1 x hx).2.2.2.1
theorem olen {me:Int}{l:List bZ}(h:cl me l):l.length<=1048576:=Ag (gT h.2 λx hx=>⟨(h.1 x hx).1.1,BB (h.1 x hx).1.2 (by decide)⟩) (by decide)
theorem vL (K:Nat)(n:aa)(s:Int)(t:List af)(h:cl n.1 (aa.others n))(ht:aA t)(hK:1048577<K):Q112.f K (n,s,t,())=some ((eN (dt (aa.others n) s) t,()),()):=by
 have hl:=olen h;refine tZ (step:=λrec a=>Q112.l0.step K (n,s,t,()) rec a) (aa.others n) s (λl=>some ((eN l t,()),())) ?_ ?_ (aa.others n).length 0 K (by omega) (by omega)
 ·intro rec i hi;simp only[Q112.l0.step];rw[bK (by omega:(i:Int)<(AB (aa.others n):Int)),ai hi,av i (by omega)];simp only[cond_true,AA];cases (aa.others n)[i].1==s with
  |false=>rfl
  |true=>exact (congrArg (λo=>AG o _) (yx K _ t (h.1 _ (AD hi)).2.2.2.1 ht hK)).trans rfl
 ·intro rec;simp only[Q112.l0.step,bc,cond_false];rw[uq ht];refine (congrArg (λb=>bif b then _ else _) (szb (AB ([]:List af)) t.length 32 (by omega) ?_)).trans rfl;have:=cD ht;simp;omega
theorem sum_s (K:Nat)(n:aa)(s:Int)(t:List af)(h:cl n.1 (aa.others n))(hK:1048577<K):Q113.f K (n,s,t,())=some ((setO n (bN (λx:bZ=>x.1) (s,t) (aa.others n)),()),()):=by
 have hl:=olen h;refine p9 (step:=λrec a=>Q113.l0.step K (n,s,t,()) rec a) (λx:bZ=>x.1) (s,t) (aa.others n) h.2 (λacc i=>(acc,false,(i:Int))) (λacc i=>(acc,true,(i:Int))) (λo=>some ((setO n o,()),())) ?_ ?_ ?_ ?_ (by omega)
 ·intro rec acc i hi ha _;simp only[Q113.l0.step];rw[bK (by omega:(i:Int)<(AB (aa.others n):Int)),ai hi,av i (by omega)];simp only[cond_true,AA,Ae];have z1:=szb acc.length 1 32 (by omega) (by omega);have z2:=szb (acc++[(s,t)]).length 1 32 (by omega) (by simp;omega);generalize (aa.others n)[i]=y at *;by_cases c1:y.1<s
  ·rw[if_pos c1,show decide (y.1>=s)=false from decide_eq_false (by omega),show (y.1 != s)=true by simp;omega];exact (congrArg (λb=>bif b then _ else _) z1).trans rfl
  ·rw[if_neg c1,show decide (y.1>=s)=true from decide_eq_true (by omega)];refine (congrArg (λb=>bif b then _ else _) z1).trans ?_;by_cases c2:y.1=s
   ·rw[if_pos c2,show (y.1 != s)=false by simpa using c2];rfl
   ·rw[if_neg c2,show (y.1 != s)=true by simpa using c2];exact (congrArg (λb=>bif b then _ else _) z2).trans rfl
 ·intro rec acc i hi ha hc;simp only[Q113.l0.step];rw[bK (by omega:(i:Int)<(AB (aa.others n):Int)),ai hi,av i (by omega)];simp only[cond_true,AA,AK,cond_false];have z1:=szb acc.length 1 32 (by omega) (by omega);rw[show ((aa.others n)[i].1 != s)=true by simp;have:s<_:=hc;omega];exact (congrArg (λb=>bif b then _ else _) z1).trans rfl
 ·intro rec acc ha _;simp only[Q113.l0.step,bc,cond_false,Ae,cond_true];exact (congrArg (λb=>bif b then _ else _) (szb acc.length 1 32 (by omega) (by omega))).trans rfl
 ·intro rec acc ha;simp only[Q113.l0.step,bc,cond_false,AK];rfl
theorem xh (K:Nat)(a b:List af)(ha:a.length<=1048576)(hK:1048577<K):Q114.f K (a,b,())=rb (decide (a≠b)):=by
 simp only[Q114.f,Q114.pre];by_cases hl:a.length=b.length
 ·rw[show ((AB a:Int) != (AB b:Int))=false by simp;omega];have:=cU (step:=λrec x=>Q114.l0.step K (a,b,()) rec x) a.length (λi=>(i:Int)) (λj=>∃ (h:j<a.length) (h':j<b.length),a[j]≠b[j]) (rb false) (λ_=>rb true) ?_ ?_ a.length K 0 (by omega) (by omega)
  ·rcases this with ⟨h1,h2⟩|⟨j,_,h1,⟨h3,h4,h5⟩,_,h2⟩
   ·refine (h2:Q114.l0 K (a,b,()) 0=_).trans ?_;rw[decide_eq_false];rintro hne;exact hne (BR hl λi h3 h4=>Ao.1 λhx=>h1 i (Al _) h3 ⟨h3,h4,hx⟩)
   ·refine (h2:Q114.l0 K (a,b,()) 0=_).trans ?_;rw[decide_eq_true];rintro rfl;exact h5 rfl
  ·intro rec i hi;simp only[Q114.l0.step];rw[bK (by omega:(i:Int)<(AB a:Int)),ai hi,av i (by omega),ai (show i<b.length by omega)];simp only[cond_true,AA];rw[show Ty.eqv t2 a[i] (b[i]'(by omega))=decide (a[i]=b[i]'(by omega)) from iH _ _];by_cases hc:a[i]=b[i]'(by omega)
   ·exact .inl ⟨λ⟨_,_,h⟩=>h hc,by rw[decide_eq_true hc];rfl⟩
   ·exact .inr ⟨⟨hi,by omega,hc⟩,by rw[decide_eq_false hc];rfl⟩
  ·intro rec;simp only[Q114.l0.step,bc];rfl
 ·rw[show ((AB a:Int) != (AB b:Int))=true by simp;omega,decide_eq_true (show a≠b from λe=>hl (by rw[e]))];rfl
theorem po (K:Nat)(l:List Int)(t:Int)(hl:l.length<=1048576):Q120.f K (l,t,())=some ((gj l t,()),()):=by
 simp only[Q120.f];rw[szb _ _ _ (by omega) (by show (AB ([]:List Int))+l.length<=_;simp;omega)];simp only[cond_true,AQ];rw[szb _ _ _ (by omega) (by show l.length+[t].length<=_;simp;omega)];simp only[cond_true];have hlen:(l++[t]).length=l.length+1:=by simp
 show (bif decide (((l++[t]).length:Int)>3) then (bif decide (0<=wr .i64 (((l++[t]).length:Int)-3))&&decide (wr .i64 (((l++[t]).length:Int)-3)<=((l++[t]).length:Int))&&decide (((l++[t]).length:Int)<=((l++[t]).length:Int))&&true then some ((((l++[t]).take (AC ((l++[t]).length:Int))).drop (AC (wr .i64 (((l++[t]).length:Int)-3))),()),()) else none) else some ((l++[t],()),()))=_;by_cases h:l.length+1>3
 ·rw[aK (by omega) (by omega),decide_eq_true (by omega:((l++[t]).length:Int)>3),decide_eq_true (by omega:(0:Int)<=((l++[t]).length:Int)-3),decide_eq_true (by omega:((l++[t]).length:Int)-3<=((l++[t]).length:Int)),decide_eq_true (Ac _)];simp only[A8,cond_true,gj];rw[show AC (((l++[t]).length:Int)-3)=(l++[t]).length-3 by omega,AH,Aq]
 ·rw[decide_eq_false (by omega:¬ ((l++[t]).length:Int)>3)];simp only[cond_false,gj];rw[show (l++[t]).length-3=0 by omega,Aa]
theorem plen {me:Int}{l:List dr}(h:dV me l):l.length<=1048576:=Ag (gT h.2 λx hx=>(h.1 x hx).1) (by decide)
theorem sI {me:Int}{l:List dr}(h:dV me l)(node:Int):(dm l node).length<=3:=by
 unfold dm;cases hf:l.find? λp=>p.1==node with
 |none=>simp
 |some p =>
  have:=(h.1 p (Ar hf)).2.2.2.2.1.2;show p.2.2.length<=3;omega
theorem yy (K:Nat)(l:List dr)(node:Int)(c:de)(t:Int)(me:Int)(h:dV me l)(hK:1048577<K):Q121.f K (l,node,c,t,())=some ((nJ l node c t,()),()):=by
 have hl:=plen h;have h3:=sI h node;refine p9 (step:=λrec a=>Q121.l0.step K (l,node,c,t,()) rec a) (λx:dr=>x.1) (node,c,gj (dm l node) t) l h.2 (λacc i=>(acc,false,(i:Int),[])) (λacc i=>(acc,true,(i:Int),gj (dm l node) t)) (λo=>some ((o,()),())) ?_ ?_ ?_ ?_ (by omega)
 ·intro rec acc i hi ha hlow;simp only[Q121.l0.step];rw[bK (by omega:(i:Int)<(AB l:Int)),ai hi,av i (by omega)];simp only[cond_true,AA,Ae];have z1:=szb acc.length 1 64 (by omega) (by omega);have z2:=szb (acc++[(node,c,gj (dm l node) t)]).length 1 64 (by omega) (by simp;omega);have hat:l[i].1=node->dm l node=l[i].2.2:=λe=>by unfold dm;rw[nE h.2 hi e];rfl
  have hno:node<l[i].1->dm l node=[]:=λe=>by
   unfold dm;rw[mD (k:=λp:dr=>p.1)]
   ·rfl
   intro y hy;obtain⟨j,hj,rfl⟩:=AO hy;by_cases hij:j<i
   ·have:=hlow l[j] (by rw[BM];exact⟨j,by omega,rfl⟩);show l[j].1≠node;have:l[j].1<node:=this;omega
   ·have:l[i].1<=l[j].1:=by
     by_cases e:i=j
     ·subst e;exact Ac _
     ·exact BH (ek.1 h.2 i j hi hj (by omega))
    show l[j].1≠node;omega
  have htl:=(h.1 _ (AD hi)).2.2.2.2.1.2;generalize l[i]=y at *;by_cases c1:y.1<node
  ·rw[if_pos c1,show decide (y.1>=node)=false from decide_eq_false (by omega),show (y.1 != node)=true by simp;omega,show (y.1==node)=false by simp;omega];exact (congrArg (λb=>bif b then _ else _) z1).trans rfl
  ·rw[if_neg c1,show decide (y.1>=node)=true from decide_eq_true (by omega)];by_cases c2:y.1=node
   ·rw[if_pos c2,show (y.1 != node)=false by simpa using c2,show (y.1==node)=true by simpa using c2];simp only[cond_true,cond_false];rw[<- hat c2];refine (congrArg (λo=>AG o _) (po K _ t (by omega))).trans ?_;exact (congrArg (λb=>bif b then _ else _) z1).trans rfl
   ·rw[if_neg c2,show (y.1 != node)=true by simpa using c2,show (y.1==node)=false by simpa using c2];simp only[cond_true,cond_false];have e:=hno (by omega);rw[e]at z2 ⊢;refine (congrArg (λo=>AG o _) (po K [] t (by simp))).trans ?_;refine (congrArg (λb=>bif b then _ else _) z1).trans ?_;exact (congrArg (λb=>bif b then _ else _) z2).trans rfl
 ·intro rec acc i hi ha hc;simp only[Q121.l0.step];rw[bK (by omega:(i:Int)<(AB l:Int)),ai hi,av i (by omega)];have hc:node<l[i].1:=hc;simp only[cond_true,AA,AK,cond_false];rw[show (l[i].1 != node)=true by simp;omega,show (l[i].1==node)=false by simp;omega];exact (congrArg (λb=>bif b then _ else _) (szb acc.length 1 64 (by omega) (by omega))).trans rfl
 ·intro rec acc ha hlow;simp only[Q121.l0.step,bc,cond_false,Ae,cond_true];have e:dm l node=[]:=by
   unfold dm;rw[mD (k:=λp:dr=>p.1) (λy hy=>by have:y.1<node:=hlow y hy;show y.1≠node;omega)];rfl
  rw[e];refine (congrArg (λo=>AG o _) (po K [] t (by simp))).trans ?_;exact (congrArg (λb=>bif b then _ else _) (szb acc.length 1 64 (by omega) (by omega))).trans rfl
 ·intro rec acc ha;simp only[Q121.l0.step,bc,cond_false,AK]
def rN (n lo hi:Int):Int:=if n<lo then lo else if n>hi then hi else n
theorem xQ (K:Nat)(n lo hi:Int):Q119.f K (n,lo,hi,())=some ((rN n lo hi,()),()):=by
 simp only[Q119.f,rN];by_cases h1:n<lo
 ·rw[decide_eq_true h1,if_pos h1];rfl
 ·rw[decide_eq_false h1,if_neg h1];by_cases h2:n>hi
  ·rw[decide_eq_true h2,if_pos h2];rfl
  ·rw[decide_eq_false h2,if_neg h2];rfl
theorem yz {n lo hi:Int}(h:lo<=hi):InP (rN n lo hi) lo hi:=by
 unfold rN;split
 ·exact⟨Ac _,h⟩
 ·split
  ·exact⟨h,Ac _⟩
  ·exact⟨by omega,by omega⟩
def vM (n:aa):Int:=rN ((b7 n-(aa.probe n).2.1)*1000+500) 1 60000
noncomputable def pq (K:Nat)(w:au)(c:de)(p:dr):de:=bif p.1==w.2.2.1 then oE K c (au.coord w) (qL K p.2.2) w.2.2.2.2.1 else c
def jA (n:aa)(w:au):List dr:=nJ (aa.places n) w.2.2.1 (au.coord w) (vM n)
def pt (n:aa)(w:au):Bool:=!decide ((aa.probe n).1<0)&&(aa.probe n).1==w.2.2.1&&(aa.probe n).2.2.1==w.2.2.2.2.1&&w.2.2.2.2.2.1==w.2.2.1
noncomputable def eE (K:Nat)(n:aa)(w:au):aa:=bif pt n w then oB n ((jA n w).foldl (pq K w) (aa.coord n)) (jA n w) else n
theorem tk {K:Nat}{w:au}{c:de}{p:dr}(hc:cr c)(hK:1048577<K):cr (pq K w c p):=by
 unfold pq;cases p.1==w.2.2.1 with
 |false=>exact hc
 |true=>exact (vJ K c _ _ _ hc hK).2
theorem rO {n:aa}(h:UpX n)(hp:¬ (aa.probe n).1<0):(aa.probe n).1≠n.1/\InP (aa.probe n).1 0 7/\ap (aa.probe n).1=ap n.1/\InP (aa.probe n).2.1 0 (b7 n):=by
 have h1:=h.probe;unfold cM at h1;rw[if_neg (by omega)]at h1;obtain⟨h2,⟨f,hf,e⟩,h3,_⟩:=h1;exact⟨h2,e ▸ (h.table.1 f hf).1,e ▸ h.site f hf,h3⟩
theorem tm {n:aa}{w:au}(h:UpX n)(hw:cr (au.coord w))(hb:pt n w=true):dV n.1 (jA n w):=by
 simp only[pt,Ai,Bi,decide_eq_false_iff_not,beq_iff_eq]at hb;obtain⟨⟨⟨h1,h2⟩,h3⟩,h4⟩:=hb;obtain⟨p1,p2,p3,_⟩:=rO h h1;rw[h2]at p1 p2 p3;exact un h.places p2 p3 p1 hw (yz (by decide))
theorem ack_s (K:Nat)(n:aa)(w:au)(h:UpN n)(hw:cr (au.coord w))(hK:1048577<K):Q132.f K (n,w,())=some ((eE K n w,()),()):=by
 simp only[Q132.f,Q132.pre];have hb:pt n w=(!decide ((aa.probe n).1<0)&&(aa.probe n).1==w.2.2.1&&(aa.probe n).2.2.1==w.2.2.2.2.1&&w.2.2.2.2.2.1==w.2.2.1):=rfl;by_cases h1:(aa.probe n).1<0
 ·rw[show decide (n.2.2.2.2.2.2.2.2.2.2.1.1<0)=true from decide_eq_true h1];rw[show eE K n w=n by unfold eE;rw[hb,decide_eq_true h1];rfl];rfl
 ·rw[show decide (n.2.2.2.2.2.2.2.2.2.2.1.1<0)=false from decide_eq_false h1];cases h2:(aa.probe n).1==w.2.2.1 with
  |false =>
   rw[show eE K n w=n by unfold eE;rw[hb,decide_eq_false h1,h2];rfl];rw[show (n.2.2.2.2.2.2.2.2.2.2.1.1 != w.2.2.1)=true by unfold bne;rw[show (n.2.2.2.2.2.2.2.2.2.2.1.1==w.2.2.1)=false from h2];rfl];rfl
  |true =>
   rw[show (n.2.2.2.2.2.2.2.2.2.2.1.1 != w.2.2.1)=false by unfold bne;rw[show (n.2.2.2.2.2.2.2.2.2.2.1.1==w.2.2.1)=true from h2];rfl];cases h3:(aa.probe n).2.2.1==w.2.2.2.2.1 with
   |false =>
    rw[show eE K n w=n by unfold eE;rw[hb,decide_eq_false h1,h2,h3];rfl];rw[show (n.2.2.2.2.2.2.2.2.2.2.1.2.2.1 != w.2.2.2.2.1)=true by unfold bne;rw[show (n.2.2.2.2.2.2.2.2.2.2.1.2.2.1==w.2.2.2.2.1)=false from h3];rfl];rfl
   |true =>
    rw[show (n.2.2.2.2.2.2.2.2.2.2.1.2.2.1 != w.2.2.2.2.1)=false by unfold bne;rw[show (n.2.2.2.2.2.2.2.2.2.2.1.2.2.1==w.2.2.2.2.1)=true from h3];rfl];cases h4:w.2.2.2.2.2.1==w.2.2.1 with
    |false =>
     rw[show eE K n w=n by unfold eE;rw[hb,decide_eq_false h1,h2,h3,h4];rfl];rw[show (w.2.2.2.2.2.1 != w.2.2.1)=true by unfold bne;rw[h4];rfl];rfl
    |true =>
     have hB:pt n w=true:=by rw[hb,decide_eq_false h1,h2,h3,h4];rfl
     rw[show (w.2.2.2.2.2.1 != w.2.2.1)=false by unfold bne;rw[h4];rfl];have hp:=(rO h.x h1).2.2.2;have hn:=h.now1;have hP:=tm h.x hw hB;simp only[cond_false];rw[show wr .i64 (wr .i64 (wr .i64 (n.2.2.2.2.2.1-n.2.2.2.2.2.2.2.2.2.2.1.2.1)*1000)+500)=(b7 n-(aa.probe n).2.1)*1000+500 by
      obtain⟨p1,p2⟩:=hp;show wr .i64 (wr .i64 (wr .i64 (b7 n-(aa.probe n).2.1)*1000)+500)=_;rw[aK (n:=b7 n-_) (by omega) (by omega),aK (n:=_*1000) (by omega) (by omega),aK (by omega) (by omega)]]
     rw[xQ];simp only[AA];refine (congrArg (λo=>AG o _) (yy K (aa.places n) w.2.2.1 (au.coord w) (vM n) n.1 h.x.places hK)).trans ?_;simp only[AA];rw[show eE K n w=oB n ((jA n w).foldl (pq K w) (aa.coord n)) (jA n w) by unfold eE;rw[hB];rfl];show Q132.l0 K (n,w,()) (0,(aa.coord n).1,(aa.coord n).2.1,(aa.coord n).2.2.1,(aa.coord n).2.2.2,jA n w)=_;have hl:=plen hP;refine lO (step:=λrec a=>Q132.l0.step K (n,w,()) rec a) (jA n w) (pq K w) cr (λc i=>((i:Int),c.1,c.2.1,c.2.2.1,c.2.2.2,jA n w)) (λc=>some ((oB n c (jA n w),()),())) (aa.coord n) h.x.coord ?_ ?_ (by omega)
     ·intro rec c i hi hc;refine⟨?_,tk hc hK⟩;simp only[Q132.l0.step];rw[bK (by omega:(i:Int)<(AB (jA n w):Int)),AH,ai hi,av i (by omega)];simp only[cond_true,AA];have htl:=(hP.1 _ (AD hi)).2.2.2.2.1.2;generalize (jA n w)[i]=y at *;unfold pq;cases y.1==w.2.2.1 with
      |false=>rfl
      |true =>
       simp only[cond_true];refine (congrArg (λo=>AG o _) (med_s K y.2.2 (by omega) hK)).trans ?_;refine (congrArg (λo=>AG o _) (vJ K c (au.coord w) (qL K y.2.2) w.2.2.2.2.1 hc hK).1).trans ?_;rfl
     ·intro rec c hc;simp only[Q132.l0.step,bc,cond_false];rfl
theorem zr {K:Nat}{n:aa}{w:au}(h:UpN n)(hw:cr (au.coord w))(hK:1048577<K):UpN (eE K n w)/\(eE K n w).1=n.1/\(eE K n w).2.2.1=n.2.2.1:=by
 unfold eE;cases hb:pt n w with
 |false=>exact⟨h,rfl,rfl⟩
 |true=>exact⟨h.heard (k7 (Inv:=cr) h.x.coord λc p _ hc=>tk hc hK) (tm h.x hw hb),rfl,rfl⟩
def oG (n:aa)(w:au):Prop:=n.2.1=true/\n.2.2.1=false/\w.2.2.2.1=n.1/\w.2.2.1≠n.1 /\
 (if w.1=2 then w.2.1=6/\ap w.2.2.1≠ap n.1/\(bP (au.table w) (ap n.1)\/bP (au.table w) (ap w.2.2.1)) else ap w.2.2.1=ap n.1/\(w.2.1≠6\/¬ bP (au.table w) (ap n.1)))
theorem yA (K:Nat)(n:aa)(w:au)(hw:(au.table w).length<=1048576)(hK:1048577<K):Ret (Q101.f K (n,w,())) (oG n w):=by
 refine (Ret.cndN (P:=¬ n.2.1=true) (b:=!n.2.1) (by simp) λ_=>Ret.cndN (P:=n.2.2.1=true) (b:=n.2.2.1) Iff.rfl λ_=>Ret.cndN (P:=w.2.2.2.1≠n.1) (b:=w.2.2.2.1 != n.1) (by simp) λ_=>Ret.cndN (P:=w.2.2.1=n.1) (b:=w.2.2.1==n.1) (by simp) λ_ =>
  (?_:Ret _ (if w.1=2 then w.2.1=6/\ap w.2.2.1≠ap n.1/\(bP (au.table w) (ap n.1)\/bP (au.table w) (ap w.2.2.1)) else ap w.2.2.1=ap n.1/\(w.2.1≠6\/¬ bP (au.table w) (ap n.1))))).iff ?_
 ·refine Ret.vl (dI K n.1) ?_;obtain⟨b1,e1,h1⟩:=fD K (au.table w) (ap n.1) hw hK;obtain⟨b2,e2,h2⟩:=fD K (au.table w) (ap w.2.2.1) hw hK;by_cases hp:w.1=2
  ·rw[show (w.1==2)=true by simpa using hp,if_pos hp];refine Ret.cnd (P:=w.2.1=6) (b:=w.2.1==6) (by simp) λ_=>?_
   refine Ret.cnd (P:=ap w.2.2.1≠ap n.1) (b:=ap w.2.2.1 != ap n.1) (by simp) λ_=>Ret.vl e1 ?_
   cases b1 with
   |true=>exact Ret.yes (.inl (h1.1 rfl))
   |false =>
    refine Ret.vl e2 ?_;exact Ret.of (b:=b2) (h2.trans ⟨.inr,λh=>h.resolve_left λh=>by have:=h1.2 h;cases this⟩)
  ·rw[show (w.1==2)=false by simpa using hp,if_neg hp];refine Ret.cnd (P:=ap w.2.2.1=ap n.1) (b:=ap w.2.2.1==ap n.1) (by simp) λ_=>?_
   by_cases hk:w.2.1=6
   ·show Ret (bif w.2.1 != 6 then _ else _) _;rw[show (w.2.1 != 6)=false by simpa using hk];refine Ret.vl e1 (Ret.of (b:=!b1) ?_);rw[Bi,<- Bo,h1];exact⟨.inr,λh=>h.resolve_left λh=>h hk⟩
   ·show Ret (bif w.2.1 != 6 then _ else _) _;rw[show (w.2.1 != 6)=true by simpa using hk];exact Ret.yes (.inl hk)
 ·unfold oG;rw[Ao,Bo,Ao]
def qM (kind:Int)(n:aa)(to seq about:Int)(t:List af):au:=(1,kind,n.1,to,seq,about,aa.coord n,t)
theorem oH (K:Nat)(n:aa)(kind to seq about:Int)(t:List af)(ht:t.length<=1048576):Q102.f K (n,kind,to,seq,about,t,())=some ((qM kind n to seq about t,()),()):=by
 simp only[Q102.f];rw[szb _ _ _ (by omega) (by show (AB ([]:List af))+t.length<=_;simp;omega)];rfl
def mI (t:List af)(s:Int):Bool:=t.all λf=>ap f.1==s
theorem lT {t:List af}{s:Int}:mI t s=true<->bP t s:=by simp[mI,bP]
def iB (t:List af):af:=(t.head?).getD (0,0,0,false)
def fb (n:aa)(w:au):List af:=eN (dt (aa.others n) (ap (iB (au.table w)).1)) (au.table w)
def backW (n:aa)(w:au):au:=(2,6,n.1,w.2.2.1,0,n.1,aa.coord n,fb n w)
def sumN (n:aa)(w:au):aa:=setO n (bN (λx:bZ=>x.1) (ap (iB (au.table w)).1,fb n w) (aa.others n))
def fU (n:aa)(w:au):aa×List au:=bif mI (au.table w) (ap n.1) then (ik n (au.table w) n.1,[]) else
 (sumN n w,bif w.1==2&&decide (au.table w≠fb n w) then [backW n w] else [])
theorem oI:∀ {fs t:List af} {g:af},g∈eN t fs->g∈t\/g∈fs
 |[],_,_,h=>.inl h
 |f::fs,t,g,h=>by
  rcases oI (fs:=fs) h with h|h
  ·have h:g∈(b6 t f).1:=h;rcases gh t f with e|e
   ·rw[e]at h;exact .inl h
   ·rw[e]at h;rcases aZ.1 h with rfl|⟨h,_⟩
    ·exact .inr (by simp)
    ·exact .inl h
  ·exact .inr (by simp[h])
theorem oJ:∀ {fs t:List af} {g:af},g∈t->∃ g'∈eN t fs,g'.1=g.1
 |[],_,g,h=>⟨g,h,rfl⟩
 |f::fs,t,g,h=>by
  obtain⟨g1,h1,e1⟩:=lP (f:=f) h;obtain⟨g2,h2,e2⟩:=oJ (fs:=fs) h1;exact⟨g2,h2,e2.trans e1⟩
theorem sJ {t:List af}(hA:Asc (λg:af=>g.1) t)(f:af):∃ g∈(b6 t f).1,g.1=f.1:=by
 by_cases h:∃ g∈t,g.1=f.1
 ·obtain⟨g,hg,e⟩:=h;obtain⟨g',h1,h2⟩:=lP (f:=f) hg;exact⟨g',h1,h2.trans e⟩
 ·rw[ii λg hg e=>h ⟨g,hg,e⟩];exact⟨f,aZ.2 (.inl rfl),rfl⟩
theorem lU {n:aa}{w:au}(h:cl n.1 (aa.others n))(hw:aA (au.table w))(hh:oi (au.table w)):aA (fb n w)/\fb n w≠[]/\bP (fb n w) (ap (iB (au.table w)).1):=by
 have hk:=nK h (ap (iB (au.table w)).1);refine⟨pW hk hw.1,?_,?_⟩
 ·unfold fb;cases ht:au.table w with
  |nil=>rw[ht]at hh;exact hh.elim
  |cons f l =>
   obtain⟨g,h1,_⟩:=sJ (f:=f) (t:=dt (aa.others n) (ap (iB (f::l)).1)) (by rw[ht]at hk;exact hk.2);obtain⟨g',h2,_⟩:=oJ (fs:=l) h1;exact Bd h2
 ·intro g hg;rcases oI hg with hg|hg
  ·rcases jO (l:=aa.others n) (s:=ap (iB (au.table w)).1) with e|⟨x,hx,e1,e⟩
   ·rw[e]at hg;cases hg
   ·rw[e]at hg;rw[<- e1];exact (h.1 x hx).2.2.2.2 g hg
  ·cases ht:au.table w with
   |nil=>rw[ht]at hh;exact hh.elim
   |cons f l =>
    rw[ht]at hh hg;exact hh g hg
theorem tn {x:Int}(h:InP x 0 7):InP (ap x) 0 1:=by
 rw[eC h];obtain⟨h1,h2⟩:=h;constructor <;> omega
theorem xi {t:List af}(hh:oi t)(ht:aA t):InP (iB t).1 0 7:=by
 cases t with
 |nil=>exact hh.elim
 |cons f l=>exact (ht.1 f (by simp)).1
theorem vN (K:Nat)(n:aa)(w:au)(h:UpN n)(hw:aA (au.table w))(hh:oi (au.table w))(hK:1048577<K):Q115.f K (n,w,())=some (((fU n w).1,(fU n w).2,()),()):=by
 simp only[Q115.f];rw[dI K n.1];simp only[AA];obtain⟨b1,e1,h1⟩:=fD K (au.table w) (ap n.1) (cD hw) hK;have hb:mI (au.table w) (ap n.1)=b1:=by rw[BE,lT,h1]
 unfold fU;rw[hb];refine (congrArg (λo=>AG o _) e1).trans ?_;simp only[rb,AA];cases b1 with
 |true =>
  simp only[cond_true];refine (congrArg (λo=>AG o _) (tg K n (au.table w) n.1 h.learns hw.1 (cD hw) h.x.me hK)).trans rfl
 |false =>
  simp only[cond_false];obtain⟨a1,a2,a3⟩:=lU (n:=n) h.x.others hw hh;have hidx:idx (au.table w) 0=some (iB (au.table w)):=by
   cases ht:au.table w with
   |nil=>rw[ht]at hh;exact hh.elim
   |cons f l=>rfl
  refine (congrArg (λo=>AG o _) hidx).trans ?_;simp only[AA];rw[dI K];simp only[AA];refine (congrArg (λo=>AG o _) (vL K n (ap (iB (au.table w)).1) (au.table w) h.x.others hw hK)).trans ?_;simp only[AA];refine (congrArg (λo=>AG o _) (sum_s K n (ap (iB (au.table w)).1) (fb n w) h.x.others hK)).trans ?_;simp only[AA];cases w.1==2 with
  |false=>rfl
  |true =>
   simp only[cond_true,Ap];refine (congrArg (λo=>AG o _) (xh K (au.table w) (fb n w) (cD hw) hK)).trans ?_;simp only[rb,AA];cases decide (au.table w≠fb n w) with
   |false=>rfl
   |true =>
    simp only[cond_true];refine (congrArg (λo=>AG o _) (oH K (sumN n w) 6 w.2.2.1 0 n.1 (fb n w) (cD a1))).trans rfl
theorem ur {n:aa}{w:au}(h:UpN n)(hg:n.2.2.1=false)(hw:aA (au.table w))(hh:oi (au.table w)):UpN (fU n w).1/\(fU n w).1.1=n.1/\(fU n w).1.2.2.1=false:=by
 unfold fU;cases hb:mI (au.table w) (ap n.1) with
 |true=>exact li h hg hw (lT.1 hb) (eP.me h.x.me)
 |false =>
  obtain⟨a1,a2,a3⟩:=lU (n:=n) h.x.others hw hh;refine⟨h.setOthers (um h.x.others (tn (xi hh hw)) (λe=>?_) a2 a1 a3),rfl,hg⟩;have:bP (au.table w) (ap n.1):=by
   cases ht:au.table w with
   |nil=>rw[ht]at hh;exact hh.elim
   |cons f l=>rw[ht]at hh e;rw[<- e];exact hh
  rw[lT.2 this]at hb;cases hb
noncomputable def fa (K:Nat)(n:aa)(w:au):aa×List au :=
 bif w.2.1==1 then (bif ap w.2.2.2.2.2.1 != ap n.1 then (n,[]) else bif w.2.2.2.2.2.1==n.1 then (n,[]) else (jz n,[qM 2 (jz n) w.2.2.2.2.2.1 w.2.2.2.2.1 n.1 (jy n w.2.2.2.2.2.1)]))
 else bif w.2.1==3 then (bif ap w.2.2.2.2.2.1 != ap n.1 then (n,[]) else bif w.2.2.2.2.2.1==n.1 then (n,[]) else bif w.2.2.2.2.2.1==w.2.2.1 then (n,[]) else (jz n,[qM 1 (jz n) w.2.2.2.2.2.1 w.2.2.2.2.1 w.2.2.1 (jy n w.2.2.2.2.2.1)]))
 else bif w.2.1==4 then (n,[qM 5 n w.2.2.1 0 n.1 (aa.table n)]) else bif w.2.1==2 then (eE K n w,[]) else (n,[])
theorem xj (K:Nat)(n:aa)(w:au)(h:UpN n)(hw:cr (au.coord w))(hK:1048577<K):Q133.f K (n,w,())=some (((fa K n w).1,(fa K n w).2,()),()):=by
 simp only[Q133.f];rw[dI K n.1];simp only[AA];have hf:=th K n w.2.2.2.2.2.1 h.x.say hK;have ht:=cD (mF h.x.say w.2.2.2.2.2.1);unfold fa;cases w.2.1==1 with
 |true =>
  simp only[cond_true];rw[dI K];simp only[AA];cases ap w.2.2.2.2.2.1 != ap n.1 with
  |true=>rfl
  |false =>
   simp only[cond_false];cases w.2.2.2.2.2.1==n.1 with
   |true=>rfl
   |false =>
    simp only[cond_false];refine (congrArg (λo=>AG o _) hf).trans ?_;simp only[AA];refine (congrArg (λo=>AG o _) (oH K (jz n) 2 w.2.2.2.2.2.1 w.2.2.2.2.1 n.1 _ ht)).trans rfl
 |false =>
  simp only[cond_false];cases w.2.1==3 with
  |true =>
   simp only[cond_true];rw[dI K];simp only[AA];cases ap w.2.2.2.2.2.1 != ap n.1 with
   |true=>rfl
   |false =>
    simp only[cond_false];cases w.2.2.2.2.2.1==n.1 with
    |true=>rfl
    |false =>
     simp only[cond_false];cases w.2.2.2.2.2.1==w.2.2.1 with
     |true=>rfl
     |false =>
      simp only[cond_false];refine (congrArg (λo=>AG o _) hf).trans ?_;simp only[AA];refine (congrArg (λo=>AG o _) (oH K (jz n) 1 w.2.2.2.2.2.1 w.2.2.2.2.1 w.2.2.1 _ ht)).trans rfl
  |false =>
   simp only[cond_false];cases w.2.1==4 with
   |true=>exact (congrArg (λo=>AG o _) (oH K n 5 w.2.2.1 0 n.1 (aa.table n) (cD h.x.table))).trans rfl
   |false =>
    simp only[cond_false];cases w.2.1==2 with
    |true=>exact (congrArg (λo=>AG o _) (ack_s K n w h hw hK)).trans rfl
    |false=>rfl
theorem vO {K:Nat}{n:aa}{w:au}(h:UpN n)(hw:cr (au.coord w))(hK:1048577<K):UpN (fa K n w).1/\(fa K n w).1.1=n.1/\(fa K n w).1.2.2.1=n.2.2.1:=by
 unfold fa;cases w.2.1==1 <;> cases w.2.1==3 <;> cases w.2.1==4 <;> cases w.2.1==2 <;> cases ap w.2.2.2.2.2.1 != ap n.1 <;> cases w.2.2.2.2.2.1==n.1 <;> cases w.2.2.2.2.2.1==w.2.2.1 <;> first|exact⟨h,rfl,rfl⟩|exact⟨h.way,rfl,rfl⟩|exact zr h hw hK
open Classical in
noncomputable def di (K:Nat)(n:aa)(w:au):aa×List au :=
 if gS w/\oG n w then (if w.2.1=6 then fU n w else fa K (ik n (au.table w) w.2.2.1) w) else (n,[])
theorem lj {n:aa}{w:au}(hW:gS w)(h:oG n w)(hk:w.2.1≠6):bP (au.table w) (ap n.1)/\eP n w.2.2.1:=by
 obtain⟨_,_,w3,_,_,_,_,_,w9⟩:=hW;rw[if_neg hk]at w9;obtain⟨_,_,_,_,h5⟩:=h;by_cases hp:w.1=2
 ·rw[if_pos hp]at h5;exact absurd h5.1 hk
 ·rw[if_neg hp]at h5;exact⟨h5.1 ▸ w9,w3,h5.1⟩
theorem zt (K:Nat)(n:aa)(w:au)(h:n.2.1=true->UpN n)(hw:(au.table w).length<=1048576)(hK:1048577<K):Q134.f K (n,w,())=some (((di K n w).1,(di K n w).2,()),()):=by
 simp only[Q134.f];obtain⟨b1,e1,h1⟩:=rm K w hw hK;obtain⟨b2,e2,h2⟩:=yA K n w hw hK;rw[e1];cases b1 with
 |false =>
  unfold di;rw[if_neg λh=>by have:=h1.2 h.1;cases this];rfl
 |true =>
  have hW:=h1.1 rfl;simp only[rb,AA,AK,cond_false];refine (congrArg (λo=>AG o _) e2).trans ?_;cases b2 with
  |false =>
   unfold di;rw[if_neg λh=>by have:=h2.2 h.2;cases this];rfl
  |true =>
   have hT:=h2.1 rfl;have hu:=h hT.1;simp only[rb,AA,AK,cond_false];unfold di;rw[if_pos ⟨hW,hT⟩];have hWt:=hW.2.2.2.2.2.2.2.1;by_cases hk:w.2.1=6
   ·rw[if_pos hk,show (w.2.1==6)=true by simpa using hk];have hh:=hW.2.2.2.2.2.2.2.2;rw[if_pos hk]at hh;exact (congrArg (λo=>AG o _) (vN K n w hu hWt hh hK)).trans rfl
   ·rw[if_neg hk,show (w.2.1==6)=false by simpa using hk];obtain⟨hs,hb⟩:=lj hW hT hk;have hl:=(li hu hT.2.1 hWt hs hb).1;refine (congrArg (λo=>AG o _) (tg K n (au.table w) w.2.2.1 hu.learns hWt.1 hw hb.1 hK)).trans ?_;exact (congrArg (λo=>AG o _) (xj K _ w hl hW.2.2.2.2.2.2.1 hK)).trans rfl
theorem tp {K:Nat}{n:aa}{w:au}(h:UpN n)(hK:1048577<K):UpN (di K n w).1/\(di K n w).1.1=n.1/\(di K n w).1.2.2.1=n.2.2.1:=by
 unfold di;split
 ·rename_i hc;obtain⟨hW,hT⟩:=hc;have hWt:=hW.2.2.2.2.2.2.2.1;split
  ·rename_i hk;have hh:=hW.2.2.2.2.2.2.2.2;rw[if_pos hk]at hh;rw[hT.2.1];exact ur h hT.2.1 hWt hh
  ·rename_i hk;obtain⟨hs,hb⟩:=lj hW hT hk;have hl:=li h hT.2.1 hWt hs hb;have ha:=vO (w:=w) hl.1 hW.2.2.2.2.2.2.1 hK;exact⟨ha.1,ha.2.1.trans hl.2.1,ha.2.2.trans (hl.2.2.trans hT.2.1.symm)⟩
 ·exact⟨h,rfl,rfl⟩
theorem oK {K:Nat}{n:aa}{w:au}(h:UpN n)(hK:1048577<K):(di K n w).2.length<=1/\∀ x∈(di K n w).2,InP x.2.2.2.1 0 7/\(au.table x).length<=1048576:=by
 unfold di;split
 ·rename_i hc;obtain⟨hW,hT⟩:=hc;have hWt:=hW.2.2.2.2.2.2.2.1;split
  ·rename_i hk;have hh:=hW.2.2.2.2.2.2.2.2;rw[if_pos hk]at hh;obtain⟨a1,a2,a3⟩:=lU (n:=n) h.x.others hWt hh;unfold fU;cases mI (au.table w) (ap n.1) with
   |true=>exact⟨by simp,by simp⟩
   |false =>
    simp only[cond_false];cases w.1==2&&decide (au.table w≠fb n w) with
    |false=>exact⟨by simp,by simp⟩
    |true=>exact⟨by simp,λx hx=>by rw[AS.1 hx];exact⟨hW.2.2.1,cD a1⟩⟩
  ·rename_i hk;obtain⟨hs,hb⟩:=lj hW hT hk;have hl:=li h hT.2.1 hWt hs hb;have ht:=cD (mF hl.1.x.say w.2.2.2.2.2.1);have htt:=cD hl.1.x.table;have w3:=hW.2.2.1;have w6:=hW.2.2.2.2.2.1;generalize ik n (au.table w) w.2.2.1=m at *;unfold fa;cases w.2.1==1 <;> cases w.2.1==3 <;> cases w.2.1==4 <;> cases w.2.1==2 <;> cases ap w.2.2.2.2.2.1 != ap m.1 <;> cases w.2.2.2.2.2.1==m.1 <;> cases w.2.2.2.2.2.1==w.2.2.1 <;>
    first|exact⟨AY _,λx hx=>by rw[AS.1 hx];exact⟨w6,ht⟩⟩|exact⟨AY _,λx hx=>by rw[AS.1 hx];exact⟨w3,htt⟩⟩|exact⟨Al _,λx hx=>nomatch hx⟩
 ·exact⟨by simp,by simp⟩
theorem sK {n:aa}(h:∀ k,k<8->¬ gl n k):gX n=none:=by
 unfold gX;rw[BI];intro x hx;obtain⟨k,hk,rfl⟩:=AR.1 hx;have:=h k (by simpa using hk);unfold gl at this;simpa using this
theorem sL {n:aa}{k:Nat}(hk:k<8)(hc:gl n k)(h:∀ j,j<k->¬ gl n j):gX n=some (ct n k):=by
 unfold gX;rw[List.find?_map,List.find?_range_eq_some.2 ⟨?_,by simpa using hk,λj hj=>?_⟩]
 ·rfl
 ·unfold gl at hc;simpa using hc
 ·have:=h j hj;unfold gl at this;simpa[Classical.or_iff_not_imp_left]using this
theorem tq (K:Nat)(n:aa)(h:cI n)(hq:rH n)(hK:1048577<K):Q145.f K (n,())=some (((dy n).1,(dy n).2,()),()):=by
 obtain⟨⟨q0,q1⟩,⟨t0,t1⟩⟩:=hq;obtain⟨to,es,hto⟩:=ym K n h t0 t1 hK;simp only[Q145.f];rw[es];simp only[AA,dy];by_cases hmax:iP n>=999999
 ·rw[decide_eq_true hmax,show decide (n.2.2.2.2.2.2.1>=999999)=true from decide_eq_true hmax];cases decide (to<0) <;> rfl
 ·rw[decide_eq_false hmax,show decide (n.2.2.2.2.2.2.1>=999999)=false from decide_eq_false hmax];simp only[cond_false];rcases hto with ⟨rfl,hno⟩|⟨k,hk,hkc,hkf,rfl⟩
  ·rw[sK hno];rfl
  ·rw[sL hk hkc hkf];have hk0:0<=ct n k/\ct n k<8:=⟨BW _ (by omega),BK _ (by omega)⟩;rw[decide_eq_false (by omega:¬ ct n k<0)];simp only[cond_false];rw[th K n _ h hK];simp only[AA];have hwr:wr .i64 (iP n+1)=iP n+1:=aK (by omega) (by omega);rw[show wr .i64 ((jz n).2.2.2.2.2.2.1+1)=n.2.2.2.2.2.2.1+1 from hwr,aK (n:=ct n k+1) (by omega) (by omega)];simp only[Q102.f];rw[szb _ _ _ (by omega) (by have:=cD (mF h (ct n k));simp;omega)];rfl
def gm (w:au):Prop:=InP w.2.2.2.1 0 7/\(au.table w).length<=1048576
theorem rP {n:aa}(hT:aA (aa.table n)):(cX n).2.length<=2/\∀ w∈(cX n).2,gm w:=by
 have nope:([]:List au).length<=2/\∀ w∈([]:List au),gm w:=⟨by simp,by simp⟩;unfold cX;cases (aa.probe n).1==-1 with
 |true=>exact nope
 |false =>
  cases !d4 (aX (aa.table n) (aa.probe n).1) with
  |true=>exact nope
  |false =>
   cases decide (n.2.2.2.2.2.1-(aa.probe n).2.1>=4) with
   |true=>exact nope
   |false =>
    cases decide (n.2.2.2.2.2.1-(aa.probe n).2.1>=2) with
    |false=>exact nope
    |true =>
     cases !(aa.probe n).2.2.2 with
     |false=>exact nope
     |true =>
      simp only[cond_true,cond_false];refine⟨by rw[AW];exact BF _ _,λw hw=>?_⟩;obtain⟨to,hto,rfl⟩:=AR.1 hw;obtain⟨f,hf,rfl⟩:=AR.1 (BX hto);exact⟨(hT.1 f (AF.1 hf).1).1,Al _⟩
theorem xR {n:aa}(h:cI n):(dy n).2.length<=1/\∀ w∈(dy n).2,gm w:=by
 have nope:([]:List au).length<=1/\∀ w∈([]:List au),gm w:=⟨by simp,by simp⟩;unfold dy;cases decide (iP n>=999999) with
 |true=>exact nope
 |false =>
  simp only[cond_false];cases hx:gX n with
  |none=>exact nope
  |some to =>
   refine⟨by simp,λw hw=>?_⟩;rw[AS.1 hw];obtain⟨g1,g2,g3⟩:=eu h.table (gi (p6 hx).2);exact⟨g2 ▸ g1.1,cD (mF h to)⟩
theorem zu {n:aa}(hO:cl n.1 (aa.others n)){s d:Int}(hs:InP s 0 1):InP (lg n s d) 0 7:=by
 unfold lg;cases hc:decide (eY (dt (aa.others n) s)≠[])&&be .i64 d 4==0 with
 |true =>
  rw[Ai,decide_eq_true_eq]at hc;have:=(gz (d:=AZ d (2 ^ 3)) hc.1).2.2;unfold eY at this;obtain⟨f,hf,e⟩:=AR.1 (BX this);simp only[cond_true];show InP (fT (eY (dt (aa.others n) s)) (AZ d (2 ^ 3))) 0 7;unfold eY;rw[<- e];exact ((nK hO s).1 f (AF.1 hf).1).1
 |false =>
  obtain⟨b0,b1⟩:=kG (a:=AZ d (2 ^ 3)) (m:=3) (by omega);have b0:0<=be .i64 (AZ d (2 ^ 3)) 3:=b0;have b1:be .i64 (AZ d (2 ^ 3)) 3<=3:=b1;obtain⟨s0,s1⟩:=hs;simp only[cond_false];exact⟨by omega,by omega⟩
theorem tr {n:aa}(hT:aA (aa.table n))(hO:cl n.1 (aa.others n))(draw:Int):(jg n draw).length<=2/\∀ w∈jg n draw,gm w:=by
 have nope:([]:List au).length<=2/\∀ w∈([]:List au),gm w:=⟨by simp,by simp⟩;unfold jg;cases be .i64 draw 3==1 with
 |true =>
  simp only[cond_true,lh];cases kH n with
  |false=>exact nope
  |true =>
   refine⟨?_,λw hw=>?_⟩
   ·show ((([0,1]:List Int).filter (λs=>s != ap n.1)).map _).length<=2;rw[AW];exact Az _ _
   ·obtain⟨s,hs,rfl⟩:=AR.1 hw;refine⟨zu hO ?_,cD hT⟩;have:=(AF.1 hs).1;simp at this;rcases this with rfl|rfl <;> exact⟨by decide,by decide⟩
 |false =>
  simp only[cond_false];by_cases hth:eO n=[]
  ·rw[decide_eq_true hth,Bg];exact nope
  ·rw[decide_eq_false hth,Bt];obtain⟨f,hf,e⟩:=AR.1 (gz (d:=AZ draw (2 ^ 2)) hth).2.2;have hto:InP (fT (eO n) (AZ draw (2 ^ 2))) 0 7:=by
    rw[<- e];exact (hT.1 f (AF.1 hf).1).1
   cases be .i64 draw 3==3 with
   |true=>exact nope
   |false =>
    simp only[cond_false];cases be .i64 draw 3==0 with
    |true=>exact⟨by simp,λw hw=>by rw[AS.1 hw];exact⟨hto,cD hT⟩⟩
    |false =>
     simp only[cond_false,rG]
     match ho:aa.others n with
     |[]=>exact nope
     |x::_=>exact⟨by simp,λw hw=>by rw[AS.1 hw];exact⟨hto,cD (hO.1 x (by rw[ho];simp)).2.2.2.1⟩⟩
theorem UpX.far {n:aa}(h:UpX n):qK n:=⟨by rcases gW h.me h.others with e|⟨x,e⟩ <;> rw[e] <;> simp,λx hx=>⟨(h.others.1 x hx).2.2.2.1,cD (h.others.1 x hx).2.2.2.1⟩⟩
theorem qa {n:aa}(h:UpX n)(hn:b7 n<=1000000):((aa.probe n).1=-1\/0<=(aa.probe n).1)/\0<=(aa.probe n).2.1/\(aa.probe n).2.1<=1000000:=by
 have hPr:=h.probe;have hnn:b7 n=n.2.2.2.2.2.1:=rfl;unfold cM at hPr;split at hPr
 ·rename_i h1;rw[hPr];exact⟨.inl rfl,by show (0:Int)<=0;omega,by show (0:Int)<=1000000;omega⟩
 ·obtain⟨_,⟨f,hf,e⟩,⟨s0,s1⟩,_⟩:=hPr;have:=(h.table.1 f hf).1.1;exact⟨.inr (e ▸ this),s0,by omega⟩
theorem zv {n:aa}(h:UpN n)(hm:b7 n<999999)(draw:Int):(oz n draw).length<=5/\∀ w∈oz n draw,gm w:=by
 have hT:=(lR h.x.later (show cP (dK n) from h.self)).1.table;obtain⟨f1,f2⟩:=rP hT;obtain⟨h1,_,_⟩:=oA h hm;have h2:=(pm h hm).1;obtain⟨d1,d2⟩:=tr h2.x.table h2.x.others draw;have ha:(eQ (eR n).1).2.length<=1/\∀ w∈(eQ (eR n).1).2,gm w:=by
  unfold eQ;cases (aa.probe (eR n).1).1==-1 with
  |true=>exact xR h1.x.say
  |false=>exact⟨by simp,by simp⟩
 unfold oz;have f1:(eR n).2.length<=2:=f1;refine⟨by rw[AJ,AJ];omega,λw hw=>?_⟩;rcases Af.1 hw with hw|hw
 ·rcases Af.1 hw with hw|hw
  ·exact f2 w hw
  ·exact ha.2 w hw
 ·exact d2 w hw
theorem zw (K:Nat)(n:aa)(draw:Int)(h:UpN n)(hg:n.2.2.1=false)(hm:b7 n<999999)(hK:1048577<K):Q152.f K (n,draw,())=some ((jZ n,oz n draw,()),()):=by
 have hn0:=h.x.now0;simp only[Q152.f];refine (congrArg (λb=>bif !b then _ else _) h.up).trans ?_;refine (congrArg (λb=>bif b then _ else _) hg).trans ?_;refine (congrArg (λb=>bif b then _ else _) (decide_eq_false (show ¬ n.2.2.2.2.2.1>=999999 by have:b7 n=n.2.2.2.2.2.1:=rfl;omega))).trans ?_;simp only[cond_false];rw[show wr .i64 (n.2.2.2.2.2.1+1)=n.2.2.2.2.2.1+1 from aK (by have:b7 n=n.2.2.2.2.2.1:=rfl;omega) (by have:b7 n=n.2.2.2.2.2.1:=rfl;omega)];have hl:UpX (dK n):=h.x.later;have hdd:∀ d∈aa.doubts (dK n),0<=d.2.2.1/\d.2.2.1<=(dK n).2.2.2.2.2.1/\d.2.2.2.length<=1048576:=λd hd=>by
  obtain⟨_,⟨s0,s1⟩,_,h4⟩:=hl.doubts.1 d hd;exact⟨s0,s1,Ag (gT (k:=λx=>x) h4.2 λx hx=>(h4.1 x hx).1) (by decide)⟩
 have hkey:∀ d∈aa.doubts (dK n),∃ f∈aa.table (dK n),f.1=d.1:=λd hd=>by
  obtain⟨⟨f,hf,e,_⟩,_⟩:=hl.doubts.1 d hd;exact⟨f,hf,e⟩
 have hnow:(dK n).2.2.2.2.2.1<=1000000:=by show b7 n+1<=1000000;omega
 refine (congrArg (λo=>AG o _) (ze K (dK n) ⟨hl.say,hkey,rfl⟩ hdd hnow hK)).trans ?_;simp only[AA];obtain⟨b1,b2,t,c,ds,eb⟩:=lR hl (show cP (dK n) from h.self);have hseq:rH (eR n).1:=(oA h hm).1.seq;have hmnow:b7 (ju (dK n))=b7 n+1:=by rw[eb];rfl
 have hp:=qa b1 (by omega);obtain⟨fw1,_⟩:=rP b1.table;have h2:=(pm h hm).1;have hmore:=zm K (jZ n) draw h2.x.far h2.x.table (cD h2.x.table) hK;have hmid:=(oA h hm).1;obtain⟨aw1,_⟩:=xR hmid.x.say;obtain⟨dw1,_⟩:=tr h2.x.table h2.x.others draw;unfold jZ eQ eR at hmore h2 dw1;unfold eR at hseq hmid aw1;unfold oz jZ eQ eR;generalize ju (dK n)=m at *;rcases hp.1 with hp1|hp1
 ·have e0:cX m=(m,[]):=by unfold cX;rw[show ((aa.probe m).1==-1)=true by simpa using hp1];rfl
  rw[e0]at hmore hseq hmid aw1 dw1 ⊢;refine (congrArg (λb=>bif b then _ else _) (decide_eq_false (show ¬ m.2.2.2.2.2.2.2.2.2.2.1.1>=0 by have:(aa.probe m).1=m.2.2.2.2.2.2.2.2.2.2.1.1:=rfl;omega))).trans ?_;refine (congrArg (λb=>bif b then _ else _) (decide_eq_true (show m.2.2.2.2.2.2.2.2.2.2.1.1<0 by have:(aa.probe m).1=m.2.2.2.2.2.2.2.2.2.2.1.1:=rfl;omega))).trans ?_;refine (congrArg (λo=>AG o _) (tq K m hmid.x.say hseq hK)).trans ?_;simp only[AA];rw[show ((aa.probe m).1==-1)=true by simpa using hp1]at hmore dw1 ⊢;simp only[cond_true]at hmore dw1 aw1 ⊢;rw[szw _ _ _ (by omega) (by simp;omega)];simp only[cond_true];refine (congrArg (λo=>AG o _) hmore).trans ?_;simp only[AA];rw[szw _ _ _ (by omega) (by simp;omega)];rfl
 ·refine (congrArg (λb=>bif b then _ else _) (decide_eq_true (show m.2.2.2.2.2.2.2.2.2.2.1.1>=0 from hp1))).trans ?_;refine (congrArg (λo=>AG o _) (zf K m b1.say (by omega) hp.2.1 hp.2.2 b1.now0 (by have:b7 m=m.2.2.2.2.2.1:=rfl;omega) hK)).trans ?_;simp only[AA];generalize cX m=fo at *;obtain⟨m2,ws⟩:=fo;simp only at hmore hseq hmid aw1 dw1 fw1 ⊢;have hp2:=(qa hmid.x (by have:=hmid.now1;omega)).1;rcases hp2 with hp2|hp2
  ·refine (congrArg (λb=>bif b then _ else _) (decide_eq_true (show m2.2.2.2.2.2.2.2.2.2.2.1.1<0 by have:(aa.probe m2).1=m2.2.2.2.2.2.2.2.2.2.2.1.1:=rfl;omega))).trans ?_;refine (congrArg (λo=>AG o _) (tq K m2 hmid.x.say hseq hK)).trans ?_;simp only[AA];rw[show ((aa.probe m2).1==-1)=true by simpa using hp2]at hmore dw1 ⊢;simp only[cond_true]at hmore dw1 ⊢;rw[szw _ _ _ (by omega) (by omega)];simp only[cond_true];refine (congrArg (λo=>AG o _) hmore).trans ?_;simp only[AA];rw[szw _ _ _ (by omega) (by rw[AJ];omega)];rfl
  ·refine (congrArg (λb=>bif b then _ else _) (decide_eq_false (show ¬ m2.2.2.2.2.2.2.2.2.2.2.1.1<0 by have:(aa.probe m2).1=m2.2.2.2.2.2.2.2.2.2.2.1.1:=rfl;omega))).trans ?_;rw[show ((aa.probe m2).1==-1)=false by simp;omega]at hmore dw1 ⊢;simp only[cond_false]at hmore dw1 ⊢;refine (congrArg (λo=>AG o _) hmore).trans ?_;simp only[AA,AL];rw[szw _ _ _ (by omega) (by omega)];rfl
end Go.Proofs.YtmcbmojdeikcdaaGreatEv
