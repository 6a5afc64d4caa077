/- What a node hears, by the specification: what it comes to. -/
import Derived.Test.YtaegajachoklkaaGreatP2
import Derived.Test.YtaegajachoklkaaGreatP1
set_option linter.unusedVariables false
set_option linter.unusedSimpArgs false
open Bool renaming not_true->BR,not_false->CF,not_eq_true'->CZ,and_eq_true->Cb,not_eq_true->Cc
open Classical renaming not_not->CP
open Int renaming toNat->BP,toNat_natCast->BQ,eq_ofNat_of_zero_le->B7,toNat_zero->CG,tmod->CH,le_refl->CQ,fdiv->CS,toNat_of_nonneg->CW,tmod_lt_of_pos->CY,tmod_nonneg->Cf
open List renaming length->BL,mem_singleton->BO,getElem_mem->BS,length_append->BT,mem_append->BU,drop_eq_getElem_cons->BW,nil_append->BX,length_set->BY,mem_map->B3,filter_eq_self->B4,getElem_of_mem->B5,length_take->B6,filter_eq_nil_iff->B8,drop_zero->B9,mem_of_mem_take->CA,getElem?_eq_getElem->CB,length_map->CC,mem_filter->CD,length_nil->CE,length_filter_le->CI,take_length->CJ,eq_nil_of_length_eq_zero->CL,append_nil->CM,pairwise_cons->CN,take_add_one->CO,filter_cons->CR,length_drop->CT,length_take_le->CV,filter_append->CX,length_cons->Cd,not_mem_nil->Ce,mem_cons->Cg
open Nat renaming le_succ_of_le->BM,le_trans->BV,zero_le->BZ,le_refl->CK,le_succ->CU
open Option renaming bind_some->BK,bind->BN
open Option.some renaming injEq->Ca
open Prod.mk renaming injEq->Ch
namespace Go.Proofs.YtaegajachoklkaaGreatEv
open Go
theorem rq {α A R:Type}(k:α->Int)(x:α)(t:List α)(hA:Asc k t)(S0 S1:List α->Nat->A)(I:List α->Option R){step:(A->Option R)->A->Option R}
  (h0:∀ (rec:A->Option R) (r:List α) (i:Nat) (O:i<t.length),r.length=i->(∀ y∈t.take i,k y<k x)->step rec (S0 r i)=if k t[i]<k x then rec (S0 (r++[t[i]]) (i+1)) else if k t[i]=k x then rec (S1 (r++[x]) (i+1)) else rec (S1 (r++[x]++[t[i]]) (i+1)))
  (h1:∀ (rec:A->Option R) (r:List α) (i:Nat) (O:i<t.length),r.length<=i+1->k x<k t[i]->step rec (S1 r i)=rec (S1 (r++[t[i]]) (i+1)))
  (e0:∀ (rec:A->Option R) (r:List α),r.length=t.length->(∀ y∈t,k y<k x)->step rec (S0 r t.length)=I (r++[x]))
  (e1:∀ (rec:A->Option R) (r:List α),r.length<=t.length+1->step rec (S1 r t.length)=I r) {K:Nat} (Z:t.length<K):ae step K (S0 [] 0)=I (bE k x t):=by
 have r1:∀ (n i K:Nat) (r:List α),i+n=t.length->n<K->r.length<=i+1->(∀ y∈t.drop i,k x<k y)->ae step K (S1 r i)=I (r++t.drop i):=by
  intro n;induction n with
  |zero =>
   intro i K r O Z M _;obtain⟨K,rfl⟩:∃ X,K=X+1:=⟨K-1,by omega⟩;have:i=t.length:=by omega
   subst this;show step (ae step K) _=_;rw[e1 _ _ M,List.drop_length,CM]
  |succ n ih =>
   intro i K r O Z M hg;obtain⟨K,rfl⟩:∃ X,K=X+1:=⟨K-1,by omega⟩;have u:i<t.length:=by omega
   rw[BW u]at hg;show step (ae step K) _=_;rw[h1 _ _ _ u M (hg _ (.head _)),ih (i+1) K _ (by omega) (by omega) (by simp;omega) (λy z=>hg y (.tail _ z)),BW u];simp
 have H:∀ i (O:i<t.length),∀ y∈t.drop (i+1),k t[i]<k y:=λi O y z=>by
  have:=List.Pairwise.drop (i:=i) hA;rw[BW O]at this;exact (CN.1 this).1 y z
 have r0:∀ (n i K:Nat) (r:List α),i+n=t.length->n<K->r=t.take i->(∀ y∈t.take i,k y<k x)->ae step K (S0 r i)=I (bE k x t):=by
  intro n;induction n with
  |zero =>
   intro i K r O Z M J;obtain⟨K,rfl⟩:∃ X,K=X+1:=⟨K-1,by omega⟩;have:i=t.length:=by omega
   subst this;rw[CJ]at M J;subst M;show step (ae step K) _=_;rw[e0 _ _ rfl J];unfold bE;rw[B4.2 (by simpa using J),B8.2 (λy z=>by have:=J y z;simp;omega)]
  |succ n ih =>
   intro i K r O Z M J;obtain⟨K,rfl⟩:∃ X,K=X+1:=⟨K-1,by omega⟩;have u:i<t.length:=by omega
   subst M;have a0:(t.take i).length=i:=by rw[B6];omega
   show step (ae step K) _=_;rw[h0 _ _ _ u a0 J];have Y:k x<=k t[i]->bE k x t=t.take i++x::(t.drop i).filter (λy=>decide (k x<k y)):=λhc=>by
    unfold bE;conv=>lhs;rw[<- List.take_append_drop i t]
    rw[CX,CX,B4.2 (by simpa using J),(B8 (l:=t.take i)).2 (λy z=>by have:=J y z;simp;omega),BX];rw[BW u,CR,if_neg (by simp;omega),B8.2 (λy z=>by have:=H i u y z;simp;omega),CM]
   by_cases hc:k t[i]<k x
   ·rw[if_pos hc];refine ih (i+1) K _ (by omega) (by omega) (by rw[CO,CB u];rfl) λy z=>?_
    rw[CO,CB u]at z;rcases BU.1 z with z|z
    ·exact J y z
    ·simp at z;rw[z];exact hc
   ·rw[if_neg hc,Y (by omega),BW u];by_cases he:k t[i]=k x
    ·rw[if_pos he,r1 n (i+1) K _ (by omega) (by omega) (by simp;omega) (λy z=>by have:=H i u y z;omega),CR,if_neg (by simp;omega),B4.2 (λy z=>by have:=H i u y z;simp;omega)];simp
    ·rw[if_neg he,r1 n (i+1) K _ (by omega) (by omega) (by simp;omega) (λy z=>by have:=H i u y z;omega),CR,if_pos (by simp;omega),B4.2 (λy z=>by have:=H i u y z;simp;omega)];simp
 exact r0 t.length 0 K [] (by omega) Z rfl (by simp)
theorem xM {t:List ag}{f:ag}(h:∀ g∈t,g.1<f.1):(bS t f).1=t++[f]:=by
 rw[ip (λg u e=>by have:=h g u;omega)];unfold bE;rw[B4.2 (by simpa using h),B8.2 (λy r=>by have:=h y r;simp;omega)]
theorem pS:∀ {fs t:List ag},Asc (λf:ag=>f.1) fs->(∀ g∈t,∀ f∈fs,g.1<f.1)->fE t fs=t++fs
 |[],t,_,_=>by simp[fE]
 |f::fs,t,y,h=>by
  show fE (bS t f).1 fs=_;rw[xM (λg r=>h g r f (by simp)),pS (CN.1 y).2 ?_]
  ·simp
  ·intro g r e u;rcases BU.1 r with r|r
   ·exact h g r e (by simp[u])
   ·rw[BO.1 r];exact (CN.1 y).1 e u
theorem wa {fs:List ag}(h:ax fs):fE [] fs=fs:=by
 rw[pS h.2 (by simp)];rfl
theorem Au (K:Nat)(a b:List ag)(u:ax a)(r:ax b)(y:1048577<K):Q164.f K (a,b,())=some ((fE a b,()),()):=by
 simp only[Q164.f,Q164.pre];obtain⟨X,J,M⟩:=gr K a (cq u) y;obtain⟨R,I,H⟩:=gr K b (cq r) y;have:=cq u;have:=cq r;rw[J,I,M.2 u,H.2 r];simp only[BK,BR,cond_false];rw[szb _ _ _ (by omega) (by show (BL ([]:List ag))+a.length<=_;simp;omega)];simp only[cond_true,BX];refine ur a b u r.1 (step:=λrec x=>Q164.s0 K (a,b,()) rec x) (λt=>some ((t,()),())) ?_ ?_ (by omega)
 ·intro rec t i O z;simp only[Q164.s0];rw[bk (by omega:(i:Int)<(BL b:Int)),af O,ar i (by omega)];simp only[cond_true,BK];rw[vS K t _ (cq z) z.2 y];rfl
 ·intro rec t;simp only[Q164.s0,aP];rfl
theorem tt {u:Int}{l:List cU}(h:c8 u l)(s:Int):ax (di l s):=by
 rcases mU (l:=l) (s:=s) with e|⟨x,r,_,e⟩ <;> rw[e]
 ·exact⟨by simp,List.Pairwise.nil⟩
 ·exact (h.1 x r).2.2.2.1
theorem olen {u:Int}{l:List cU}(h:c8 u l):l.length<=1048576:=BV (iW h.2 λx r=>⟨(h.1 x r).1.1,Int.le_trans (h.1 x r).1.2 (by decide)⟩) (by decide)
theorem xN (K:Nat)(n:aa)(s:Int)(t:List ag)(h:c8 n.1 (aa.others n))(r:ax t)(y:1048577<K):Q165.f K (n,s,t,())=some ((fE (di (aa.others n) s) t,()),()):=by
 have z:=olen h;refine pE (step:=λrec a=>Q165.s0 K (n,s,t,()) rec a) (aa.others n) s (λl=>some ((fE l t,()),())) ?_ ?_ (aa.others n).length 0 K (by omega) (by omega)
 ·intro rec i u;simp only[Q165.s0];rw[bk (by omega:(i:Int)<(BL (aa.others n):Int)),af u,ar i (by omega)];simp only[cond_true,BK];cases (aa.others n)[i].1==s with
  |false=>rfl
  |true=>exact (congrArg (λo=>BN o _) (Au K _ t (h.1 _ (BS u)).2.2.2.1 r y)).trans rfl
 ·intro rec;simp only[Q165.s0,aP,cond_false];rw[wa r];refine (congrArg (λb=>bif b then _ else _) (szb (BL ([]:List ag)) t.length 32 (by omega) ?_)).trans rfl;have:=cq r;simp;omega
theorem sum_s (K:Nat)(n:aa)(s:Int)(t:List ag)(h:c8 n.1 (aa.others n))(X:1048577<K):Q166.f K (n,s,t,())=some ((setO n (bE (λx:cU=>x.1) (s,t) (aa.others n)),()),()):=by
 have R:=olen h;refine rq (step:=λrec a=>Q166.s0 K (n,s,t,()) rec a) (λx:cU=>x.1) (s,t) (aa.others n) h.2 (λr i=>(r,false,(i:Int))) (λr i=>(r,true,(i:Int))) (λo=>some ((setO n o,()),())) ?_ ?_ ?_ ?_ (by omega)
 ·intro rec r i I H _;simp only[Q166.s0,zcp4,zcp8];rw[bk (by omega:(i:Int)<(BL (aa.others n):Int)),af I,ar i (by omega)];simp only[cond_true,BK,CF];have z:=szb r.length 1 32 (by omega) (by omega);have M:=szb (r++[(s,t)]).length 1 32 (by omega) (by simp;omega);generalize (aa.others n)[i]=y at *;by_cases J:y.1<s
  ·rw[if_pos J,show decide (y.1>=s)=false from decide_eq_false (by omega),show (y.1 != s)=true by simp;omega];exact (congrArg (λb=>bif b then _ else _) z).trans rfl
  ·rw[if_neg J,show decide (y.1>=s)=true from decide_eq_true (by omega)];refine (congrArg (λb=>bif b then _ else _) z).trans ?_;by_cases u:y.1=s
   ·rw[if_pos u,show (y.1 != s)=false by simpa using u];rfl
   ·rw[if_neg u,show (y.1 != s)=true by simpa using u];exact (congrArg (λb=>bif b then _ else _) M).trans rfl
 ·intro rec r i I H O;simp only[Q166.s0,zcp4,zcp8];rw[bk (by omega:(i:Int)<(BL (aa.others n):Int)),af I,ar i (by omega)];simp only[cond_true,BK,BR,cond_false];have z:=szb r.length 1 32 (by omega) (by omega);rw[show ((aa.others n)[i].1 != s)=true by simp;have:s<_:=O;omega];exact (congrArg (λb=>bif b then _ else _) z).trans rfl
 ·intro rec r H _;simp only[Q166.s0,zcp4,zcp8,aP,cond_false,CF,cond_true];exact (congrArg (λb=>bif b then _ else _) (szb r.length 1 32 (by omega) (by omega))).trans rfl
 ·intro rec r H;simp only[Q166.s0,zcp4,zcp8,aP,cond_false,BR];rfl
theorem zj (K:Nat)(a b:List ag)(X:a.length<=1048576)(Y:1048577<K):Q167.f K (a,b,())=rb (decide (a≠b)):=by
 simp only[Q167.f,Q167.pre];by_cases I:a.length=b.length
 ·rw[show ((BL a:Int) != (BL b:Int))=false by simp;omega];have:=b7 (step:=λrec x=>Q167.s0 K (a,b,()) rec x) a.length (λi=>(i:Int)) (λj=>∃ (h:j<a.length) (Z:j<b.length),a[j]≠b[j]) (rb false) (λ_=>rb true) ?_ ?_ a.length K 0 (by omega) (by omega)
  ·rcases this with ⟨H,y⟩|⟨j,_,H,⟨z,M,R⟩,_,y⟩
   ·refine (y:Q167.l0 K (a,b,()) 0=_).trans ?_;rw[decide_eq_false];rintro u;exact u (List.ext_getElem I λi z M=>CP.1 λO=>H i (BZ _) z ⟨z,M,O⟩)
   ·refine (y:Q167.l0 K (a,b,()) 0=_).trans ?_;rw[decide_eq_true];rintro rfl;exact R rfl
  ·intro rec i J;simp only[Q167.s0];rw[bk (by omega:(i:Int)<(BL a:Int)),af J,ar i (by omega),af (show i<b.length by omega)];simp only[cond_true,BK];rw[show Ty.eqv t2 a[i] (b[i]'(by omega))=decide (a[i]=b[i]'(by omega)) from hH _ _];by_cases r:a[i]=b[i]'(by omega)
   ·exact .inl ⟨λ⟨_,_,h⟩=>h r,by rw[decide_eq_true r];rfl⟩
   ·exact .inr ⟨⟨J,by omega,r⟩,by rw[decide_eq_false r];rfl⟩
  ·intro rec;simp only[Q167.s0,aP];rfl
 ·rw[show ((BL a:Int) != (BL b:Int))=true by simp;omega,decide_eq_true (show a≠b from λe=>I (by rw[e]))];rfl
theorem qD (K:Nat)(l:List Int)(t:Int)(u:l.length<=1048576):Q173.f K (l,t,())=some ((hY l t,()),()):=by
 simp only[Q173.f];rw[szb _ _ _ (by omega) (by show (BL ([]:List Int))+l.length<=_;simp;omega)];simp only[cond_true,BX];rw[szb _ _ _ (by omega) (by show l.length+[t].length<=_;simp;omega)];simp only[cond_true];have r:(l++[t]).length=l.length+1:=by simp
 show (bif decide (((l++[t]).length:Int)>3) then (bif decide (0<=wr .i64 (((l++[t]).length:Int)-3))&&decide (wr .i64 (((l++[t]).length:Int)-3)<=((l++[t]).length:Int))&&decide (((l++[t]).length:Int)<=((l++[t]).length:Int))&&true then some ((((l++[t]).take (BP ((l++[t]).length:Int))).drop (BP (wr .i64 (((l++[t]).length:Int)-3))),()),()) else none) else some ((l++[t],()),()))=_;by_cases h:l.length+1>3
 ·rw[aA (by omega) (by omega),decide_eq_true (by omega:((l++[t]).length:Int)>3),decide_eq_true (by omega:(0:Int)<=((l++[t]).length:Int)-3),decide_eq_true (by omega:((l++[t]).length:Int)-3<=((l++[t]).length:Int)),decide_eq_true (CQ _)];simp only[Bool.and_self,cond_true,hY];rw[show BP (((l++[t]).length:Int)-3)=(l++[t]).length-3 by omega,BQ,CJ]
 ·rw[decide_eq_false (by omega:¬ ((l++[t]).length:Int)>3)];simp only[cond_false,hY];rw[show (l++[t]).length-3=0 by omega,B9]
theorem plen {u:Int}{l:List dI}(h:ey u l):l.length<=1048576:=BV (iW h.2 λx r=>(h.1 x r).1) (by decide)
theorem uv {u:Int}{l:List dI}(h:ey u l)(r:Int):(dE l r).length<=3:=by
 unfold dE;cases y:l.find? λp=>p.1==r with
 |none=>simp
 |some p =>
  have:=(h.1 p (List.mem_of_find?_eq_some y)).2.2.2.2.1.2;show p.2.2.length<=3;omega
theorem Av (K:Nat)(l:List dI)(r:Int)(c:dw)(t:Int)(me:Int)(h:ey me l)(hK:1048577<K):Q174.f K (l,r,c,t,())=some ((o8 l r c t,()),()):=by
 have hl:=plen h;have h3:=uv h r;refine rq (step:=λrec a=>Q174.s0 K (l,r,c,t,()) rec a) (λx:dI=>x.1) (r,c,hY (dE l r) t) l h.2 (λu i=>(u,false,(i:Int),[])) (λu i=>(u,true,(i:Int),hY (dE l r) t)) (λo=>some ((o,()),())) ?_ ?_ ?_ ?_ (by omega)
 ·intro rec u i I J z;simp only[Q174.s0];rw[bk (by omega:(i:Int)<(BL l:Int)),af I,ar i (by omega)];simp only[cond_true,BK,CF];have R:=szb u.length 1 64 (by omega) (by omega);have Y:=szb (u++[(r,c,hY (dE l r) t)]).length 1 64 (by omega) (by simp;omega);have O:l[i].1=r->dE l r=l[i].2.2:=λe=>by unfold dE;rw[oY h.2 I e];rfl
  have M:r<l[i].1->dE l r=[]:=λe=>by
   unfold dE;rw[nR (k:=λp:dI=>p.1)]
   ·rfl
   intro y X;obtain⟨j,hj,rfl⟩:=B5 X;by_cases a1:j<i
   ·have:=z l[j] (by rw[List.mem_take_iff_getElem];exact⟨j,by omega,rfl⟩);show l[j].1≠r;have:l[j].1<r:=this;omega
   ·have:l[i].1<=l[j].1:=by
     by_cases e:i=j
     ·subst e;exact CQ _
     ·exact Int.le_of_lt (dn.1 h.2 i j I hj (by omega))
    show l[j].1≠r;omega
  have a0:=(h.1 _ (BS I)).2.2.2.2.1.2;generalize l[i]=y at *;by_cases c1:y.1<r
  ·rw[if_pos c1,show decide (y.1>=r)=false from decide_eq_false (by omega),show (y.1 != r)=true by simp;omega,show (y.1==r)=false by simp;omega];exact (congrArg (λb=>bif b then _ else _) R).trans rfl
  ·rw[if_neg c1,show decide (y.1>=r)=true from decide_eq_true (by omega)];by_cases H:y.1=r
   ·rw[if_pos H,show (y.1 != r)=false by simpa using H,show (y.1==r)=true by simpa using H];simp only[cond_true,cond_false];rw[<- O H];refine (congrArg (λo=>BN o _) (qD K _ t (by omega))).trans ?_;exact (congrArg (λb=>bif b then _ else _) R).trans rfl
   ·rw[if_neg H,show (y.1 != r)=true by simpa using H,show (y.1==r)=false by simpa using H];simp only[cond_true,cond_false];have e:=M (by omega);rw[e]at Y ⊢;refine (congrArg (λo=>BN o _) (qD K [] t (by simp))).trans ?_;refine (congrArg (λb=>bif b then _ else _) R).trans ?_;exact (congrArg (λb=>bif b then _ else _) Y).trans rfl
 ·intro rec u i I J Z;simp only[Q174.s0];rw[bk (by omega:(i:Int)<(BL l:Int)),af I,ar i (by omega)];have Z:r<l[i].1:=Z;simp only[cond_true,BK,BR,cond_false];rw[show (l[i].1 != r)=true by simp;omega,show (l[i].1==r)=false by simp;omega];exact (congrArg (λb=>bif b then _ else _) (szb u.length 1 64 (by omega) (by omega))).trans rfl
 ·intro rec u J z;simp only[Q174.s0,aP,cond_false,CF,cond_true];have e:dE l r=[]:=by
   unfold dE;rw[nR (k:=λp:dI=>p.1) (λy X=>by have:y.1<r:=z y X;show y.1≠r;omega)];rfl
  rw[e];refine (congrArg (λo=>BN o _) (qD K [] t (by simp))).trans ?_;exact (congrArg (λb=>bif b then _ else _) (szb u.length 1 64 (by omega) (by omega))).trans rfl
 ·intro rec u J;simp only[Q174.s0,aP,cond_false,BR]
def tu (n r u:Int):Int:=if n<r then r else if n>u then u else n
theorem zQ (K:Nat)(n y z:Int):Q172.f K (n,y,z,())=some ((tu n y z,()),()):=by
 simp only[Q172.f,tu];by_cases u:n<y
 ·rw[decide_eq_true u,if_pos u];rfl
 ·rw[decide_eq_false u,if_neg u];by_cases r:n>z
  ·rw[decide_eq_true r,if_pos r];rfl
  ·rw[decide_eq_false r,if_neg r];rfl
theorem Aw {n r u:Int}(h:r<=u):InP (tu n r u) r u:=by
 unfold tu;split
 ·exact⟨CQ _,h⟩
 ·split
  ·exact⟨h,CQ _⟩
  ·exact⟨by omega,by omega⟩
def xO (n:aa):Int:=tu ((aU n-(aa.probe n).2.1)*1000+500) 1 60000
noncomputable def qE (K:Nat)(w:aq)(c:dw)(p:dI):dw:=bif p.1==w.2.2.1 then pR K c (aq.coord w) (sk K p.2.2) w.2.2.2.2.1 else c
def kE (n:aa)(w:aq):List dI:=o8 (aa.places n) w.2.2.1 (aq.coord w) (xO n)
def qF (n:aa)(w:aq):Bool:=!decide ((aa.probe n).1<0)&&(aa.probe n).1==w.2.2.1&&(aa.probe n).2.2.1==w.2.2.2.2.1&&w.2.2.2.2.2.1==w.2.2.1
noncomputable def fq (K:Nat)(n:aa)(w:aq):aa:=bif qF n w then pO n ((kE n w).foldl (qE K w) (aa.coord n)) (kE n w) else n
theorem u7 {K:Nat}{w:aq}{c:dw}{p:dI}(r:cD c)(u:1048577<K):cD (qE K w c p):=by
 unfold qE;cases p.1==w.2.2.1 with
 |false=>exact r
 |true=>exact (xL K c _ _ _ r u).2
theorem tv {n:aa}(h:UpX n)(H:¬ (aa.probe n).1<0):(aa.probe n).1≠n.1/\InP (aa.probe n).1 0 7/\ao (aa.probe n).1=ao n.1/\InP (aa.probe n).2.1 0 (aU n):=by
 have r:=h.probe;unfold cW at r;rw[if_neg (by omega)]at r;obtain⟨z,⟨f,u,e⟩,y,_⟩:=r;exact⟨z,e ▸ (h.table.1 f u).1,e ▸ h.site f u,y⟩
theorem u9 {n:aa}{w:aq}(h:UpX n)(I:cD (aq.coord w))(y:qF n w=true):ey n.1 (kE n w):=by
 simp only[qF,Cb,CZ,decide_eq_false_iff_not,beq_iff_eq]at y;obtain⟨⟨⟨J,H⟩,M⟩,O⟩:=y;obtain⟨r,z,u,_⟩:=tv h J;rw[H]at r z u;exact vY h.places z u r I (Aw (by decide))
theorem ack_s (K:Nat)(n:aa)(w:aq)(h:UpN n)(hw:cD (aq.coord w))(I:1048577<K):Q185.f K (n,w,())=some ((fq K n w,()),()):=by
 simp only[Q185.f,Q185.pre,zc00556];have z:qF n w=(!decide ((aa.probe n).1<0)&&(aa.probe n).1==w.2.2.1&&(aa.probe n).2.2.1==w.2.2.2.2.1&&w.2.2.2.2.2.1==w.2.2.1):=rfl;by_cases r:(aa.probe n).1<0
 ·rw[show decide (n.2.2.2.2.2.2.2.2.2.2.1.1<0)=true from decide_eq_true r];rw[show fq K n w=n by unfold fq;rw[z,decide_eq_true r];rfl];rfl
 ·rw[show decide (n.2.2.2.2.2.2.2.2.2.2.1.1<0)=false from decide_eq_false r];cases u:(aa.probe n).1==w.2.2.1 with
  |false =>
   rw[show fq K n w=n by unfold fq;rw[z,decide_eq_false r,u];rfl];rw[show (n.2.2.2.2.2.2.2.2.2.2.1.1 != w.2.2.1)=true by unfold bne;rw[show (n.2.2.2.2.2.2.2.2.2.2.1.1==w.2.2.1)=false from u];rfl];rfl
  |true =>
   rw[show (n.2.2.2.2.2.2.2.2.2.2.1.1 != w.2.2.1)=false by unfold bne;rw[show (n.2.2.2.2.2.2.2.2.2.2.1.1==w.2.2.1)=true from u];rfl];cases H:(aa.probe n).2.2.1==w.2.2.2.2.1 with
   |false =>
    rw[show fq K n w=n by unfold fq;rw[z,decide_eq_false r,u,H];rfl];rw[show (n.2.2.2.2.2.2.2.2.2.2.1.2.2.1 != w.2.2.2.2.1)=true by unfold bne;rw[show (n.2.2.2.2.2.2.2.2.2.2.1.2.2.1==w.2.2.2.2.1)=false from H];rfl];rfl
   |true =>
    rw[show (n.2.2.2.2.2.2.2.2.2.2.1.2.2.1 != w.2.2.2.2.1)=false by unfold bne;rw[show (n.2.2.2.2.2.2.2.2.2.2.1.2.2.1==w.2.2.2.2.1)=true from H];rfl];cases J:w.2.2.2.2.2.1==w.2.2.1 with
    |false =>
     rw[show fq K n w=n by unfold fq;rw[z,decide_eq_false r,u,H,J];rfl];rw[show (w.2.2.2.2.2.1 != w.2.2.1)=true by unfold bne;rw[J];rfl];rfl
    |true =>
     have O:qF n w=true:=by rw[z,decide_eq_false r,u,H,J];rfl
     rw[show (w.2.2.2.2.2.1 != w.2.2.1)=false by unfold bne;rw[J];rfl];have Z:=(tv h.x r).2.2.2;have hn:=h.now1;have R:=u9 h.x hw O;simp only[cond_false];rw[show wr .i64 (wr .i64 (wr .i64 (n.2.2.2.2.2.1-n.2.2.2.2.2.2.2.2.2.2.1.2.1)*1000)+500)=(aU n-(aa.probe n).2.1)*1000+500 by
      obtain⟨p1,p2⟩:=Z;show wr .i64 (wr .i64 (wr .i64 (aU n-(aa.probe n).2.1)*1000)+500)=_;rw[aA (n:=aU n-_) (by omega) (by omega),aA (n:=_*1000) (by omega) (by omega),aA (by omega) (by omega)]]
     rw[zQ];simp only[BK];refine (congrArg (λo=>BN o _) (Av K (aa.places n) w.2.2.1 (aq.coord w) (xO n) n.1 h.x.places I)).trans ?_;simp only[BK];rw[show fq K n w=pO n ((kE n w).foldl (qE K w) (aa.coord n)) (kE n w) by unfold fq;rw[O];rfl];show Q185.l0 K (n,w,()) (0,(aa.coord n).1,(aa.coord n).2.1,(aa.coord n).2.2.1,(aa.coord n).2.2.2,kE n w)=_;have hl:=plen R;refine kS (step:=λrec a=>Q185.s0 K (n,w,()) rec a) (kE n w) (qE K w) cD (λc i=>((i:Int),c.1,c.2.1,c.2.2.1,c.2.2.2,kE n w)) (λc=>some ((pO n c (kE n w),()),())) (aa.coord n) h.x.coord ?_ ?_ (by omega)
     ·intro rec c i X M;refine⟨?_,u7 M I⟩;simp only[Q185.s0,zc00556,zcp8];rw[bk (by omega:(i:Int)<(BL (kE n w):Int)),BQ,af X,ar i (by omega)];simp only[cond_true,BK];have Y:=(R.1 _ (BS X)).2.2.2.2.1.2;generalize (kE n w)[i]=y at *;unfold qE;cases y.1==w.2.2.1 with
      |false=>rfl
      |true =>
       simp only[cond_true];refine (congrArg (λo=>BN o _) (med_s K y.2.2 (by omega) I)).trans ?_;refine (congrArg (λo=>BN o _) (xL K c (aq.coord w) (sk K y.2.2) w.2.2.2.2.1 M I).1).trans ?_;rfl
     ·intro rec c M;simp only[Q185.s0,zc00556,zcp8,aP,cond_false];rfl
theorem Bn {K:Nat}{n:aa}{w:aq}(h:UpN n)(z:cD (aq.coord w))(r:1048577<K):UpN (fq K n w)/\(fq K n w).1=n.1/\(fq K n w).2.2.1=n.2.2.1:=by
 unfold fq;cases u:qF n w with
 |false=>exact⟨h,rfl,rfl⟩
 |true=>exact⟨h.heard (jm (Inv:=cD) h.x.coord λc p _ y=>u7 y r) (u9 h.x z u),rfl,rfl⟩
def pT (n:aa)(w:aq):Prop:=n.2.1=true/\n.2.2.1=false/\w.2.2.2.1=n.1/\w.2.2.1≠n.1 /\
 (if w.1=2 then w.2.1=6/\ao w.2.2.1≠ao n.1/\(cf (aq.table w) (ao n.1)\/cf (aq.table w) (ao w.2.2.1)) else ao w.2.2.1=ao n.1/\(w.2.1≠6\/¬ cf (aq.table w) (ao n.1)))
theorem Ax (K:Nat)(n:aa)(w:aq)(I:(aq.table w).length<=1048576)(z:1048577<K):Ret (Q155.f K (n,w,())) (pT n w):=by
 refine (Ret.cndN (P:=¬ n.2.1=true) (b:=!n.2.1) (by simp) λ_=>Ret.cndN (P:=n.2.2.1=true) (b:=n.2.2.1) Iff.rfl λ_=>Ret.cndN (P:=w.2.2.2.1≠n.1) (b:=w.2.2.2.1 != n.1) (by simp) λ_=>Ret.cndN (P:=w.2.2.1=n.1) (b:=w.2.2.1==n.1) (by simp) λ_ =>
  (?_:Ret _ (if w.1=2 then w.2.1=6/\ao w.2.2.1≠ao n.1/\(cf (aq.table w) (ao n.1)\/cf (aq.table w) (ao w.2.2.1)) else ao w.2.2.1=ao n.1/\(w.2.1≠6\/¬ cf (aq.table w) (ao n.1))))).iff ?_
 ·refine Ret.vl (eJ K n.1) ?_;obtain⟨H,J,y⟩:=gu K (aq.table w) (ao n.1) I z;obtain⟨M,O,R⟩:=gu K (aq.table w) (ao w.2.2.1) I z;by_cases r:w.1=2
  ·rw[show (w.1==2)=true by simpa using r,if_pos r];refine Ret.cnd (P:=w.2.1=6) (b:=w.2.1==6) (by simp) λ_=>?_
   refine Ret.cnd (P:=ao w.2.2.1≠ao n.1) (b:=ao w.2.2.1 != ao n.1) (by simp) λ_=>Ret.vl J ?_
   cases H with
   |true=>exact Ret.yes (.inl (y.1 rfl))
   |false =>
    refine Ret.vl O ?_;exact Ret.of (b:=M) (R.trans ⟨.inr,λh=>h.resolve_left λh=>by have:=y.2 h;cases this⟩)
  ·rw[show (w.1==2)=false by simpa using r,if_neg r];refine Ret.cnd (P:=ao w.2.2.1=ao n.1) (b:=ao w.2.2.1==ao n.1) (by simp) λ_=>?_
   by_cases u:w.2.1=6
   ·show Ret (bif w.2.1 != 6 then _ else _) _;rw[show (w.2.1 != 6)=false by simpa using u];refine Ret.vl J (Ret.of (b:=!H) ?_);rw[CZ,<- Cc,y];exact⟨.inr,λh=>h.resolve_left λh=>h u⟩
   ·show Ret (bif w.2.1 != 6 then _ else _) _;rw[show (w.2.1 != 6)=true by simpa using u];exact Ret.yes (.inl u)
 ·unfold pT;rw[CP,Cc,CP]
def sl (u:Int)(n:aa)(to y r:Int)(t:List ag):aq:=(1,u,n.1,to,y,r,aa.coord n,t)
theorem pU (K:Nat)(n:aa)(u to y r:Int)(t:List ag)(z:t.length<=1048576):Q156.f K (n,u,to,y,r,t,())=some ((sl u n to y r t,()),()):=by
 simp only[Q156.f];rw[szb _ _ _ (by omega) (by show (BL ([]:List ag))+t.length<=_;simp;omega)];rfl
def nV (t:List ag)(s:Int):Bool:=t.all λf=>ao f.1==s
theorem nd {t:List ag}{s:Int}:nV t s=true<->cf t s:=by simp[nV,cf]
def jB (t:List ag):ag:=(t.head?).getD (0,0,0,false)
def fP (n:aa)(w:aq):List ag:=fE (di (aa.others n) (ao (jB (aq.table w)).1)) (aq.table w)
def backW (n:aa)(w:aq):aq:=(2,6,n.1,w.2.2.1,0,n.1,aa.coord n,fP n w)
def sumN (n:aa)(w:aq):aa:=setO n (bE (λx:cU=>x.1) (ao (jB (aq.table w)).1,fP n w) (aa.others n))
def gP (n:aa)(w:aq):aa×List aq:=bif nV (aq.table w) (ao n.1) then (jn n (aq.table w) n.1,[]) else
 (sumN n w,bif w.1==2&&decide (aq.table w≠fP n w) then [backW n w] else [])
theorem pV:∀ {fs t:List ag} {g:ag},g∈fE t fs->g∈t\/g∈fs
 |[],_,_,h=>.inl h
 |f::fs,t,g,h=>by
  rcases pV (fs:=fs) h with h|h
  ·have h:g∈(bS t f).1:=h;rcases hM t f with e|e
   ·rw[e]at h;exact .inl h
   ·rw[e]at h;rcases aZ.1 h with rfl|⟨h,_⟩
    ·exact .inr (by simp)
    ·exact .inl h
  ·exact .inr (by simp[h])
theorem pW:∀ {fs t:List ag} {g:ag},g∈t->∃ y∈fE t fs,y.1=g.1
 |[],_,g,h=>⟨g,h,rfl⟩
 |f::fs,t,g,h=>by
  obtain⟨J,r,I⟩:=mX (f:=f) h;obtain⟨H,z,u⟩:=pW (fs:=fs) r;exact⟨H,z,u.trans I⟩
theorem uw {t:List ag}(H:Asc (λg:ag=>g.1) t)(f:ag):∃ g∈(bS t f).1,g.1=f.1:=by
 by_cases h:∃ g∈t,g.1=f.1
 ·obtain⟨g,r,e⟩:=h;obtain⟨y,u,z⟩:=mX (f:=f) r;exact⟨y,u,z.trans e⟩
 ·rw[ip λg r e=>h ⟨g,r,e⟩];exact⟨f,aZ.2 (.inl rfl),rfl⟩
theorem ne {n:aa}{w:aq}(h:c8 n.1 (aa.others n))(M:ax (aq.table w))(u:pG (aq.table w)):ax (fP n w)/\fP n w≠[]/\cf (fP n w) (ao (jB (aq.table w)).1):=by
 have z:=tt h (ao (jB (aq.table w)).1);refine⟨rg z M.1,?_,?_⟩
 ·unfold fP;cases y:aq.table w with
  |nil=>rw[y]at u;exact u.elim
  |cons f l =>
   obtain⟨g,I,_⟩:=uw (f:=f) (t:=di (aa.others n) (ao (jB (f::l)).1)) (by rw[y]at z;exact z.2);obtain⟨R,J,_⟩:=pW (fs:=l) I;exact List.ne_nil_of_mem J
 ·intro g r;rcases pV r with r|r
  ·rcases mU (l:=aa.others n) (s:=ao (jB (aq.table w)).1) with e|⟨x,H,O,e⟩
   ·rw[e]at r;cases r
   ·rw[e]at r;rw[<- O];exact (h.1 x H).2.2.2.2 g r
  ·cases y:aq.table w with
   |nil=>rw[y]at u;exact u.elim
   |cons f l =>
    rw[y]at u r;exact u g r
theorem Ay {x:Int}(h:InP x 0 7):InP (ao x) 0 1:=by
 rw[kD h];obtain⟨r,u⟩:=h;constructor <;> omega
theorem zk {t:List ag}(u:pG t)(r:ax t):InP (jB t).1 0 7:=by
 cases t with
 |nil=>exact u.elim
 |cons f l=>exact (r.1 f (by simp)).1
theorem xP (K:Nat)(n:aa)(w:aq)(h:UpN n)(r:ax (aq.table w))(z:pG (aq.table w))(y:1048577<K):Q168.f K (n,w,())=some (((gP n w).1,(gP n w).2,()),()):=by
 simp only[Q168.f];rw[eJ K n.1];simp only[BK];obtain⟨H,R,J⟩:=gu K (aq.table w) (ao n.1) (cq r) y;have M:nV (aq.table w) (ao n.1)=H:=by rw[Bool.eq_iff_iff,nd,J]
 unfold gP;rw[M];refine (congrArg (λo=>BN o _) R).trans ?_;simp only[rb,BK];cases H with
 |true =>
  simp only[cond_true];refine (congrArg (λo=>BN o _) (uY K n (aq.table w) n.1 h.learns r.1 (cq r) h.x.me y)).trans rfl
 |false =>
  simp only[cond_false];obtain⟨O,X,Y⟩:=ne (n:=n) h.x.others r z;have u:idx (aq.table w) 0=some (jB (aq.table w)):=by
   cases I:aq.table w with
   |nil=>rw[I]at z;exact z.elim
   |cons f l=>rfl
  refine (congrArg (λo=>BN o _) u).trans ?_;simp only[BK];rw[eJ K];simp only[BK];refine (congrArg (λo=>BN o _) (xN K n (ao (jB (aq.table w)).1) (aq.table w) h.x.others r y)).trans ?_;simp only[BK];refine (congrArg (λo=>BN o _) (sum_s K n (ao (jB (aq.table w)).1) (fP n w) h.x.others y)).trans ?_;simp only[BK];cases w.1==2 with
  |false=>rfl
  |true =>
   simp only[cond_true,Bool.true_and];refine (congrArg (λo=>BN o _) (zj K (aq.table w) (fP n w) (cq r) y)).trans ?_;simp only[rb,BK];cases decide (aq.table w≠fP n w) with
   |false=>rfl
   |true =>
    simp only[cond_true];refine (congrArg (λo=>BN o _) (pU K (sumN n w) 6 w.2.2.1 0 n.1 (fP n w) (cq O))).trans rfl
theorem wb {n:aa}{w:aq}(h:UpN n)(H:n.2.2.1=false)(y:ax (aq.table w))(r:pG (aq.table w)):UpN (gP n w).1/\(gP n w).1.1=n.1/\(gP n w).1.2.2.1=false:=by
 unfold gP;cases u:nV (aq.table w) (ao n.1) with
 |true=>exact mq h H y (nd.1 u) (fh.me h.x.me)
 |false =>
  obtain⟨I,M,J⟩:=ne (n:=n) h.x.others y r;refine⟨h.setOthers (vX h.x.others (Ay (zk r y)) (λe=>?_) M I J),rfl,H⟩;have:cf (aq.table w) (ao n.1):=by
   cases z:aq.table w with
   |nil=>rw[z]at r;exact r.elim
   |cons f l=>rw[z]at r e;rw[<- e];exact r
  rw[nd.2 this]at u;cases u
noncomputable def fO (K:Nat)(n:aa)(w:aq):aa×List aq :=
 bif w.2.1==1 then (bif ao w.2.2.2.2.2.1 != ao n.1 then (n,[]) else bif w.2.2.2.2.2.1==n.1 then (n,[]) else (is n,[sl 2 (is n) w.2.2.2.2.2.1 w.2.2.2.2.1 n.1 (iY n w.2.2.2.2.2.1)]))
 else bif w.2.1==3 then (bif ao w.2.2.2.2.2.1 != ao n.1 then (n,[]) else bif w.2.2.2.2.2.1==n.1 then (n,[]) else bif w.2.2.2.2.2.1==w.2.2.1 then (n,[]) else (is n,[sl 1 (is n) w.2.2.2.2.2.1 w.2.2.2.2.1 w.2.2.1 (iY n w.2.2.2.2.2.1)]))
 else bif w.2.1==4 then (n,[sl 5 n w.2.2.1 0 n.1 (aa.table n)]) else bif w.2.1==2 then (fq K n w,[]) else (n,[])
theorem zl (K:Nat)(n:aa)(w:aq)(h:UpN n)(z:cD (aq.coord w))(u:1048577<K):Q186.f K (n,w,())=some (((fO K n w).1,(fO K n w).2,()),()):=by
 simp only[Q186.f];rw[eJ K n.1];simp only[BK];have r:=qz K n w.2.2.2.2.2.1 h.x.say u;have y:=cq (kn h.x.say w.2.2.2.2.2.1);unfold fO;cases w.2.1==1 with
 |true =>
  simp only[cond_true];rw[eJ K];simp only[BK];cases ao w.2.2.2.2.2.1 != ao n.1 with
  |true=>rfl
  |false =>
   simp only[cond_false];cases w.2.2.2.2.2.1==n.1 with
   |true=>rfl
   |false =>
    simp only[cond_false];refine (congrArg (λo=>BN o _) r).trans ?_;simp only[BK];refine (congrArg (λo=>BN o _) (pU K (is n) 2 w.2.2.2.2.2.1 w.2.2.2.2.1 n.1 _ y)).trans rfl
 |false =>
  simp only[cond_false];cases w.2.1==3 with
  |true =>
   simp only[cond_true];rw[eJ K];simp only[BK];cases ao w.2.2.2.2.2.1 != ao n.1 with
   |true=>rfl
   |false =>
    simp only[cond_false];cases w.2.2.2.2.2.1==n.1 with
    |true=>rfl
    |false =>
     simp only[cond_false];cases w.2.2.2.2.2.1==w.2.2.1 with
     |true=>rfl
     |false =>
      simp only[cond_false];refine (congrArg (λo=>BN o _) r).trans ?_;simp only[BK];refine (congrArg (λo=>BN o _) (pU K (is n) 1 w.2.2.2.2.2.1 w.2.2.2.2.1 w.2.2.1 _ y)).trans rfl
  |false =>
   simp only[cond_false];cases w.2.1==4 with
   |true=>exact (congrArg (λo=>BN o _) (pU K n 5 w.2.2.1 0 n.1 (aa.table n) (cq h.x.table))).trans rfl
   |false =>
    simp only[cond_false];cases w.2.1==2 with
    |true=>exact (congrArg (λo=>BN o _) (ack_s K n w h z u)).trans rfl
    |false=>rfl
theorem xQ {K:Nat}{n:aa}{w:aq}(h:UpN n)(u:cD (aq.coord w))(r:1048577<K):UpN (fO K n w).1/\(fO K n w).1.1=n.1/\(fO K n w).1.2.2.1=n.2.2.1:=by
 unfold fO;cases w.2.1==1 <;> cases w.2.1==3 <;> cases w.2.1==4 <;> cases w.2.1==2 <;> cases ao w.2.2.2.2.2.1 != ao n.1 <;> cases w.2.2.2.2.2.1==n.1 <;> cases w.2.2.2.2.2.1==w.2.2.1 <;> first|exact⟨h,rfl,rfl⟩|exact⟨h.way,rfl,rfl⟩|exact Bn h u r
open Classical in
noncomputable def dB (K:Nat)(n:aa)(w:aq):aa×List aq :=
 if iU w/\pT n w then (if w.2.1=6 then gP n w else fO K (jn n (aq.table w) w.2.2.1) w) else (n,[])
theorem mr {n:aa}{w:aq}(H:iU w)(h:pT n w)(z:w.2.1≠6):cf (aq.table w) (ao n.1)/\fh n w.2.2.1:=by
 obtain⟨_,_,w3,_,_,_,_,_,u⟩:=H;rw[if_neg z]at u;obtain⟨_,_,_,_,r⟩:=h;by_cases y:w.1=2
 ·rw[if_pos y]at r;exact absurd r.1 z
 ·rw[if_neg y]at r;exact⟨r.1 ▸ u,w3,r.1⟩
theorem Bo (K:Nat)(n:aa)(w:aq)(h:n.2.1=true->UpN n)(I:(aq.table w).length<=1048576)(z:1048577<K):Q187.f K (n,w,())=some (((dB K n w).1,(dB K n w).2,()),()):=by
 simp only[Q187.f];obtain⟨b1,e1,O⟩:=sP K w I z;obtain⟨Y,e2,X⟩:=Ax K n w I z;rw[e1];cases b1 with
 |false =>
  unfold dB;rw[if_neg λh=>by have:=O.2 h.1;cases this];rfl
 |true =>
  have y:=O.1 rfl;simp only[rb,BK,BR,cond_false];refine (congrArg (λo=>BN o _) e2).trans ?_;cases Y with
  |false =>
   unfold dB;rw[if_neg λh=>by have:=X.2 h.2;cases this];rfl
  |true =>
   have H:=X.1 rfl;have J:=h H.1;simp only[rb,BK,BR,cond_false];unfold dB;rw[if_pos ⟨y,H⟩];have r:=y.2.2.2.2.2.2.2.1;by_cases u:w.2.1=6
   ·rw[if_pos u,show (w.2.1==6)=true by simpa using u];have M:=y.2.2.2.2.2.2.2.2;rw[if_pos u]at M;exact (congrArg (λo=>BN o _) (xP K n w J r M z)).trans rfl
   ·rw[if_neg u,show (w.2.1==6)=false by simpa using u];obtain⟨hs,R⟩:=mr y H u;have Z:=(mq J H.2.1 r hs R).1;refine (congrArg (λo=>BN o _) (uY K n (aq.table w) w.2.2.1 J.learns r.1 I R.1 z)).trans ?_;exact (congrArg (λo=>BN o _) (zl K _ w Z y.2.2.2.2.2.2.1 z)).trans rfl
theorem va {K:Nat}{n:aa}{w:aq}(h:UpN n)(O:1048577<K):UpN (dB K n w).1/\(dB K n w).1.1=n.1/\(dB K n w).1.2.2.1=n.2.2.1:=by
 unfold dB;split
 ·rename_i X;obtain⟨y,r⟩:=X;have u:=y.2.2.2.2.2.2.2.1;split
  ·rename_i H;have J:=y.2.2.2.2.2.2.2.2;rw[if_pos H]at J;rw[r.2.1];exact wb h r.2.1 u J
  ·rename_i H;obtain⟨M,R⟩:=mr y r H;have z:=mq h r.2.1 u M R;have I:=xQ (w:=w) z.1 y.2.2.2.2.2.2.1 O;exact⟨I.1,I.2.1.trans z.2.1,I.2.2.trans (z.2.2.trans r.2.1.symm)⟩
 ·exact⟨h,rfl,rfl⟩
theorem pX {K:Nat}{n:aa}{w:aq}(h:UpN n)(hK:1048577<K):(dB K n w).2.length<=1/\∀ x∈(dB K n w).2,InP x.2.2.2.1 0 7/\(aq.table x).length<=1048576:=by
 unfold dB;split
 ·rename_i R;obtain⟨u,J⟩:=R;have y:=u.2.2.2.2.2.2.2.1;split
  ·rename_i z;have I:=u.2.2.2.2.2.2.2.2;rw[if_pos z]at I;obtain⟨Z,a2,a3⟩:=ne (n:=n) h.x.others y I;unfold gP;cases nV (aq.table w) (ao n.1) with
   |true=>exact⟨by simp,by simp⟩
   |false =>
    simp only[cond_false];cases w.1==2&&decide (aq.table w≠fP n w) with
    |false=>exact⟨by simp,by simp⟩
    |true=>exact⟨by simp,λx r=>by rw[BO.1 r];exact⟨u.2.2.1,cq Z⟩⟩
  ·rename_i z;obtain⟨X,Y⟩:=mr u J z;have M:=mq h J.2.1 y X Y;have O:=cq (kn M.1.x.say w.2.2.2.2.2.1);have H:=cq M.1.x.table;have w3:=u.2.2.1;have w6:=u.2.2.2.2.2.1;generalize jn n (aq.table w) w.2.2.1=m at *;unfold fO;cases w.2.1==1 <;> cases w.2.1==3 <;> cases w.2.1==4 <;> cases w.2.1==2 <;> cases ao w.2.2.2.2.2.1 != ao m.1 <;> cases w.2.2.2.2.2.1==m.1 <;> cases w.2.2.2.2.2.1==w.2.2.1 <;>
    first|exact⟨CK _,λx r=>by rw[BO.1 r];exact⟨w6,O⟩⟩|exact⟨CK _,λx r=>by rw[BO.1 r];exact⟨w3,H⟩⟩|exact⟨BZ _,λx r=>nomatch r⟩
 ·exact⟨by simp,by simp⟩
theorem ux {n:aa}(h:∀ k,k<8->¬ gN n k):hX n=none:=by
 unfold hX;rw[List.find?_eq_none];intro x r;obtain⟨k,u,rfl⟩:=B3.1 r;have:=h k (by simpa using u);unfold gN at this;simpa using this
theorem uy {n:aa}{k:Nat}(u:k<8)(r:gN n k)(h:∀ j,j<k->¬ gN n j):hX n=some (bh n k):=by
 unfold hX;rw[List.find?_map,List.find?_range_eq_some.2 ⟨?_,by simpa using u,λj y=>?_⟩]
 ·rfl
 ·unfold gN at r;simpa using r
 ·have:=h j y;unfold gN at this;simpa[Classical.or_iff_not_imp_left]using this
theorem vd (K:Nat)(n:aa)(h:b8 n)(O:tk n)(J:1048577<K):Q204.f K (n,())=some (((dM n).1,(dM n).2,()),()):=by
 obtain⟨⟨Z,Y⟩,⟨t0,t1⟩⟩:=O;obtain⟨to,X,z⟩:=u5 K n h t0 t1 J;simp only[Q204.f,zcp4];rw[X];simp only[BK,dM];by_cases r:jp n>=999999
 ·rw[decide_eq_true r,show decide (n.2.2.2.2.2.2.1>=999999)=true from decide_eq_true r];cases decide (to<0) <;> rfl
 ·rw[decide_eq_false r,show decide (n.2.2.2.2.2.2.1>=999999)=false from decide_eq_false r];simp only[cond_false];rcases z with ⟨rfl,H⟩|⟨k,M,u,y,rfl⟩
  ·rw[ux H];rfl
  ·rw[uy M u y];have R:0<=bh n k/\bh n k<8:=⟨Cf _ (by omega),CY _ (by omega)⟩;rw[decide_eq_false (by omega:¬ bh n k<0)];simp only[cond_false];rw[qz K n _ h J];simp only[BK];have I:wr .i64 (jp n+1)=jp n+1:=aA (by omega) (by omega);rw[show wr .i64 ((is n).2.2.2.2.2.2.1+1)=n.2.2.2.2.2.2.1+1 from I,aA (n:=bh n k+1) (by omega) (by omega)];simp only[Q156.f];rw[szb _ _ _ (by omega) (by have:=cq (kn h (bh n k));simp;omega)];rfl
def ib (w:aq):Prop:=InP w.2.2.2.1 0 7/\(aq.table w).length<=1048576
theorem tw {n:aa}(y:ax (aa.table n)):(a8 n).2.length<=2/\∀ w∈(a8 n).2,ib w:=by
 have r:([]:List aq).length<=2/\∀ w∈([]:List aq),ib w:=⟨by simp,by simp⟩;unfold a8;cases (aa.probe n).1==-1 with
 |true=>exact r
 |false =>
  cases !cL (aC (aa.table n) (aa.probe n).1) with
  |true=>exact r
  |false =>
   cases decide (n.2.2.2.2.2.1-(aa.probe n).2.1>=4) with
   |true=>exact r
   |false =>
    cases decide (n.2.2.2.2.2.1-(aa.probe n).2.1>=2) with
    |false=>exact r
    |true =>
     cases !(aa.probe n).2.2.2 with
     |false=>exact r
     |true =>
      simp only[cond_true,cond_false];refine⟨by rw[CC];exact CV _ _,λw H=>?_⟩;obtain⟨to,u,rfl⟩:=B3.1 H;obtain⟨f,z,rfl⟩:=B3.1 (CA u);exact⟨(y.1 f (CD.1 z).1).1,BZ _⟩
theorem zR {n:aa}(h:b8 n):(dM n).2.length<=1/\∀ w∈(dM n).2,ib w:=by
 have r:([]:List aq).length<=1/\∀ w∈([]:List aq),ib w:=⟨by simp,by simp⟩;unfold dM;cases decide (jp n>=999999) with
 |true=>exact r
 |false =>
  simp only[cond_false];cases u:hX n with
  |none=>exact r
  |some to =>
   refine⟨by simp,λw H=>?_⟩;rw[BO.1 H];obtain⟨y,z,I⟩:=cE h.table (eo (rj u).2);exact⟨z ▸ y.1,cq (kn h to)⟩
theorem Bp {n:aa}(z:c8 n.1 (aa.others n)){s d:Int}(I:InP s 0 1):InP (iZ n s d) 0 7:=by
 unfold iZ;cases u:decide (dJ (di (aa.others n) s)≠[])&&aR .i64 d 4==0 with
 |true =>
  rw[Cb,decide_eq_true_eq]at u;have:=(eL (d:=CS d (2 ^ 3)) u.1).2.2;unfold dJ at this;obtain⟨f,H,e⟩:=B3.1 (CA this);simp only[cond_true];show InP (gO (dJ (di (aa.others n) s)) (CS d (2 ^ 3))) 0 7;unfold dJ;rw[<- e];exact ((tt z s).1 f (CD.1 H).1).1
 |false =>
  obtain⟨r,y⟩:=lN (a:=CS d (2 ^ 3)) (m:=3) (by omega);have r:0<=aR .i64 (CS d (2 ^ 3)) 3:=r;have y:aR .i64 (CS d (2 ^ 3)) 3<=3:=y;obtain⟨M,J⟩:=I;simp only[cond_false];exact⟨by omega,by omega⟩
theorem ve {n:aa}(I:ax (aa.table n))(J:c8 n.1 (aa.others n))(r:Int):(eY n r).length<=2/\∀ w∈eY n r,ib w:=by
 have u:([]:List aq).length<=2/\∀ w∈([]:List aq),ib w:=⟨by simp,by simp⟩;unfold eY;cases aR .i64 r 3==1 with
 |true =>
  simp only[cond_true,it];cases iN n with
  |false=>exact u
  |true =>
   refine⟨?_,λw H=>?_⟩
   ·show ((([0,1]:List Int).filter (λs=>s != ao n.1)).map _).length<=2;rw[CC];exact CI _ _
   ·obtain⟨s,O,rfl⟩:=B3.1 H;refine⟨Bp J ?_,cq I⟩;have:=(CD.1 O).1;simp at this;rcases this with rfl|rfl <;> exact⟨by decide,by decide⟩
 |false =>
  simp only[cond_false];by_cases y:ce n=[]
  ·rw[decide_eq_true y,Bool.or_true];exact u
  ·rw[decide_eq_false y,Bool.or_false];obtain⟨f,M,e⟩:=B3.1 (eL (d:=CS r (2 ^ 2)) y).2.2;have z:InP (gO (ce n) (CS r (2 ^ 2))) 0 7:=by
    rw[<- e];exact (I.1 f (CD.1 M).1).1
   cases aR .i64 r 3==3 with
   |true=>exact u
   |false =>
    simp only[cond_false];cases aR .i64 r 3==0 with
    |true=>exact⟨by simp,λw H=>by rw[BO.1 H];exact⟨z,cq I⟩⟩
    |false =>
     simp only[cond_false,na]
     match R:aa.others n with
     |[]=>exact u
     |x::_=>exact⟨by simp,λw H=>by rw[BO.1 H];exact⟨z,cq (J.1 x (by rw[R];simp)).2.2.2.1⟩⟩
theorem UpX.far {n:aa}(h:UpX n):ia n:=⟨by rcases m8 h.me h.others with e|⟨x,e⟩ <;> rw[e] <;> simp,λx r=>⟨(h.others.1 x r).2.2.2.1,cq (h.others.1 x r).2.2.2.1⟩⟩
theorem rr {n:aa}(h:UpX n)(H:aU n<=1000000):((aa.probe n).1=-1\/0<=(aa.probe n).1)/\0<=(aa.probe n).2.1/\(aa.probe n).2.1<=1000000:=by
 have r:=h.probe;have y:aU n=n.2.2.2.2.2.1:=rfl;unfold cW at r;split at r
 ·rename_i J;rw[r];exact⟨.inl rfl,by show (0:Int)<=0;omega,by show (0:Int)<=1000000;omega⟩
 ·obtain⟨_,⟨f,u,e⟩,⟨z,I⟩,_⟩:=r;have:=(h.table.1 f u).1.1;exact⟨.inr (e ▸ this),z,by omega⟩
theorem Bq {n:aa}(h:UpN n)(y:aU n<999999)(r:Int):(mp n r).length<=5/\∀ w∈mp n r,ib w:=by
 have I:=(kU h.x.later (show cK (cX n) from h.self)).1.table;obtain⟨z,J⟩:=tw I;obtain⟨R,_,_⟩:=pN h y;have H:=(nU h y).1;obtain⟨X,M⟩:=ve H.x.table H.x.others r;have O:(dQ (fp n).1).2.length<=1/\∀ w∈(dQ (fp n).1).2,ib w:=by
  unfold dQ;cases (aa.probe (fp n).1).1==-1 with
  |true=>exact zR R.x.say
  |false=>exact⟨by simp,by simp⟩
 unfold mp;have z:(fp n).2.length<=2:=z;refine⟨by rw[BT,BT];omega,λw u=>?_⟩;rcases BU.1 u with u|u
 ·rcases BU.1 u with u|u
  ·exact J w u
  ·exact O.2 w u
 ·exact M w u
theorem xR (K:Nat)(n:aa)(H:Int)(h:UpN n)(hg:n.2.2.1=false)(hm:aU n<999999)(Z:1048577<K):Q211.f K (n,H,())=some ((ge n,mp n H,()),()):=by
 have a3:=h.x.now0;simp only[Q211.f,zcp4];refine (congrArg (λb=>bif !b then _ else _) h.up).trans ?_;refine (congrArg (λb=>bif b then _ else _) hg).trans ?_;refine (congrArg (λb=>bif b then _ else _) (decide_eq_false (show ¬ n.2.2.2.2.2.1>=999999 by have:aU n=n.2.2.2.2.2.1:=rfl;omega))).trans ?_;simp only[cond_false];rw[show wr .i64 (n.2.2.2.2.2.1+1)=n.2.2.2.2.2.1+1 from aA (by have:aU n=n.2.2.2.2.2.1:=rfl;omega) (by have:aU n=n.2.2.2.2.2.1:=rfl;omega)];have hl:UpX (cX n):=h.x.later;have a1:∀ d∈aa.doubts (cX n),0<=d.2.2.1/\d.2.2.1<=(cX n).2.2.2.2.2.1/\d.2.2.2.length<=1048576:=λd hd=>by
  obtain⟨_,⟨s0,s1⟩,_,h4⟩:=hl.doubts.1 d hd;exact⟨s0,s1,BV (iW (k:=λx=>x) h4.2 λx hx=>(h4.1 x hx).1) (by decide)⟩
 have Y:∀ d∈aa.doubts (cX n),∃ f∈aa.table (cX n),f.1=d.1:=λd hd=>by
  obtain⟨⟨f,hf,e,_⟩,_⟩:=hl.doubts.1 d hd;exact⟨f,hf,e⟩
 have X:(cX n).2.2.2.2.2.1<=1000000:=by show aU n+1<=1000000;omega
 refine (congrArg (λo=>BN o _) (xk K (cX n) ⟨hl.say,Y,rfl⟩ a1 X Z)).trans ?_;simp only[BK];obtain⟨b1,b2,t,c,ds,eb⟩:=kU hl (show cK (cX n) from h.self);have z:tk (fp n).1:=(pN h hm).1.seq;have a0:aU (dA (cX n))=aU n+1:=by rw[eb];rfl
 have hp:=rr b1 (by omega);obtain⟨a2,_⟩:=tw b1.table;have R:=(nU h hm).1;have r:=xC K (ge n) H R.x.far R.x.table (cq R.x.table) Z;have u:=(pN h hm).1;obtain⟨J,_⟩:=zR u.x.say;obtain⟨y,_⟩:=ve R.x.table R.x.others H;unfold ge dQ fp at r R y;unfold fp at z u J;unfold mp ge dQ fp;generalize dA (cX n)=m at *;rcases hp.1 with M|M
 ·have e0:a8 m=(m,[]):=by unfold a8;rw[show ((aa.probe m).1==-1)=true by simpa using M];rfl
  rw[e0]at r z u J y ⊢;refine (congrArg (λb=>bif b then _ else _) (decide_eq_false (show ¬ m.2.2.2.2.2.2.2.2.2.2.1.1>=0 by have:(aa.probe m).1=m.2.2.2.2.2.2.2.2.2.2.1.1:=rfl;omega))).trans ?_;refine (congrArg (λb=>bif b then _ else _) (decide_eq_true (show m.2.2.2.2.2.2.2.2.2.2.1.1<0 by have:(aa.probe m).1=m.2.2.2.2.2.2.2.2.2.2.1.1:=rfl;omega))).trans ?_;refine (congrArg (λo=>BN o _) (vd K m u.x.say z Z)).trans ?_;simp only[BK];rw[show ((aa.probe m).1==-1)=true by simpa using M]at r y ⊢;simp only[cond_true]at r y J ⊢;rw[szw _ _ _ (by omega) (by simp;omega)];simp only[cond_true];refine (congrArg (λo=>BN o _) r).trans ?_;simp only[BK];rw[szw _ _ _ (by omega) (by simp;omega)];rfl
 ·refine (congrArg (λb=>bif b then _ else _) (decide_eq_true (show m.2.2.2.2.2.2.2.2.2.2.1.1>=0 from M))).trans ?_;refine (congrArg (λo=>BN o _) (xo K m b1.say (by omega) hp.2.1 hp.2.2 b1.now0 (by have:aU m=m.2.2.2.2.2.1:=rfl;omega) Z)).trans ?_;simp only[BK];generalize a8 m=fo at *;obtain⟨O,ws⟩:=fo;simp only at r z u J y a2 ⊢;have I:=(rr u.x (by have:=u.now1;omega)).1;rcases I with I|I
  ·refine (congrArg (λb=>bif b then _ else _) (decide_eq_true (show O.2.2.2.2.2.2.2.2.2.2.1.1<0 by have:(aa.probe O).1=O.2.2.2.2.2.2.2.2.2.2.1.1:=rfl;omega))).trans ?_;refine (congrArg (λo=>BN o _) (vd K O u.x.say z Z)).trans ?_;simp only[BK];rw[show ((aa.probe O).1==-1)=true by simpa using I]at r y ⊢;simp only[cond_true]at r y ⊢;rw[szw _ _ _ (by omega) (by omega)];simp only[cond_true];refine (congrArg (λo=>BN o _) r).trans ?_;simp only[BK];rw[szw _ _ _ (by omega) (by rw[BT];omega)];rfl
  ·refine (congrArg (λb=>bif b then _ else _) (decide_eq_false (show ¬ O.2.2.2.2.2.2.2.2.2.2.1.1<0 by have:(aa.probe O).1=O.2.2.2.2.2.2.2.2.2.2.1.1:=rfl;omega))).trans ?_;rw[show ((aa.probe O).1==-1)=false by simp;omega]at r y ⊢;simp only[cond_false]at r y ⊢;refine (congrArg (λo=>BN o _) r).trans ?_;simp only[BK,CM];rw[szw _ _ _ (by omega) (by omega)];rfl
theorem tx (K:Nat)(l:List ag)(f:ag)(J:l.length<=1048576)(M:1048577<K):Ret (Q191.f K (l,f,())) (f∈l):=by
 have:=b7 (step:=λrec a=>Q191.s0 K (l,f,()) rec a) l.length (λi=>(i:Int)) (λj=>∃ h:j<l.length,l[j]=f) (rb false) (λ_=>rb true) ?_ ?_ l.length K 0 (by omega) (by omega)
 ·rcases this with ⟨z,r⟩|⟨j,_,_,⟨H,I⟩,_,r⟩
  ·refine⟨false,r,?_⟩;refine⟨λh=>absurd h (by decide),λy=>?_⟩;obtain⟨i,u,e⟩:=B5 y;exact absurd ⟨u,e⟩ (z i (BZ _) u)
  ·exact⟨true,r,λ_=>I ▸ BS H,λ_=>rfl⟩
 ·intro rec i u;simp only[Q191.s0];rw[bk (by omega:(i:Int)<(BL l:Int)),af u,ar i (by omega)];simp only[cond_true,BK];rw[hH];by_cases h:l[i]=f
  ·rw[decide_eq_true h];exact .inr ⟨⟨u,h⟩,rfl⟩
  ·rw[decide_eq_false h];exact .inl ⟨λ⟨_,r⟩=>h r,rfl⟩
 ·intro rec;simp only[Q191.s0,aP];rfl
theorem UpN.nb {n:aa}(h:UpN n):NB n where
 table:=cq h.x.table
 cast:=by have:=clen h.x.say;omega
 doubts:=h.x.say.ld
 by_:=λd r=>by have:=(h.learns.by_ d r).len;omega
 places:=plen h.x.places
 trips:=λp y=>by have:=(h.x.places.1 p y).2.2.2.2.1.2;omega
 others:=olen h.x.others
 facts:=λx u=>cq (h.x.others.1 x u).2.2.2.1
def jC (r:Int)(g:Bool):aa:=(r,false,false,g,0,0,0,0,[],[],(0,0,0,false),[],(0,0,0,0),[],[])
structure dR (i:Nat) (n:aa):Prop where
 me:n.1=(i:Int)
 lt:i<8
 up:n.2.1=true->UpN n
 down:n.2.1=false->n=jC n.1 n.2.2.2.1
theorem dR.nb {i:Nat}{n:aa}(h:dR i n):NB n:=by
 cases r:n.2.1 with
 |true=>exact (h.up r).nb
 |false =>
  rw[h.down r];exact⟨by simp[jC,aa.table],by simp[jC,aa.cast],by simp[jC,aa.doubts],by simp[jC,aa.doubts],by simp[jC,aa.places],by simp[jC,aa.places],by simp[jC,aa.others],by simp[jC,aa.others]⟩
theorem dR.short {i:Nat}{n:aa}(h:dR i n):(aa.table n).length<=4:=by
 cases r:n.2.1 with
 |true=>exact ut (h.up r).x.table (h.up r).x.site
 |false=>rw[h.down r];exact BZ _
theorem dR.of {i:Nat}{n m:aa}(h:dR i n)(u:UpN m)(e:m.1=n.1):dR i m:=⟨e.trans h.me,h.lt,λ_=>u,λr=>by rw[u.up]at r;cases r⟩
def gQ (l:List lM):Prop:=l.length<=60/\∀ f∈l,InP f.1 0 7/\f.2.1.size<=2000
structure WI (w:bX) (c:Nat):Prop where
 len:w.1.length=8
 node:∀ (i:Nat) (h:i<w.1.length),dR i w.1[i]
 radio:gQ w.2.1
 sides:w.2.2.1.length=8
 born:w.2.2.2.length<=c
theorem WI.mono {w:bX}{c d:Nat}(h:WI w c)(r:c<=d):WI w d:=⟨h.len,h.node,h.radio,h.sides,BV h.born r⟩
theorem WI.put {w:bX}{c:Nat}(h:WI w c){i:Nat}{n:aa}(u:dR i n){rd:List lM}(y:gQ rd){b:List ag}{d:Nat}(z:b.length<=d):WI (w.1.set i n,rd,w.2.2.1,b) d:=by
 refine⟨by rw[BY];exact h.len,λj r=>?_,y,h.sides,z⟩;show dR j ((w.1.set i n)[j]'r);rw[List.getElem_set];split
 ·rename_i e;exact e ▸ u
 ·exact h.node j _
theorem xS (K:Nat)(w:bX)(M:Int)(u:List aq)(hs:w.2.2.1.length=8)(z:InP M 0 7)(O:∀ x∈u,ib x)(hr:gQ w.2.1)(hl:u.length<=1000)(hK:1048577<K) :
  Tot (Q188.f K (w,M,u,())) λr=>∃ rd,gQ rd/\r.1.1=(w.1,rd,w.2.2):=by
 simp only[Q188.f,Q188.pre];obtain⟨f0,f1⟩:=z;refine Tot.iter (step:=λrec a=>Q188.s0 K (w,M,u,()) rec a) (λa=>0<=a.1/\a.1<=u.length/\gQ a.2) (λa=>u.length-a.1.toNat) ?_ K _ (by show u.length-BP 0<K;omega) ⟨by show (0:Int)<=0;omega,by show (0:Int)<=_;omega,hr⟩;rintro rec ⟨i,rd⟩ ⟨I,h1,H⟩ ih;simp only at I h1 H ih ⊢;simp only[Q188.s0];refine Tot.cnd (λh=>?_) λ_=>Tot.ret ⟨rd,H,rfl⟩
 have h:=of_decide_eq_true h;rw[aA (n:=i+1) (by omega) (by omega)];have Z:∀ y,gQ y->Tot (rec (i+1,y)) λr=>∃ rd,gQ rd/\r.1.1=(w.1,rd,w.2.2):=λy Y=>ih _ ⟨by show 0<=i+1;omega,by show i+1<=_;omega,Y⟩ (by show u.length-BP (i+1)<u.length-BP i;omega)
 refine Tot.cnd (λh3=>?_) λ_=>Z rd H
 have h3:=of_decide_eq_true h3;refine Tot.ix f0 (by omega) λ_ _ _=>Tot.ix I h λy2 R _=>?_
 obtain⟨⟨t0,t1⟩,_⟩:=O y2 R;refine Tot.ix t0 (by omega) λ_ _ _=>Tot.cnd (λ_=>Tot.fit (Tot.ix I h λy4 X _=>Tot.ix I h λy5 J _=>Tot.bind (ot K y5 (O y5 J).2 hK) λv hv=>Tot.fit (Z _ ⟨?_,λf z=>?_⟩) (by omega) ?_) (by omega) ?_) λ_=>Z rd H
 ·simp;omega
 ·rcases BU.1 z with z|z
  ·exact H.2 f (by simpa using z)
  ·rw[BO.1 z];exact⟨(O y4 X).1,by show v.1.1.size<=2000;have:=hv.1;omega⟩
 ·simp;omega
 ·simp;omega
theorem Tot.ins {α:Type}{l:List α}{x:α}{a:Int}{c:Nat}{Q:(List α×Unit)×Unit->Prop}(u:0<=a)(H:a<=l.length)(y:l.length<=1048576)(z:c<=64)(k:∀ r:List α,r.length=l.length+1->Q ((r,()),())) :
  Tot (bif decide ((0:Int)<=0)&&decide (0<=a)&&decide (a<=(BL l:Int))&&true then (bif decide ((BL ([]:List α)+BL ((l.take (BP a)).drop (BP 0)))*c<=ak) then (bif decide ((BL ([]++((l.take (BP a)).drop (BP 0)))+BL ([x]))*c<=ak) then (bif decide (0<=a)&&decide (a<=(BL l:Int))&&decide ((BL l:Int)<=(BL l:Int))&&true then (bif decide ((BL (([]++((l.take (BP a)).drop (BP 0)))++([x]))+BL ((l.take (BP (BL l:Int))).drop (BP a)))*c<=ak) then (some (((([]++((l.take (BP a)).drop (BP 0)))++([x]))++((l.take (BP (BL l:Int))).drop (BP a)),()),())) else none) else none) else none) else none) else none) Q:=by
 obtain⟨m,rfl⟩:=B7 u;refine Tot.must (by simp;omega) (Tot.fit (Tot.fit (Tot.must (by simp;omega) (Tot.fit (Tot.ret (k _ ?_)) (by omega) ?_)) (by omega) ?_) (by omega) ?_) <;>
 simp only[BQ,CG,B9,BX,BT,B6,CT,Cd,CE] <;> omega
theorem zm (K:Nat)(f g:ag):Tot (Q189.f K (f,g,())) λ_=>True:=by
 simp only[Q189.f];exact Tot.cnd (λ_=>Tot.ret trivial) λ_=>Tot.bind (sM K g f).tot λ_ _=>Tot.ret trivial
theorem xT (K:Nat)(l:List ag)(f:ag)(I:l.length<=1048576)(O:1048577<K):Tot (Q190.f K (l,f,())) λr=>r.1.1.length<=l.length+1:=by
 simp only[Q190.f,Q190.pre];refine Tot.iter (A:=Int) (step:=λrec a=>Q190.s0 K (l,f,()) rec a) (λa=>0<=a/\a<=l.length) (λa=>l.length-a.toNat) ?_ K _ (by show l.length-BP 0<K;omega) ⟨by show (0:Int)<=0;omega,by show (0:Int)<=_;omega⟩;rintro rec i ⟨H,z⟩ J;simp only[Q190.s0];have u:=λ (z:i<=l.length)=>Tot.ins (x:=f) (c:=32) (Q:=λr=>r.1.1.length<=l.length+1) H z I (by omega) λr R=>by show r.length<=_;omega
 have y:l.length<=l.length+1:=CU _;refine Tot.cnd (λh=>?_) λ_=>Tot.cnd (λh=>Tot.ix H (of_decide_eq_true h) λ_ _ _=>Tot.cnd (λ_=>Tot.ret y) λ_=>u z) λ_=>u z
 have h:i<(l.length:Int):=of_decide_eq_true h;rw[aA (n:=i+1) (by omega) (by omega)];refine Tot.ix H h λM _ _=>Tot.bind (zm K M f) λ_ _=>Tot.cnd (λ_=>J (i+1) ⟨by show 0<=i+1;omega,by show i+1<=(l.length:Int);omega⟩ (by show l.length-BP (i+1)<l.length-BP i;omega)) λ_=>Tot.cnd (λ_=>Tot.ix H h λ_ _ _=>Tot.cnd (λ_=>Tot.ret y) λ_=>u z) λ_=>u z
theorem zS (K:Nat)(w:bX)(z y u:List ag)(Z:z.length<=1048576)(h2:y.length<=1048576)(h3:u.length<=100)(hb:w.2.2.2.length<=1000000)(J:1048577<K) :
  Tot (Q192.f K (w,z,y,u,())) λr=>∃ b,b.length<=w.2.2.2.length+u.length/\r.1.1=(w.1,w.2.1,w.2.2.1,b):=by
 simp only[Q192.f,Q192.pre];refine Tot.iter (step:=λrec a=>Q192.s0 K (w,z,y,u,()) rec a) (λa=>0<=a.1/\a.1<=u.length/\(a.2.length:Int)<=w.2.2.2.length+a.1) (λa=>u.length-a.1.toNat) ?_ K _ (by show u.length-BP 0<K;omega) ⟨by show (0:Int)<=0;omega,by show (0:Int)<=_;omega,by show (w.2.2.2.length:Int)<=w.2.2.2.length+0;omega⟩;rintro rec ⟨i,b⟩ ⟨I,X,i2⟩ O;simp only at I X i2 O ⊢;simp only[Q192.s0];refine Tot.cnd (λh=>?_) λ_=>Tot.ret ⟨b,by omega,rfl⟩
 have h:=of_decide_eq_true h;rw[aA (n:=i+1) (by omega) (by omega)];have M:∀ H:List ag,H.length<=b.length+1->Tot (rec (i+1,H)) λr=>∃ b,b.length<=w.2.2.2.length+u.length/\r.1.1=(w.1,w.2.1,w.2.2.1,b):=λH a0=>O _ ⟨by show 0<=i+1;omega,by show i+1<=_;omega,by show (H.length:Int)<=_+(i+1);omega⟩ (by show u.length-BP (i+1)<u.length-BP i;omega)
 refine Tot.ix I h λY _ _=>Tot.bind (tx K z Y Z J).tot λ_ _=>Tot.cnd (λ_=>?_) λ_=>M b (CU _)
 refine Tot.ix I h λy3 _ _=>Tot.bind (tx K y y3 h2 J).tot λ_ _=>Tot.cnd (λ_=>?_) λ_=>M b (CU _)
 exact Tot.ix I h λy5 _ _=>Tot.bind (xT K b y5 (by omega) J) λv R=>M v.1.1 R
structure zT (w:bX) (i:Nat) (n:aa) (ws:List aq) (heard:List ag) (c:Nat):Prop where
 wi:WI w c
 lt:i<8
 n:dR i n
 sent:∀ x∈ws,ib x
 wl:ws.length<=1000
 hl:heard.length<=1048576
 c:c<=1000000
theorem set_t (K:Nat)(w:bX)(i:Nat)(n:aa)(H:List aq)(u:List ag)(c:Nat)(h:zT w i n H u c)(I:1048577<K):Tot (Q193.f K ((w,i),n,H,u,())) λr=>WI r.1.1 (c+4):=by
 simp only[Q193.f];have y:i<w.1.length:=by rw[h.wi.len];exact h.lt
 have O:=h.c;have M:=h.wi.born;have J:=h.n.short;rw[h.n.me];refine Tot.vl (af y) (Tot.vl (by rw[BQ];exact af y) (Tot.vl (af y) (Tot.vl (by rw[BQ];exact af y) ?_)));refine Tot.must (by simp) ?_;rw[BQ];refine Tot.bind (zS K (w.1.set i n,w.2) (aa.table w.1[i]) u (aa.table n) (h.wi.node i y).nb.table h.hl (by omega) (by show w.2.2.2.length<=_;omega) I) ?_;rintro⟨⟨v,⟨⟩⟩,⟨⟩⟩ ⟨b,z,rfl⟩;refine Tot.bind (xS K (w.1.set i n,w.2.1,w.2.2.1,b) (i:Int) H h.wi.sides ⟨by omega,by have:=h.lt;omega⟩ h.sent h.wi.radio h.wl I) ?_;rintro⟨⟨v,⟨⟩⟩,⟨⟩⟩ ⟨rd,hr,rfl⟩;have z:b.length<=w.2.2.2.length+(aa.table n).length:=z;exact Tot.ret (h.wi.put h.n hr (by omega))
theorem Br (K:Nat)(w:bX)(i:Nat)(n:aa)(H:List aq)(u:List ag)(c:Nat)(h:zT w i n H u c)(I:1048577<K):Tot (Q212.f K (w,n,H,u,())) λr=>WI r.1.1 (c+4):=by
 simp only[Q212.f];have y:i<w.1.length:=by rw[h.wi.len];exact h.lt
 have O:=h.c;have M:=h.wi.born;have J:=h.n.short;rw[h.n.me];refine Tot.vl (af y) (Tot.vl (by rw[BQ];exact af y) (Tot.vl (af y) (Tot.vl (by rw[BQ];exact af y) ?_)));rw[BQ];refine Tot.bind (zS K (w.1.set i n,w.2) (aa.table w.1[i]) u (aa.table n) (h.wi.node i y).nb.table h.hl (by omega) (by show w.2.2.2.length<=_;omega) I) ?_;rintro⟨⟨v,⟨⟩⟩,⟨⟩⟩ ⟨b,z,rfl⟩;refine Tot.bind (xS K (w.1.set i n,w.2.1,w.2.2.1,b) (i:Int) H h.wi.sides ⟨by omega,by have:=h.lt;omega⟩ h.sent h.wi.radio h.wl I) ?_;rintro⟨⟨v,⟨⟩⟩,⟨⟩⟩ ⟨rd,hr,rfl⟩;have z:b.length<=w.2.2.2.length+(aa.table n).length:=z;exact Tot.ret (h.wi.put h.n hr (by omega))
theorem ru (K:Nat)(l:List lM)(at_:Int)(z:0<=at_)(I:at_<l.length)(y:gQ l):Tot (Q154.f K (l,at_,())) λr=>gQ r.1.1:=by
 have H:=y.1;obtain⟨m,rfl⟩:=B7 z;simp only[Q154.f];rw[ar m (by omega)];refine Tot.must (by simp;omega) (Tot.fit (Tot.must (by simp;omega) (Tot.fit (Tot.ret ⟨?_,λf u=>y.2 f ?_⟩) (by omega) ?_)) (by omega) ?_)
 ·simp only[BQ,CG,B9,BX,BT,B6,CT];omega
 ·simp only[BQ,CG,B9,BX,CJ]at u;rcases BU.1 u with u|u
  ·exact CA u
  ·exact List.mem_of_mem_drop u
 ·simp only[BQ,CG,B9,BX,BT,B6,CT];omega
 ·simp only[BQ,CG,B9,BX,B6,CE];omega
theorem rv (K:Nat)(w:bX)(c:Nat)(h:WI w c)(Y:c<=1000000)(to:Int)(t0:0<=to)(t1:to<=7)(x:aq)(X:iU x)(H:1048577<K){G:aa->aa->Option ((bX×Unit)×Unit)}
  (hG:∀ y:aa,G y y=(Q187.f K (y,x,())).bind λI=>(Q193.f K ((w,BP to),I.1.1,I.1.2.1,aq.table x,())).bind λO=>some ((O.1.1,()),())) :
  Tot ((idx w.1 to).bind λ_=>(idx w.1 (BP to:Nat)).bind λR=>(idx w.1 (BP to:Nat)).bind λM=>G R M) λr=>WI r.1.1 (c+4):=by
 obtain⟨i,rfl⟩:=B7 t0;have J:i<w.1.length:=by rw[h.len];omega
 have z:=h.node i J;refine Tot.vl (af J) (Tot.vl (by rw[BQ];exact af J) (Tot.vl (by rw[BQ];exact af J) ?_));rw[hG,Bo K w.1[i] x z.up (cq X.2.2.2.2.2.2.2.1) H];simp only[BK,BQ];refine Tot.bind (set_t K w i _ _ _ c ⟨h,z.lt,?_,?_,?_,cq X.2.2.2.2.2.2.2.1,Y⟩ H) λv Z=>Tot.ret Z
 ·cases u:w.1[i].2.1 with
  |true=>exact z.of (va (z.up u) H).1 (va (z.up u) H).2.1
  |false =>
   rw[show dB K w.1[i] x=(w.1[i],[]) by unfold dB;rw[if_neg λh=>by have:=h.2.1;rw[u]at this;cases this]];exact z
 ·cases u:w.1[i].2.1 with
  |true=>exact λy hy=>(pX (z.up u) H).2 y hy
  |false =>
   rw[show dB K w.1[i] x=(w.1[i],[]) by unfold dB;rw[if_neg λh=>by have:=h.2.1;rw[u]at this;cases this]];simp
 ·cases u:w.1[i].2.1 with
  |true=>have:=(pX (w:=x) (z.up u) H).1;omega
  |false =>
   rw[show dB K w.1[i] x=(w.1[i],[]) by unfold dB;rw[if_neg λh=>by have:=h.2.1;rw[u]at this;cases this]];simp
theorem Az (K:Nat)(w:bX)(c:Nat)(h:WI w c)(hc:c<=1000000)(at_:Int)(keep:Bool)(h0:0<=at_)(h1:at_<w.2.1.length)(X:1048577<K):Tot (Q194.f K (w,at_,keep,())) λr=>WI r.1.1 (c+4):=by
 simp only[Q194.f,zcp8];refine Tot.ix2 h0 h1 λf hf _=>?_
 obtain⟨⟨t0,t1⟩,a0⟩:=h.radio.2 f hf;have hs:=h.sides;refine Tot.cnd (λ_=>Tot.bind (ru K w.2.1 at_ h0 h1 h.radio) ?_) λ_=>Tot.bind (pQ K f.2.1 (by omega) X) ?_
 ·rintro⟨⟨rd,⟨⟩⟩,⟨⟩⟩ hr;have J:WI (w.1,rd,w.2.2) (c+4):=⟨h.len,h.node,hr,h.sides,BV h.born (by omega)⟩;refine Tot.bind (pQ K f.2.1 (by omega) X) ?_;rintro⟨⟨(x:aq),ok,⟨⟩⟩,⟨⟩⟩ H;refine Tot.cnd (λ_=>Tot.ret J) λY=>?_
  have H:iU x:=H (by simpa using Y);obtain⟨O,Z⟩:=H.2.2.1;have M:x.2.2.1<(w.2.2.1.length:Int):=by rw[hs];omega
  refine Tot.ix2 O M λ_ _ _=>Tot.ix2 t0 (by omega) λ_ _ _=>Tot.cnd (λ_=>Tot.ret J) λ_=>Tot.cnd (λ_=>Tot.ret J) λ_=>?_
  exact rv K (w.1,rd,w.2.2) c ⟨h.len,h.node,hr,h.sides,h.born⟩ hc f.1 t0 t1 x H X (G:=λu I=>(Q187.f K ((u.1,(u.2.1,(u.2.2.1,(u.2.2.2.1,(u.2.2.2.2.1,(u.2.2.2.2.2.1,(u.2.2.2.2.2.2.1,(u.2.2.2.2.2.2.2.1,(u.2.2.2.2.2.2.2.2.1,(u.2.2.2.2.2.2.2.2.2.1,(u.2.2.2.2.2.2.2.2.2.2.1,(I.2.2.2.2.2.2.2.2.2.2.2.1,u.2.2.2.2.2.2.2.2.2.2.2.2)))))))))))),x,())).bind λz=>(Q193.f K (((w.1,rd,w.2.2),BP f.1),z.1.1,z.1.2.1,aq.table x,())).bind λR=>some ((R.1.1,()),())) λy=>rfl
 ·rintro⟨⟨(x:aq),ok,⟨⟩⟩,⟨⟩⟩ H;have J:WI w (c+4):=h.mono (by omega);refine Tot.cnd (λ_=>Tot.ret J) λY=>?_
  have H:iU x:=H (by simpa using Y);obtain⟨O,Z⟩:=H.2.2.1;have M:x.2.2.1<(w.2.2.1.length:Int):=by rw[hs];omega
  refine Tot.ix2 O M λ_ _ _=>Tot.ix2 t0 (by omega) λ_ _ _=>Tot.cnd (λ_=>Tot.ret J) λ_=>Tot.cnd (λ_=>Tot.ret J) λ_=>?_
  exact rv K w c h hc f.1 t0 t1 x H X (G:=λu I=>(Q187.f K ((u.1,(u.2.1,(u.2.2.1,(u.2.2.2.1,(u.2.2.2.2.1,(u.2.2.2.2.2.1,(u.2.2.2.2.2.2.1,(u.2.2.2.2.2.2.2.1,(u.2.2.2.2.2.2.2.2.1,(u.2.2.2.2.2.2.2.2.2.1,(u.2.2.2.2.2.2.2.2.2.2.1,(I.2.2.2.2.2.2.2.2.2.2.2.1,u.2.2.2.2.2.2.2.2.2.2.2.2)))))))))))),x,())).bind λz=>(Q193.f K (((w.1,w.2),BP f.1),z.1.1,z.1.2.1,aq.table x,())).bind λR=>some ((R.1.1,()),())) λy=>rfl
theorem AA (K:Nat)(w:bX)(c:Nat)(h:WI w c)(at_ u:Int)(O:0<=at_)(R:at_<w.2.1.length):Tot (Q195.f K (w,at_,u,())) λr=>WI r.1.1 c:=by
 simp only[Q195.f];refine Tot.ix2 O R λf Y _=>?_
 obtain⟨H,J⟩:=h.radio.2 f Y;refine Tot.cnd (λ_=>Tot.ret h) λ_=>Tot.cnd (λ_=>Tot.ret h) λZ=>?_
 have I:¬ (f.2.1.size:Int)=0:=by simpa using Z
 obtain⟨z,b1⟩:=lN (a:=u) (m:=4095) (by omega);have z:0<=aR .i64 u 4095:=z;have M:0<=CH (aR .i64 u 4095) (f.2.1.size:Int):=Cf _ z;have X:CH (aR .i64 u 4095) (f.2.1.size:Int)<((ew f.2.1).length:Int):=by rw[rm];exact CY _ (by omega)
 refine Tot.not (decide_eq_false I) (Tot.ix2 M X λ_ _ _=>Tot.ix2 M X λ_ _ _=>Tot.ix2 O R λ_ _ _=>Tot.ret ⟨h.len,h.node,⟨?_,λg y=>?_⟩,h.sides,h.born⟩)
 ·show (w.2.1.set _ _).length<=60;rw[BY];exact h.radio.1
 ·rcases List.mem_or_eq_of_mem_set y with y|rfl
  ·exact h.radio.2 g y
  ·refine⟨H,?_⟩;show (gI _).size<=2000;rw[i8,BY,rm];exact J
def mt (i:Int)(g:Bool):aa:=(i,true,false,g,0,0,0,0,[(i,0,1,g)],[],(-1,0,0,false),[],(0,0,0,1500),[],[])
theorem AB {i:Int}{g:Bool}(h:InP i 0 7):UpN (mt i g):=by
 refine⟨⟨h,CQ _,⟨λf y=>?_,List.pairwise_singleton _ _⟩,λf y=>?_,⟨λx r=>(nomatch r),List.Pairwise.nil⟩,λx r=>(nomatch r),?_,⟨λd z=>(nomatch z),List.Pairwise.nil,rfl⟩,⟨?_,?_,?_,?_⟩,⟨λp u=>(nomatch u),List.Pairwise.nil⟩,⟨λp u=>(nomatch u),List.Pairwise.nil⟩⟩,?_,?_,⟨?_,?_⟩,?_,rfl⟩
 ·rw[BO.1 y];exact⟨h,⟨by show (0:Int)<=0;omega,by show (0:Int)<=999;omega⟩,by show (1:Int)<=1;omega,by show (1:Int)<=4;omega⟩
 ·rw[BO.1 y];rfl
 ·unfold cW;rw[if_pos (show (aa.probe (mt i g)).1=-1 from rfl)];rfl
 ·exact⟨by show (-100000:Int)<=0;omega,by show (0:Int)<=100000;omega⟩
 ·exact⟨by show (-100000:Int)<=0;omega,by show (0:Int)<=100000;omega⟩
 ·exact⟨by show (0:Int)<=0;omega,by show (0:Int)<=100000;omega⟩
 ·exact⟨by show (1:Int)<=1500;omega,by show (1500:Int)<=1500;omega⟩
 ·exact BO.2 rfl
 ·show (0:Int)<=999999;omega
 ·exact⟨by show (0:Int)<=0;omega,by show (0:Int)<=999999;omega⟩
 ·exact⟨by show (0:Int)<=0;omega,by show (0:Int)<=8;omega⟩
 ·exact⟨by show (0:Int)<=0;omega,by show (0:Int)<=999;omega⟩
theorem rx (K:Nat)(i:Int)(g:Bool)(h:InP i 0 7):Q134.f K (i,g,())=some ((mt i g,()),()):=by
 simp only[Q134.f];obtain⟨b,e,r⟩:=cC K i 0 7;rw[e,r.2 h];rfl
theorem dR.new (i:Nat)(g:Bool)(h:i<8):dR i (mt (i:Int) g):=⟨rfl,h,λ_=>AB ⟨by omega,by omega⟩,λr=>by cases r⟩
theorem Bs (K:Nat)(w:bX)(c:Nat)(h:WI w c)(M:c<=1000000)(u:Int)(y:InP u 0 7)(I:1048577<K):Tot (Q214.f K (w,u,())) λr=>WI r.1.1 (c+4):=by
 have J:=h.born;have H:u.toNat<8:=by obtain⟨a,b⟩:=y;omega
 have z:=h.len;simp only[Q214.f,Q123.f,BK];rw[rx K u _ y];simp only[BK];refine Tot.ix2 y.1 (by have:=y.2;omega) λ_ _ _=>?_
 refine Tot.vl (show idx (mt u (decide (CH u 4<3))).2.2.2.2.2.2.2.2.1 0=some (u,0,1,decide (CH u 4<3)) from rfl) (Tot.bind (xT K w.2.2.2 _ (by omega) I) λv O=>Tot.ret (h.put ?_ h.radio (by omega)));have:=dR.new u.toNat (decide (CH u 4<3)) H
 rwa [CW y.1]at this
theorem AC {n:aa}(h:UpN n):(lK n).length<=8/\∀ x∈lK n,ib x:=by
 unfold lK;refine⟨?_,λx u=>?_⟩
 ·rw[CC];exact BV (CI _ _) (iW h.x.table.2 λf r=>(h.x.table.1 f r).1)
 ·obtain⟨f,r,rfl⟩:=B3.1 u;exact⟨(h.x.table.1 f (CD.1 r).1).1,cq h.x.table⟩
theorem Bt (K:Nat)(w:bX)(c:Nat)(h:WI w c)(hc:c<=1000000)(e:ag)(h0:InP e.2.1 0 7)(O:1048577<K):Tot (Q216.f K (w,e,())) λr=>WI r.1.1 (c+4):=by
 have a2:=h.len;have hs:=h.sides;obtain⟨a1,a0,u,keep⟩:=e;obtain⟨e0,e1⟩:=h0;simp only at e0 e1;obtain⟨i,rfl⟩:=B7 e0;have Z:i<w.1.length:=by omega
 have M:=h.node i Z;have y:=h.mono (show c<=c+4 by omega);simp only[Q216.f];refine Tot.vl (af Z) (Tot.vl (by rw[BQ];exact af Z) ?_);generalize w.1[i]=n at M ⊢;refine Tot.cnd (λ_=>?_) λ_=>Tot.cnd (λ_=>?_) λ_=>Tot.cnd (λ_=>?_) λ_=>?_
 ·
  rw[zQ];simp only[BK];exact Tot.ix2 (by omega) (by omega) λ_ _ _=>Tot.ret ⟨y.len,y.node,y.radio,by show (w.2.2.1.set _ _).length=8;rw[BY];exact h.sides,y.born⟩
 ·
  simp only[Q213.f,BK];refine Tot.ix2 (by omega) (by omega) λ_ _ _=>Tot.ret (y.put (i:=i) (n:=jC n.1 n.2.2.2.1) ?_ y.radio y.born)
  exact⟨M.me,M.lt,λJ=>(by cases J),λ_=>rfl⟩
 ·
  exact Tot.cnd (λ_=>Tot.ret y) λ_=>Tot.bind (Bs K w c h hc (i:Int) ⟨by omega,by omega⟩ O) λv z=>Tot.ret z
 ·refine Tot.cnd (λ_=>Tot.ret y) λJ=>Tot.cnd (λ_=>Tot.ret y) λR=>?_
  have J:n.2.1=true:=by simpa using J
  have H:=M.up J;have set:=λ (m:aa) (X:List aq) (I:UpN m) (em:m.1=n.1) (Y:∀ x∈X,ib x) (hl:X.length<=1000)=>Br K w i m X [] c ⟨h,M.lt,M.of I em,Y,hl,BZ _,hc⟩ O
  refine Tot.cnd (λ_=>?_) λ_=>Tot.cnd (λ_=>?_) λ_=>Tot.cnd (λ_=>?_) λ_=>Tot.ret y
  ·refine Tot.cnd (λ_=>Tot.ret y) λI=>?_
   have I:aU n<999999:=by have I:¬ n.2.2.2.2.2.1>=999999:=of_decide_eq_false I;show n.2.2.2.2.2.1<999999;omega
   obtain⟨t1,t2,_⟩:=nU H I;obtain⟨w1,w2⟩:=Bq H I u;exact Tot.vl (xR K n u H R I O) (Tot.bind (set _ _ t1 t2 w2 (BV w1 (by omega))) λv z=>Tot.ret z)
  ·obtain⟨t1,t2⟩:=zf H R;obtain⟨w1,w2⟩:=AC t1;exact Tot.vl (Ah K n H.nb H.ok J R O) (Tot.bind (set _ _ t1 t2 w2 (BV w1 (by omega))) λv z=>Tot.ret z)
  ·refine Tot.bind (cC K u 0 7).tot λv z=>Tot.cnd (λ_=>Tot.ret y) λh1=>Tot.cnd (λ_=>Tot.ret y) λ_=>?_
   have hd:InP u 0 7:=z.1 (by simpa using h1);rw[eJ K,eJ K];simp only[BK];refine Tot.cnd (λ_=>Tot.ret y) λ_=>?_
   refine Tot.vl (nT K n 4 u (cq H.x.table)) (Tot.bind (set n _ H rfl (λx hx=>?_) (by simp)) λv z=>Tot.ret z);rw[BO.1 hx];exact⟨hd,cq H.x.table⟩
theorem do_t (K:Nat)(w:bX)(c:Nat)(h:WI w c)(M:c<=1000000)(e:ag)(O:1048577<K):Tot (Q218.f K (w,e,())) λr=>WI r.1.1 (c+4):=by
 have z:=h.mono (show c<=c+4 by omega);have hr:=h.radio.1;simp only[Q218.f];rw[aA (n:=(BL w.2.1:Int)-1) (by omega) (by omega)];have u:Tot ((Q12.f K (e.2.1,0,(BL w.2.1:Int)-1,())).bind λY=>bif !Y.1.1 then (some ((w,false,()),())) else (bif e.1==2 then ((Q194.f K (w,e.2.1,e.2.2.2,())).bind λZ=>some ((Z.1.1,true,()),())) else (bif e.1==4 then ((Q195.f K (w,e.2.1,e.2.2.1,())).bind λR=>some ((R.1.1,R.1.2.1,()),())) else ((Q154.f K (w.2.1,e.2.1,())).bind λX=>some (((w.1,(X.1.1,w.2.2)),true,()),()))))) λr=>WI r.1.1 (c+4):=by
  refine Tot.bind (cC K _ _ _).tot λv y=>Tot.cnd (λ_=>Tot.ret z) λI=>?_
  obtain⟨J,H⟩:InP e.2.1 0 ((BL w.2.1:Int)-1):=y.1 (by simpa using I);have H:e.2.1<(w.2.1.length:Int):=by omega
  refine Tot.cnd (λ_=>Tot.bind (Az K w c h M e.2.1 e.2.2.2 J H O) λv y=>Tot.ret y) λ_=>Tot.cnd (λ_=>Tot.bind (AA K w c h e.2.1 e.2.2.1 J H) λv y=>Tot.ret (WI.mono y (by omega))) λ_=>?_
  exact Tot.bind (ru K w.2.1 e.2.1 J H h.radio) λv y=>Tot.ret ⟨z.len,z.node,y,z.sides,z.born⟩
 refine Tot.cnd (λ_=>u) λ_=>Tot.cnd (λ_=>u) λ_=>Tot.cnd (λ_=>u) λ_=>?_
 exact Tot.bind (cC K _ _ _).tot λv y=>Tot.cnd (λ_=>Tot.ret z) λI=>Tot.bind (Bt K w c h M e (y.1 (by simpa using I)) O) λv y=>Tot.ret y
theorem zn (K:Nat)(w:bX)(O:w.1.length<=1048576)(M:∀ n∈w.1,NB n)(R:w.2.1.length<=1048576)(X:w.2.2.1.length<=1048576)(Y:w.2.2.2.length<=1048576)(I:1048577<K):Q219.f K (w,())=some ((w,()),()):=by
 simp only[Q219.f,Q219.pre];rw[szb _ _ _ (by omega) (by show (BL ([]:List lM))+w.2.1.length<=_;simp;omega)];simp only[cond_true];rw[szb _ _ _ (by omega) (by show (BL ([]:List Int))+w.2.2.1.length<=_;simp;omega)];simp only[cond_true];rw[szb _ _ _ (by omega) (by show (BL ([]:List ag))+w.2.2.2.length<=_;simp;omega)];simp only[cond_true];have:∀ (d i k:Nat),i+d=w.1.length->d<k->ae (λrec a=>Q219.s0 K (w,()) rec a) k ((i:Int),w.1.take i)=some ((w,()),()):=by
  intro d;induction d with
  |zero =>
   intro i k J H;obtain⟨k,rfl⟩:∃ u,k=u+1:=⟨k-1,by omega⟩;have:i=w.1.length:=by omega
   subst this;show Q219.s0 K (w,()) _ _=_;simp only[Q219.s0,aP,CJ];rfl
  |succ d y =>
   intro i k J H;obtain⟨k,rfl⟩:∃ u,k=u+1:=⟨k-1,by omega⟩;have r:i<w.1.length:=by omega
   show Q219.s0 K (w,()) _ _=_;simp only[Q219.s0];rw[bk (by omega:(i:Int)<(BL w.1:Int)),af r,ar i (by omega)];simp only[cond_true,BK];refine (congrArg (λo=>BN o _) (jK K w.1[i] (M _ (BS r)) I)).trans ?_;simp only[BK];have z:decide (((w.1.take i).length+[w.1[i]].length)*232<=ak)=true:=decide_eq_true (by
    rw[B6];simp only[Cd,CE,ak];omega)
   refine (congrArg (λb=>bif b then _ else _) z).trans ?_;have e:w.1.take i++[w.1[i]]=w.1.take (i+1):=by rw[CO,CB r];rfl
   rw[<- y (i+1) k (by omega) (by omega),<- e];rfl
 exact this w.1.length 0 K (by omega) (by omega)
theorem WI.copy {w:bX}{c:Nat}(h:WI w c)(J:c<=1000000)(K:Nat)(u:1048577<K):Q219.f K (w,())=some ((w,()),()):=by
 have z:=h.len;have I:=h.radio.1;have H:=h.sides;have M:=h.born;refine zn K w (by omega) (λn y=>?_) (by omega) (by omega) (by omega) u;obtain⟨i,r,rfl⟩:=B5 y;exact (h.node i r).nb
theorem Bu (K:Nat)(w:bX)(c:Nat)(y:List ag)(h:WI w c)(hl:y.length<=1000)(Z:c<=900000)(O:1048577<K):Tot (Q220.f K (w,y,())) λr=>WI r.1.1 (c+4*y.length)/\r.2.1=y:=by
 simp only[Q220.f,Q220.pre];refine Tot.iter (step:=λrec a=>Q220.s0 K (w,y,()) rec a) (λa=>0<=a.1/\a.1<=y.length/\WI a.2 (c+4*a.1.toNat)) (λa=>y.length-a.1.toNat) ?_ K _ (by show y.length-BP 0<K;omega) ⟨by show (0:Int)<=0;omega,by show (0:Int)<=_;omega,h⟩;rintro rec ⟨i,v⟩ ⟨M,X,H⟩ J;simp only at M X H J ⊢;simp only[Q220.s0];refine Tot.cnd (λz=>?_) λ_=>Tot.ret ⟨WI.mono H (by omega),rfl⟩
 have z:i<(y.length:Int):=of_decide_eq_true z;rw[aA (n:=i+1) (by omega) (by omega)];refine Tot.vl (H.copy (by omega) K O) (Tot.ix2 M z λe _ _=>Tot.bind (do_t K v _ H (by omega) e O) ?_);rintro⟨⟨v',ok,⟨⟩⟩,⟨⟩⟩ I;have I:WI v' (c+4*i.toNat+4):=I;have R:∀ u:bX,WI u (c+4*i.toNat+4)->Tot (rec (i+1,u)) λr=>WI r.1.1 (c+4*y.length)/\r.2.1=y:=λu Y=>J (i+1,u) ⟨by show 0<=i+1;omega,by show i+1<=_;omega,Y.mono (by show _<=c+4*(i+1).toNat;omega)⟩ (by show y.length-BP (i+1)<y.length-BP i;omega)
 exact Tot.cnd (λ_=>R v' I) λ_=>R v (H.mono (by omega))
theorem wc (K:Nat)(hK:1048577<K):Tot (Q135.f K ()) λr=>WI r.1.1 8:=by
 simp only[Q135.f,Q135.pre];refine Tot.iter (step:=λrec a=>Q135.s0 K () rec a) (λa=>0<=a.1/\a.1<=8/\a.2.1.length=a.1.toNat/\(∀ (j:Nat) (y:j<a.2.1.length),dR j a.2.1[j])/\a.2.2.1.length=a.1.toNat/\a.2.2.2.length=a.1.toNat) (λa=>8-a.1.toNat) ?_ K _ (by show 8-BP 0<K;omega) ⟨by show (0:Int)<=0;omega,by show (0:Int)<=8;omega,rfl,λj y=>(by cases y),rfl,rfl⟩;rintro rec ⟨i,z,X,R⟩ ⟨H,h1,h2,J,h4,Z⟩ O;simp only at H h1 h2 J h4 Z O ⊢;simp only[Q135.s0];refine Tot.cnd (λu=>?_) λu=>?_
 ·have u:i<=7:=of_decide_eq_true u;rw[aA (n:=i+1) (by omega) (by omega)];simp only[Q123.f,BK];refine Tot.vl (rx K i _ ⟨H,u⟩) (Tot.fit (Tot.fit (Tot.vl (show idx (mt i (decide (CH i 4<3))).2.2.2.2.2.2.2.2.1 0=some (i,0,1,decide (CH i 4<3)) from rfl) (Tot.fit (O _ ⟨by show 0<=i+1;omega,by show i+1<=8;omega,?_,λj y=>?_,?_,?_⟩ (by show 8-BP (i+1)<8-BP i;omega)) (by omega) ?_)) (by omega) ?_) (by omega) ?_)
  ·show (z++[mt i _]).length=(i+1).toNat;simp;omega
  ·show dR j ((z++[mt i (decide (CH i 4<3))])[j]'y);rw[List.getElem_append];split
   ·exact J j _
   ·rename_i M;have y:j<(z++[mt i (decide (CH i 4<3))]).length:=y;have I:j=i.toNat:=by simp at y;omega
    subst I;have:=dR.new i.toNat (decide (CH i 4<3)) (by omega);rw[CW H]at this;simpa using this
  ·show (X++[0]).length=(i+1).toNat;simp;omega
  ·show (R++[_]).length=(i+1).toNat;simp;omega
  ·simp;omega
  ·simp;omega
  ·simp;omega
 ·have M:=of_decide_eq_false u;refine Tot.ret ⟨?_,J,⟨BZ _,λf Y=>(nomatch Y)⟩,?_,?_⟩
  ·show z.length=8;omega
  ·show X.length=8;omega
  ·show R.length<=8;omega
abbrev LtP (v n:Int):Prop:=0<=v/\v<n
def bj (b:List Int)(m:Nat)(s:List Int×Int):Prop:=∃ q:Nat,q<=m/\s=(b,(q:Int))
theorem bj.up {b:List Int}{m:Nat}{s:List Int×Int}(h:bj b m s){m':Nat}(y:m<=m'):bj b m' s:=by obtain⟨q,u,r⟩:=h;exact⟨q,by omega,r⟩
section
variable {K:Nat} {b:List Int} {m:Nat} {s:List Int×Int}
theorem aH (h:fY b)(u:bj b m s)(n:Int)(y:1<=n)(J:m<=99000):Tot (Q120.f K (s,n,())) λr=>LtP r.1.1 n/\bj b (m+1) r.2.1:=by
 obtain⟨q,I,rfl⟩:=u;obtain⟨v,e,z,H⟩:=Al K b q n h (by omega) y;exact⟨_,e,⟨z,H⟩,q+1,by omega,rfl⟩
theorem Bv (r:List Int)(z:∀ y∈r,0<=y/\y<=255)(I:r.length<=9223372036854775807):∃ u:List Int,fY u/\Q119.f K (r,())=some (((u,(0:Int)),()),()):=by
 simp only[Q119.f];by_cases h:(r.length:Int)>2000
 ·rw[decide_eq_true h,decide_eq_true (by omega:(2000:Int)<=(r.length:Int))];exact⟨(r.take 2000).drop 0,⟨λy H=>z y (CA (by simpa using H)),by simp;omega⟩,rfl⟩
 ·rw[decide_eq_false h];exact⟨r,⟨z,by omega⟩,rfl⟩
theorem xU (h:fY b)(R:bj b m s)(u:Int)(h0:0<=u)(h1:u<=1)(hm:m<=98000):Tot (Q124.f K (s,u,())) λr=>(bA r.1.1/\ao r.1.1.1=u)/\bj b (m+5) r.2.1:=by
 simp only[Q124.f];refine Tot.bind (aH h R 4 (by decide) (by omega)) λz ⟨⟨a1,b1⟩,Y⟩=>Tot.bind (aH h Y 3 (by decide) (by omega)) λv2 ⟨⟨a2,b2⟩,s2⟩=>Tot.bind (aH h s2 12 (by decide) (by omega)) λv3 ⟨⟨a3,b3⟩,O⟩=>Tot.bind (aH h O 3 (by decide) (by omega)) λv4 ⟨⟨Z,X⟩,J⟩=>Tot.ix2 Z X λy H _=>Tot.bind (aH h J 4 (by decide) (by omega)) λI ⟨⟨a5,b5⟩,M⟩=>?_
 simp only[Q123.f,BK];have H:InP y 0 999:=by
  simp only[Cg,Ce,or_false]at H;rcases H with rfl|rfl|rfl <;> constructor <;> omega
 rw[aA (n:=u*4) (by omega) (by omega),aA (n:=u*4+z.1.1) (by omega) (by omega),aA (n:=1+I.1.1) (by omega) (by omega)];refine Tot.ret ⟨⟨⟨⟨?_,?_⟩,H,?_,?_⟩,?_⟩,M⟩
 ·show (0:Int)<=u*4+z.1.1;omega
 ·show u*4+z.1.1<=7;omega
 ·show (1:Int)<=1+I.1.1;omega
 ·show (1:Int)+I.1.1<=4;omega
 ·show ao (u*4+z.1.1)=u;rw[kD ⟨by omega,by omega⟩];omega
theorem rz (h:fY b)(J:bj b m s)(hm:m<=97000):Tot (Q126.f K (s,())) λr=>bj b (m+8) r.2.1:=by
 simp only[Q126.f];refine Tot.bind (aH h J 2 (by decide) (by omega)) λO ⟨⟨X,b1⟩,M⟩=>Tot.bind (xU h M O.1.1 X (by omega) (by omega)) λf ⟨_,R⟩=>Tot.bind (aH h R 12 (by decide) (by omega)) λZ ⟨_,H⟩=>?_
 have u:∀ {x y:Int} {G:(Int×Unit)×(List Int×Int)×Unit->Int->Option ((ag×Unit)×(List Int×Int)×Unit)},(∀ v z,Tot (G v z) λr=>r.2.1=v.2.1)->Tot ((Q120.f K (Z.2.1,2,())).bind λv=>(idx [x,y] v.1.1).bind λ_=>(idx [x,y] (BP v.1.1:Nat)).bind (G v)) λr=>bj b (m+8) r.2.1:=λY=>Tot.bind (aH h H 2 (by decide) (by omega)) λv ⟨⟨a,b⟩,I⟩=>Tot.ix2 a b λz _ _=>(Y v z).mono λr e=>by rw[e];exact I.up (by omega)
 refine Tot.cnd (λ_=>u λ_ _=>Tot.ret rfl) λ_=>Tot.cnd (λ_=>u λ_ _=>Tot.ret rfl) λ_=>Tot.cnd (λ_=>u λ_ _=>Tot.ret rfl) λ_=>Tot.cnd (λ_=>Tot.ret (H.up (by omega))) λ_=>Tot.ret (H.up (by omega))
theorem xV (t:List ag)(f:ag):(bS t f).1.length<=t.length+1:=by
 rcases hM t f with e|e
 ·rw[e];omega
 ·rw[e];exact yN
theorem wd {t:List ag}{f:ag}{z:Int}(h:cf t z)(u:ao f.1=z):cf (bS t f).1 z:=by
 rcases hM t f with e|e <;> rw[e]
 ·exact h
 ·intro g r;rcases aZ.1 r with rfl|⟨r,_⟩
  ·exact u
  ·exact h g r
theorem vf (h:fY b)(hs:bj b m s)(u:Int)(h0:-1<=u)(h1:u<=1)(hm:m<=96000)(hK:1048577<K):Tot (Q125.f K (s,u,())) λr=>(ax r.1.1/\(0<=u->cf r.1.1 u)/\r.1.1.length<=5)/\bj b (m+31) r.2.1:=by
 simp only[Q125.f,Q125.pre];refine Tot.bind (aH h hs 6 (by decide) (by omega)) λv ⟨⟨v0,v1⟩,s1⟩=>?_
 refine Tot.iter (step:=λrec a=>Q125.s0 K (s,u,()) rec a) (λa=>∃ q:Nat,0<=a.2.1/\ax a.1/\(0<=u->cf a.1 u)/\(a.1.length:Int)+a.2.1<=5/\bj b q a.2.2/\q+6*a.2.1.toNat<=m+31) (λa=>a.2.1.toNat) ?_ K _ (by show v.1.1.toNat<K;omega) ⟨m+1,v0,⟨by simp,List.Pairwise.nil⟩,λ_ f Y=>(nomatch Y),by show ((0:Nat):Int)+v.1.1<=5;omega,s1,by show m+1+6*v.1.1.toNat<=m+31;omega⟩;rintro rec ⟨t,n,s2⟩ ⟨q,n0,O,R,hl,I,hq⟩ ih;simp only at n0 O R hl I hq ih ⊢;simp only[Q125.s0];refine Tot.cnd (λhn=>?_) λ_=>Tot.ret ⟨⟨O,R,by show t.length<=5;omega⟩,I.up (by omega)⟩
 have hn:n>0:=of_decide_eq_true hn;rw[aA (n:=n-1) (by omega) (by omega)];have go:∀ (z:Int) (J:Nat) (M:List Int×Int),0<=z->z<=1->(0<=u->z=u)->bj b J M->J<=q+1->Tot ((Q124.f K (M,z,())).bind λy3=>(Q122.f K (t,y3.1.1,())).bind λy4=>rec (y4.1.1,n-1,y3.2.1.1,y3.2.1.2)) λr=>(ax r.1.1/\(0<=u->cf r.1.1 u)/\r.1.1.length<=5)/\bj b (m+31) r.2.1:=λz J M z0 z1 hz a0 a2=>by
  refine Tot.bind (xU h a0 z z0 z1 (by omega)) λy ⟨⟨Y,Z⟩,a1⟩=>Tot.vl (vS K t y.1.1 (by omega) O.2 hK) (ih (_,_,y.2.1) ⟨J+5,by show 0<=n-1;omega,ky O Y,λX=>wd (R X) (by rw[Z];exact hz X),?_,a1,by show J+5+6*(n-1).toNat<=m+31;omega⟩ (by show (n-1).toNat<n.toNat;omega))
  have:=xV t y.1.1;show ((bS t y.1.1).1.length:Int)+(n-1)<=5;omega
 refine Tot.cnd (λH=>?_) λH=>?_
 ·have H:u<0:=of_decide_eq_true H;exact Tot.bind (aH h I 2 (by decide) (by omega)) λv ⟨⟨a,b⟩,M⟩=>go v.1.1 (q+1) v.2.1 a (by omega) (λX=>by omega) M (CK _)
 ·have H:¬ u<0:=of_decide_eq_false H;exact go u q s2 (by omega) h1 (λ_=>rfl) I (by omega)
theorem pY (h:fY b)(X:bj b m s)(hm:m<=95000)(Y:1048577<K):Tot (Q127.f K (s,())) λr=>r.1.1.length<=6/\bj b (m+42) r.2.1:=by
 simp only[Q127.f];refine Tot.bind (vf h X (-1) (by decide) (by decide) (by omega) Y) λt ⟨⟨hT,_,hl⟩,J⟩=>?_
 refine Tot.cnd (λI=>?_) λ_=>Tot.ret ⟨by show t.1.1.length<=6;omega,J.up (by omega)⟩
 have I:(t.1.1.length:Int)>0:=of_decide_eq_true I;refine Tot.bind (aH h J 12 (by decide) (by omega)) λZ ⟨_,M⟩=>Tot.cnd (λ_=>?_) λ_=>Tot.ret ⟨by show t.1.1.length<=6;omega,M.up (by omega)⟩
 refine Tot.bind (aH h M (t.1.1.length:Int) (by omega) (by omega)) λv3 ⟨⟨H,u⟩,R⟩=>Tot.bind (aH h R 3 (by decide) (by omega)) λv4 ⟨_,z⟩=>?_
 refine Tot.cnd (λ_=>Tot.bind (rz h z (by omega)) λf O=>Tot.ix2 H u λ_ _ _=>Tot.ret ⟨by show (t.1.1.set _ _).length<=6;rw[BY];omega,O.up (by omega)⟩) λ_=>?_
 refine Tot.cnd (λ_=>Tot.ix2 H u λy _ _=>Tot.fit (Tot.ret ⟨by show (t.1.1++[y]).length<=6;simp;omega,z.up (by omega)⟩) (by omega) (by simp;omega)) λ_=>Tot.ix2 H u λy _ _=>Tot.ret ⟨by show (t.1.1.set _ _).length<=6;rw[BY];omega,z.up (by omega)⟩
theorem AD (h:fY b)(hs:bj b m s)(u:Int)(R:-1<=u)(Y:u<=1)(hm:m<=95000)(hK:1048577<K):Tot (Q128.f K (s,u,())) λr=>r.1.1.length<=5/\bj b (m+36) r.2.1:=by
 simp only[Q128.f,Q128.pre];refine Tot.bind (vf h hs u R Y (by omega) hK) λt ⟨⟨hT,_,hl⟩,s1⟩=>?_
 refine Tot.iter (step:=λrec a=>Q128.s0 K (s,u,()) rec a) (λa=>a.2.1=t.1.1/\0<=a.2.2.1/\a.2.2.1<=t.1.1.length/\(a.1.length:Int)=a.2.2.1/\bj b (m+31+a.2.2.1.toNat) a.2.2.2) (λa=>t.1.1.length-a.2.2.1.toNat) ?_ K _ (by show t.1.1.length-BP 0<K;omega) ⟨rfl,by show (0:Int)<=0;omega,by show (0:Int)<=_;omega,rfl,s1⟩;rintro rec ⟨H,t',i,s2⟩ ⟨e,O,X,I,z⟩ M;simp only at e O X I z M ⊢;subst e;simp only[Q128.s0];refine Tot.cnd (λJ=>?_) λ_=>Tot.ret ⟨by show H.length<=5;omega,z.up (by omega)⟩
 have J:i<(t.1.1.length:Int):=of_decide_eq_true J;rw[aA (n:=i+1) (by omega) (by omega)];refine Tot.ix2 O J λy _ _=>Tot.bind (aH h z 4 (by decide) (by omega)) λv ⟨_,Z⟩=>Tot.fit (M (_,_,_,v.2.1) ⟨rfl,by show 0<=i+1;omega,by show i+1<=_;omega,?_,Z.up (by show _<=m+31+(i+1).toNat;omega)⟩ (by show t.1.1.length-(i+1).toNat<t.1.1.length-i.toNat;omega)) (by omega) (by simp;omega)
 show ((H++[_]).length:Int)=i+1;simp;omega
theorem we (h:fY b)(Z:bj b m s)(hm:m<=94000)(hK:1048577<K):Tot (Q129.f K (s,())) λr=>r.1.1.length<=6/\bj b (m+50) r.2.1:=by
 simp only[Q129.f];refine Tot.bind (AD h Z (-1) (by decide) (by decide) (by omega) hK) λt ⟨hl,M⟩=>?_
 refine Tot.cnd (λJ=>?_) λ_=>Tot.ret ⟨by show t.1.1.length<=6;omega,M.up (by omega)⟩
 have J:(t.1.1.length:Int)>0:=of_decide_eq_true J;refine Tot.bind (aH h M 10 (by decide) (by omega)) λv2 ⟨_,O⟩=>Tot.cnd (λ_=>?_) λ_=>Tot.ret ⟨by show t.1.1.length<=6;omega,O.up (by omega)⟩
 refine Tot.bind (aH h O (t.1.1.length:Int) (by omega) (by omega)) λv3 ⟨⟨H,u⟩,Y⟩=>Tot.bind (aH h Y 3 (by decide) (by omega)) λv4 ⟨_,z⟩=>?_
 refine Tot.cnd (λ_=>Tot.bind (aH h z 2 (by decide) (by omega)) λv5 ⟨⟨X,R⟩,I⟩=>Tot.ix2 X R λ_ _ _=>Tot.ix2 H u λ_ _ _=>Tot.ret ⟨by show (t.1.1.set _ _).length<=6;rw[BY];omega,I.up (by omega)⟩) λ_=>?_
 refine Tot.cnd (λ_=>Tot.bind (rz h z (by omega)) λf I=>Tot.ix2 H u λ_ _ _=>Tot.ret ⟨by show (t.1.1.set _ _).length<=6;rw[BY];omega,I.up (by omega)⟩) λ_=>?_
 exact Tot.ix2 H u λy _ _=>Tot.fit (Tot.ret ⟨by show (t.1.1++[y]).length<=6;simp;omega,z.up (by omega)⟩) (by omega) (by simp;omega)
theorem xW (h:fY b)(Y:bj b m s)(hm:m<=95000):Tot (Q131.f K (s,())) λr=>bj b (m+6) r.2.1:=by
 simp only[Q131.f,Q130.f];refine Tot.bind (aH h Y 6 (by decide) (by omega)) λv1 ⟨_,z⟩=>Tot.cnd (λ_=>Tot.ret (z.up (by omega))) λ_=>Tot.bind (aH h z 3 (by decide) (by omega)) λv3 ⟨⟨M,H⟩,X⟩=>Tot.ix2 M H λy u _=>?_
 have u:InP y 10 100000:=by
  simp only[Cg,Ce,or_false]at u;rcases u with rfl|rfl|rfl <;> constructor <;> omega
 rw[aA (n:=2*y) (by omega) (by omega),aA (n:=2*y+1) (by omega) (by omega),aA (n:=y+1) (by omega) (by omega)];exact Tot.bind (aH h X _ (by omega) (by omega)) λv6 ⟨_,O⟩=>Tot.bind (aH h O _ (by omega) (by omega)) λv7 ⟨_,R⟩=>Tot.bind (aH h R _ (by omega) (by omega)) λZ ⟨_,I⟩=>Tot.bind (aH h I _ (by decide) (by omega)) λv9 ⟨_,J⟩=>Tot.ret J
theorem pZ (h:fY b)(z:bj b m s)(I:m<=94000):Tot (Q132.f K (s,())) λr=>bj b (m+8) r.2.1:=by
 simp only[Q132.f];exact Tot.bind (xW h z (by omega)) λc H=>Tot.bind (aH h H 16 (by decide) (by omega)) λJ ⟨_,y⟩=>Tot.cnd (λ_=>Tot.bind (aH h y 3 (by decide) (by omega)) λv ⟨⟨a,b⟩,u⟩=>Tot.ix2 a b λ_ _ _=>Tot.ret u) λ_=>Tot.cnd (λ_=>Tot.bind (aH h y 2 (by decide) (by omega)) λv ⟨⟨a,b⟩,u⟩=>Tot.ix2 a b λ_ _ _=>Tot.ret u) λ_=>Tot.cnd (λ_=>Tot.bind (aH h y 2 (by decide) (by omega)) λv ⟨⟨a,b⟩,u⟩=>Tot.ix2 a b λ_ _ _=>Tot.ret u) λ_=>Tot.ret (y.up (by omega))
theorem xX (h:fY b)(y:bj b m s)(w:bX)(I:m<=95000):Tot (Q221.f K (s,w,())) λr=>bj b (m+2) r.2.1:=by
 simp only[Q221.f];refine Tot.cnd (λ_=>Tot.ret (y.up (by omega))) λH=>?_
 have H:¬ (w.2.1.length:Int)=0:=by simpa using H
 refine Tot.bind (aH h y 3 (by decide) (by omega)) λJ ⟨_,z⟩=>Tot.cnd (λ_=>Tot.cnd (λ_=>Tot.bind (aH h z 4 (by decide) (by omega)) λv ⟨_,u⟩=>Tot.ret u) λ_=>?_) λ_=>?_ <;>
 exact Tot.bind (aH h z _ (by show (1:Int)<=(w.2.1.length:Int);omega) (by omega)) λv ⟨_,u⟩=>Tot.ret u
theorem AE (h:fY b)(hs:bj b m s)(w:bX)(hm:m<=94000):Tot (Q222.f K (s,w,())) λr=>bj b (m+8) r.2.1:=by
 simp only[Q222.f];refine Tot.bind (aH h hs 8 (by decide) (by omega)) λv1 ⟨_,s1⟩=>Tot.bind (aH h s1 256 (by decide) (by omega)) λv2 ⟨_,s2⟩=>Tot.bind (aH h s2 16 (by decide) (by omega)) λv3 ⟨_,Z⟩=>Tot.bind (aH h Z 40 (by decide) (by omega)) λM ⟨_,y⟩=>?_
 have y:bj b (m+4) M.2.1:=y.up (by omega);generalize M.2.1=z at y ⊢;have X:bj b (m+8) z:=y.up (by omega);have R:=xX (K:=K) h y w (by omega);have O:∀ n:Int,1<=n->Tot (Q120.f K (z,n,())) λr=>bj b (m+8) r.2.1:=λn J=>(aH h y n J (by omega)).mono λr I=>I.2.up (by omega)
 have pp:∀ (H:List Int×Int) (n:Int),bj b (m+4+2) H->1<=n->Tot (Q120.f K (H,n,())) λr=>bj b (m+8) r.2.1:=λH n Y J=>(aH h Y n J (by omega)).mono λr I=>I.2.up (by omega)
 repeat' first
  |exact Tot.ret X
  |exact Tot.bind R λv u=>Tot.ret (bj.up u (by omega))
  |exact Tot.bind R λv u=>Tot.bind (pp _ _ u (by decide)) λv u=>Tot.ret u
  |exact Tot.bind (O _ (by decide)) λv u=>Tot.ret u
  |exact Tot.bind (O _ (by decide)) λv u=>Tot.cnd (λ_=>Tot.ret u) λ_=>Tot.ret u
  |refine Tot.cnd (λ_=>?_) λ_=>?_
theorem AF (h:fY b)(hs:bj b m s)(y:Int)(h1:1<=y)(h2:y<=200)(hm:m<=90000)(Z:1048577<K):Tot (Q223.f K (s,y,())) λr=>(WI r.1.2.1 2000/\r.1.1.length<=300)/\bj b (m+8*y.toNat+2) r.2.1:=by
 simp only[Q223.f,Q223.pre];have O:∀ (H:List ag) (n:Int) (z:List Int×Int) (w:bX) (q c:Nat),0<=n->n<y->H.length<=24->bj b q z->q<=m+2->WI w c->c<=200->Tot (Q223.l1 K (s,y,()) (H,n,z.1,z.2,w)) λr=>(WI r.1.2.1 2000/\r.1.1.length<=300)/\bj b (m+8*y.toNat+2) r.2.1:=λH n z w q c n0 n1 X M hq I hc=>by
  refine Tot.iter (step:=λrec a=>Q223.s1 K (s,y,()) rec a) (λa=>∃ q c:Nat,0<=a.2.1/\a.2.1<y/\(a.1.length:Int)+a.2.1<=24+y/\bj b q (a.2.2.1,a.2.2.2.1)/\q+8*a.2.1.toNat<=m+8*y.toNat+2/\WI a.2.2.2.2 c/\c+4*a.2.1.toNat<=2000) (λa=>a.2.1.toNat) ?_ K _ (by show n.toNat<K;omega) ⟨q,c,n0,n1,by show (H.length:Int)+n<=_;omega,M,by show q+8*n.toNat<=_;omega,I,by show c+4*n.toNat<=2000;omega⟩;clear M hq I hc n0 n1 X;rintro rec ⟨H,n,z1,z2,w⟩ ⟨q,c,n0,n1,X,M,hq,I,hc⟩ R;simp only at n0 n1 X M hq I hc R ⊢;simp only[Q223.s1];refine Tot.cnd (λhn=>?_) λ_=>Tot.vl (I.copy (by omega) K Z) (Tot.ret ⟨⟨I.mono (by omega),by show H.length<=300;omega⟩,M.up (by omega)⟩)
  have hn:n>0:=of_decide_eq_true hn;rw[aA (n:=n-1) (by omega) (by omega)];refine Tot.bind (AE h M w (by omega)) λe he=>Tot.fit (Tot.vl (I.copy (by omega) K Z) (Tot.bind (do_t K w c I (by omega) e.1.1 Z) ?_)) (by omega) (by simp;omega)
  rintro⟨⟨v',ok,⟨⟩⟩,⟨⟩⟩ hv;have go:∀ u:bX,WI u (c+4)->Tot (rec (H++[e.1.1],n-1,e.2.1.1,e.2.1.2,u)) λr=>(WI r.1.2.1 2000/\r.1.1.length<=300)/\bj b (m+8*y.toNat+2) r.2.1:=λu hu=>R _ ⟨q+8,c+4,by show 0<=n-1;omega,by show n-1<y;omega,by show ((H++[e.1.1]).length:Int)+(n-1)<=_;simp;omega,he,by show q+8+8*(n-1).toNat<=_;omega,hu,by show c+4+4*(n-1).toNat<=2000;omega⟩ (by show (n-1).toNat<n.toNat;omega)
  exact Tot.cnd (λ_=>go v' hv) λ_=>go w (I.mono (by omega))
 refine Tot.bind (wc K Z) λw0 Y=>Tot.bind (aH h hs 3 (by decide) (by omega)) λv2 ⟨_,s2⟩=>Tot.cnd (λ_=>?_) λ_=>Tot.bind (aH h s2 y h1 (by omega)) λv9 ⟨⟨a9,b9⟩,s9⟩=>O [] v9.1.1 v9.2.1 w0.1.1 (m+2) 8 a9 b9 (by simp) s9 (CK _) Y (by omega)
 refine Tot.iter (step:=λrec a=>Q223.s0 K (s,y,()) (Q223.l1 K (s,y,())) rec a) (λa=>0<=a.2.1/\a.2.1<=8/\(a.1.length:Int)<=3*a.2.1/\bj b (m+1) (a.2.2.1,a.2.2.2.1)/\WI a.2.2.2.2 8) (λa=>8-a.2.1.toNat) ?_ K _ (by show 8-BP 0<K;omega) ⟨by show (0:Int)<=0;omega,by show (0:Int)<=8;omega,by show ((0:Nat):Int)<=3*0;omega,s2,Y⟩;rintro rec ⟨H,i,z1,z2,w⟩ ⟨i0,i1,X,M,I⟩ R;simp only at i0 i1 X M I R ⊢;simp only[Q223.s0];refine Tot.cnd (λhi=>?_) λ_=>?_
 ·have hi:i<=7:=of_decide_eq_true hi;rw[aA (n:=i+1) (by omega) (by omega)];have go:∀ J:List ag,(J.length:Int)<=3*(i+1)->Tot (rec (J,i+1,z1,z2,w)) λr=>(WI r.1.2.1 2000/\r.1.1.length<=300)/\bj b (m+8*y.toNat+2) r.2.1:=λJ a0=>R _ ⟨by show 0<=i+1;omega,by show i+1<=8;omega,a0,M,I⟩ (by show 8-(i+1).toNat<8-i.toNat;omega)
  exact Tot.cnd (λ_=>Tot.fit (Tot.fit (go _ (by simp;omega)) (by omega) (by simp;omega)) (by omega) (by simp;omega)) λ_=>go H (by omega)
 ·refine Tot.bind (Bu K w 8 H I (by omega) (by omega) Z) λv ⟨hv,ev⟩=>Tot.bind (aH h M y h1 (by omega)) λv4 ⟨⟨a4,b4⟩,s4⟩=>?_
  exact O v.2.1 v4.1.1 v4.2.1 v.1.1 (m+1+1) _ a4 b4 (by rw[ev];omega) s4 (by omega) hv (by omega)
theorem AG (h:fY b)(y:bj b m s)(z:m<=90000)(H:1048577<K):Tot (Q224.f K (s,())) λr=>WI r.1.1 2000/\bj b (m+802) r.2.1:=by
 simp only[Q224.f];exact Tot.bind (AF h y 100 (by decide) (by decide) z H) λv u=>Tot.ret ⟨u.1.1,u.2⟩
theorem zo (h:fY b)(H:bj b m s)(I:m<=90000)(J:1048577<K):Tot (Q225.f K (s,())) λr=>(∃ i,dR i r.1.1)/\bj b (m+803) r.2.1:=by
 simp only[Q225.f];refine Tot.bind (AG h H I J) λw ⟨u,O⟩=>Tot.bind (aH h O _ (by have:=u.len;show (1:Int)<=(w.1.1.1.length:Int);omega) (by omega)) λv ⟨⟨a,b⟩,R⟩=>Tot.ix a b λy M _=>Tot.ret ⟨?_,R⟩
 obtain⟨i,z,rfl⟩:=B5 M;exact⟨i,u.node i z⟩
structure NS (c:Nat) (n:aa):Prop where
 nb:NB n
 table:(aa.table n).length<=c
 cast:(aa.cast n).length<=c
 doubts:(aa.doubts n).length<=c
 places:(aa.places n).length<=c
 others:(aa.others n).length<=c
theorem dR.ns {i:Nat}{n:aa}(h:dR i n):NS 8 n:=by
 cases y:n.2.1 with
 |true =>
  have r:=h.up y;refine⟨h.nb,by have:=h.short;omega,by have:=clen r.x.say;omega,?_,?_,?_⟩
  ·exact BV (iW r.x.say.asc r.x.say.inp) (by decide)
  ·exact BV (iW r.x.places.2 λx u=>(r.x.places.1 x u).1) (by decide)
  ·exact BV (iW r.x.others.2 λx u=>⟨(r.x.others.1 x u).1.1,Int.le_trans (r.x.others.1 x u).1.2 (by decide)⟩) (by decide)
 |false =>
  have e:=h.down y;refine⟨h.nb,?_,?_,?_,?_,?_⟩ <;> rw[e] <;> exact BZ _
theorem xY (h:fY b)(hs:bj b m s)(n:aa){c:Nat}(hn:NS c n)(h8:8<=c)(hc:c<=1000)(hm:m<=90000)(hK:1048577<K):Tot (Q133.f K (s,n,())) λr=>NS (c+1) r.1.1/\bj b (m+60) r.2.1:=by
 simp only[Q133.f,zcp4,zcp8];rw[jK K n hn.nb hK];simp only[BK];obtain⟨⟨n1,n2,n3,O,n5,R,n7,X⟩,Y,l2,l3,l4,Z⟩:=hn;refine Tot.bind (aH h hs 12 (by decide) (by omega)) λv2 ⟨_,I⟩=>?_
 have u:∀ (n':aa) (z:List Int×Int),n'.2.2.2.2.2.2.2.2=n.2.2.2.2.2.2.2.2->bj b (m+60) z->NS (c+1) n'/\bj b (m+60) z:=λn' z e hz=>by
  refine⟨⟨⟨?_,?_,?_,?_,?_,?_,?_,?_⟩,?_,?_,?_,?_,?_⟩,hz⟩ <;> simp only[aa.table,aa.cast,aa.doubts,aa.places,aa.others] <;> rw[e] <;> first|assumption|(refine BV ?_ (CU c);assumption)
 have u2:bj b (m+60) v2.2.1:=I.up (by omega);refine Tot.cnd (λ_=>Tot.bind (pY h I (by omega) hK) λt ⟨tl,J⟩=>Tot.ret ⟨⟨⟨by show t.1.1.length<=_;omega,n2,n3,O,n5,R,n7,X⟩,by show t.1.1.length<=_;omega,BM l2,BM l3,BM l4,BM Z⟩,J.up (by omega)⟩) λ_=>?_
 refine Tot.cnd (λ_=>Tot.bind (we h I (by omega) hK) λt ⟨tl,J⟩=>Tot.ret ⟨⟨⟨n1,by show t.1.1.length<=_;omega,n3,O,n5,R,n7,X⟩,BM Y,by show t.1.1.length<=_;omega,BM l3,BM l4,BM Z⟩,J.up (by omega)⟩) λ_=>?_
 refine Tot.cnd (λ_=>Tot.ret (u _ _ rfl u2)) λ_=>?_
 refine Tot.cnd (λ_=>Tot.bind (aH h I 9 (by decide) (by omega)) λv5 ⟨_,s5⟩=>Tot.bind (aH h s5 3 (by decide) (by omega)) λv6 ⟨_,s6⟩=>Tot.bind (aH h s6 3 (by decide) (by omega)) λv7 ⟨_,s7⟩=>Tot.bind (aH h s7 2 (by decide) (by omega)) λv8 ⟨_,s8⟩=>Tot.ret ⟨⟨⟨n1,n2,n3,O,n5,R,n7,X⟩,BM Y,BM l2,BM l3,BM l4,BM Z⟩,s8.up (by omega)⟩) λ_=>?_
 refine Tot.cnd (λ_=>Tot.bind (aH h I 8 (by decide) (by omega)) λv9 ⟨_,M⟩=>Tot.bind (aH h M 8 (by decide) (by omega)) λa1 ⟨_,H⟩=>Tot.fit (Tot.ret ⟨⟨⟨n1,n2,?_,?_,n5,R,n7,X⟩,BM Y,BM l2,?_,BM l4,BM Z⟩,H.up (by omega)⟩) (by omega) ?_) λ_=>?_
 ·show (aa.doubts n++[_]).length<=_;simp;omega
 ·intro d y;rcases BU.1 y with y|y
  ·exact O d y
  ·rw[BO.1 y];show ([a1.1.1]:List Int).length<=_;simp
 ·show (aa.doubts n++[_]).length<=_;simp;omega
 ·show (aa.doubts n).length+_<=_;simp;omega
 refine Tot.cnd (λ_=>Tot.bind (pZ h I (by omega)) λc J=>Tot.ret ⟨⟨⟨n1,n2,n3,O,n5,R,n7,X⟩,BM Y,BM l2,BM l3,BM l4,BM Z⟩,J.up (by omega)⟩) λ_=>?_
 refine Tot.cnd (λ_=>Tot.bind (aH h I 9 (by decide) (by omega)) λv9 ⟨_,M⟩=>Tot.bind (pZ h M (by omega)) λc H=>Tot.bind (aH h H 3 (by decide) (by omega)) λa2 ⟨_,a0⟩=>Tot.fit (Tot.ret ⟨⟨⟨n1,n2,n3,O,?_,?_,n7,X⟩,BM Y,BM l2,BM l3,?_,BM Z⟩,a0.up (by omega)⟩) (by omega) ?_) λ_=>?_
 ·show (aa.places n++[_]).length<=_;simp;omega
 ·intro d y;rcases BU.1 y with y|y
  ·exact R d y
  ·rw[BO.1 y];show ([a2.1.1]:List Int).length<=_;simp
 ·show (aa.places n++[_]).length<=_;simp;omega
 ·show (aa.places n).length+_<=_;simp;omega
 refine Tot.cnd (λ_=>Tot.bind (aH h I 3 (by decide) (by omega)) λv9 ⟨_,M⟩=>Tot.bind (pY h M (by omega) hK) λt ⟨tl,H⟩=>Tot.fit (Tot.ret ⟨⟨⟨n1,n2,n3,O,n5,R,?_,?_⟩,BM Y,BM l2,BM l3,BM l4,?_⟩,H.up (by omega)⟩) (by omega) ?_) λ_=>?_
 ·show (aa.others n++[_]).length<=_;simp;omega
 ·intro d y;rcases BU.1 y with y|y
  ·exact X d y
  ·rw[BO.1 y];show t.1.1.length<=_;omega
 ·show (aa.others n++[_]).length<=_;simp;omega
 ·show (aa.others n).length+_<=_;simp;omega
 refine Tot.cnd (λ_=>Tot.ret (u _ _ rfl u2)) λ_=>Tot.cnd (λ_=>Tot.ret (u _ _ rfl u2)) λ_=>?_
 refine Tot.cnd (λ_=>Tot.bind (aH h I 3 (by decide) (by omega)) λv ⟨⟨a,b⟩,J⟩=>Tot.ix2 a b λ_ _ _=>Tot.ret (u _ _ rfl (J.up (by omega)))) λ_=>?_
 exact Tot.bind (aH h I 8 (by decide) (by omega)) λv9 ⟨_,M⟩=>Tot.bind (aH h M 3 (by decide) (by omega)) λv ⟨⟨a,b⟩,J⟩=>Tot.ix2 a b λ_ _ _=>Tot.ret (u _ _ rfl (J.up (by omega)))
end
section
variable {K:Nat} {b:List Int} {m:Nat} {s:List Int×Int}
theorem xZ (h:fY b)(M:bj b m s)(hm:m<=89000)(u:1048577<K):Tot (Q226.f K (s,())) λr=>NS 9 r.1.1/\bj b (m+864) r.2.1:=by
 simp only[Q226.f];refine Tot.bind (zo h M (by omega) u) λn ⟨⟨i,z⟩,R⟩=>Tot.bind (aH h R 20 (by decide) (by omega)) λv ⟨_,y⟩=>Tot.cnd (λ_=>Tot.bind (xY h y n.1.1 z.ns (CK _) (by omega) (by omega) u) λr H=>Tot.ret H) λ_=>Tot.ret ⟨?_,y.up (by omega)⟩
 obtain⟨J,O,Y,Z,I,X⟩:=z.ns;exact⟨J,BM O,BM Y,BM Z,BM I,BM X⟩
end
theorem bj.zero (b:List Int):bj b 0 (b,0):=⟨0,CK _,rfl⟩
structure x3 (code:List Int):Prop where
 byte:∀ y∈code,0<=y/\y<=255
 len:code.length<=9223372036854775807
theorem ou (K:Nat)(xs:List Int)(y:xs.length<=1048576)(z:1048577<K):Q231.f K (xs,xs,())=rb true:=by
 have r:Q231.l0 K (xs,xs,()) 0=rb true:=by
  refine ez (step:=λrec a=>Q231.s0 K (xs,xs,()) rec a) xs.length (λi=>(i:Int)) (rb true) ?_ ?_ (by omega)
  ·intro rec i u;simp only[Q231.s0];rw[decide_eq_true (by omega:(i:Int)<(BL xs:Int)),af u,ar i (by omega)];simp only[cond_true,BK,bne_self_eq_false,cond_false]
  ·intro rec;simp only[Q231.s0,aP];rfl
 simp only[Q231.f,Q231.pre,bne_self_eq_false,cond_false];exact r
theorem tz (K:Nat)(xs:List aM)(y:xs.length<=1048576)(z:1048577<K):Q230.f K (xs,xs,())=rb true:=by
 have r:Q230.l0 K (xs,xs,()) 0=rb true:=by
  refine ez (step:=λrec a=>Q230.s0 K (xs,xs,()) rec a) xs.length (λi=>(i:Int)) (rb true) ?_ ?_ (by omega)
  ·intro rec i u;simp only[Q230.s0];rw[decide_eq_true (by omega:(i:Int)<(BL xs:Int)),af u,ar i (by omega)];simp only[cond_true,BK];rw[show Ty.eqv t3 xs[i] xs[i]=true by
    show (Ty.eqv t2 xs[i].1 xs[i].1&&decide (xs[i].2=xs[i].2))=true;rw[show Ty.eqv t2 xs[i].1 xs[i].1=decide (xs[i].1=xs[i].1) from hH _ _,decide_eq_true rfl,decide_eq_true rfl];rfl]
   rfl
  ·intro rec;simp only[Q230.s0,aP];rfl
 simp only[Q230.f,Q230.pre,bne_self_eq_false,cond_false];exact r
theorem uz (K:Nat)(n:aa)(u:NB n)(y:1048577<K):Q232.f K (n,n,())=rb true:=by
 have J:Q232.l2 K (n,n,()) 0=rb true:=by
  have z:=u.others;refine ez (step:=λrec a=>Q232.s2 K (n,n,()) rec a) (aa.others n).length (λi=>(i:Int)) (rb true) ?_ ?_ (by omega)
  ·intro rec i r;simp only[Q232.s2];rw[bk (by omega:(i:Int)<(BL (aa.others n):Int)),af r,ar i (by omega)];simp only[cond_true,BK,bne_self_eq_false,cond_false];refine (congrArg (λo=>BN o _) (kA K _ (u.facts _ (BS r)) y)).trans rfl
  ·intro rec;simp only[Q232.s2,aP];rfl
 have H:Q232.l1 K (n,n,()) 0=rb true:=by
  have z:=u.places;refine ez (step:=λrec a=>Q232.s1 K (n,n,()) (Q232.l2 K (n,n,())) rec a) (aa.places n).length (λi=>(i:Int)) (rb true) ?_ ?_ (by omega)
  ·intro rec i r;simp only[Q232.s1];rw[bk (by omega:(i:Int)<(BL (aa.places n):Int)),af r,ar i (by omega)];simp only[cond_true,BK,bne_self_eq_false,cond_false];rw[show Ty.eqv t9 (aa.places n)[i].2.1 (aa.places n)[i].2.1=decide ((aa.places n)[i].2.1=(aa.places n)[i].2.1) from pB _ _,decide_eq_true rfl];simp only[BR,cond_false];refine (congrArg (λo=>BN o _) (ou K _ (u.trips _ (BS r)) y)).trans rfl
  ·intro rec;simp only[Q232.s1,aP];exact J
 have I:Q232.l0 K (n,n,()) 0=rb true:=by
  have z:=u.doubts;refine ez (step:=λrec a=>Q232.s0 K (n,n,()) (Q232.l1 K (n,n,())) rec a) (aa.doubts n).length (λi=>(i:Int)) (rb true) ?_ ?_ (by omega)
  ·intro rec i r;simp only[Q232.s0];rw[bk (by omega:(i:Int)<(BL (aa.doubts n):Int)),af r,ar i (by omega)];simp only[cond_true,BK,bne_self_eq_false,cond_false];refine (congrArg (λo=>BN o _) (ou K _ (u.by_ _ (BS r)) y)).trans rfl
  ·intro rec;simp only[Q232.s0,aP];exact H
 simp only[Q232.f,Q232.pre,bne_self_eq_false,cond_false];refine (congrArg (λo=>BN o _) (kA K (aa.table n) u.table y)).trans ?_;simp only[rb,BK,BR,cond_false];refine (congrArg (λo=>BN o _) (tz K (aa.cast n) u.cast y)).trans ?_;simp only[rb,BK,BR,cond_false];rw[show Ty.eqv t2 n.2.2.2.2.2.2.2.2.2.2.1 n.2.2.2.2.2.2.2.2.2.2.1=decide (aa.probe n=aa.probe n) from hH _ _,show Ty.eqv t9 n.2.2.2.2.2.2.2.2.2.2.2.2.1 n.2.2.2.2.2.2.2.2.2.2.2.2.1=decide (aa.coord n=aa.coord n) from pB _ _,decide_eq_true rfl,decide_eq_true rfl];exact I
theorem p6 (K:Nat){t:List ag}{f:ag}(r:ax t)(u:f∈t)(y:1048577<K):Q37.f K (t,f.1,())=some ((f,true,()),()):=by
 rcases gv K t f.1 (cq r) y with ⟨h,_⟩|⟨_,⟨g,z,e,h⟩|⟨h,_⟩⟩
 ·exact absurd r h
 ·rw[h,gw r.2 z u e]
 ·exact absurd rfl (h f u)
structure gW (n m:aa):Prop where
 ok:b8 m
 me:m.1=n.1
 now_:m.2.2.2.2.2.1=n.2.2.2.2.2.1
 seq:m.2.2.2.2.2.2.1=n.2.2.2.2.2.2.1
 turn:m.2.2.2.2.2.2.2.1=n.2.2.2.2.2.2.2.1
 rest:m.2.2.2.2.2.2.2.2.2.2.2.2=n.2.2.2.2.2.2.2.2.2.2.2.2
 by_:∀ d∈aa.doubts m,d.2.2.2.length<=1048576
theorem gW.say {n m:aa}(h:gW n m){f:ag}(b:Int)(y:bA f):gW n (sayOf m f b):=by
 obtain⟨H,_,_,_,_,u,z,I,_,r⟩:=dj m f b;exact⟨jl h.ok y,H.trans h.me,u.trans h.now_,z.trans h.seq,I.trans h.turn,r.trans h.rest,yP h.by_⟩
theorem gW.setP {n m:aa}(h:gW n m)(p:ag):gW n (setP m p):=⟨h.ok.setP p,h.me,h.now_,h.seq,h.turn,h.rest,h.by_⟩
theorem gW.nb {n m:aa}(h:gW n m)(u:NB n):NB m:=by
 have y:aa.places m=aa.places n:=congrArg (λr=>r.2.1) h.rest;have z:aa.others m=aa.others n:=congrArg (λr=>r.2.2) h.rest;exact⟨h.ok.lt,h.ok.lc,h.ok.ld,h.by_,by rw[y];exact u.places,by rw[y];exact u.trips,by rw[z];exact u.others,by rw[z];exact u.facts⟩
theorem gW.far {n m:aa}(h:gW n m)(u:ia n):ia m:=by
 have y:aa.others m=aa.others n:=congrArg (λr=>r.2.2) h.rest;exact⟨by rw[y];exact u.short,by rw[y];exact u.table⟩
theorem x4 {n:aa}(h:gW n n)(y:∀ d∈aa.doubts n,∃ f∈aa.table n,f.1=d.1):gW n (dA n)/\aa.probe (dA n)=aa.probe n:=by
 have:=jm (st:=cN) (Inv:=λm=>jN (aa.doubts n) n.2.2.2.2.2.1 m/\gW n m/\aa.probe m=aa.probe n) (ds:=aa.doubts n) (n:=n) ⟨⟨h.ok,y,rfl⟩,h,rfl⟩ (λm d u r=>by
  refine⟨li r.1 u,?_⟩;unfold cN;cases gV m.2.2.2.2.2.1 d.2.2.1 d.2.2.2.length with
  |false=>exact r.2
  |true =>
   have z:=lL (cE r.1.ok.table (r.1.key d u)).1;exact⟨r.2.1.say _ z,(dj m _ _).2.2.2.2.2.2.2.2.1.trans r.2.2⟩)
 exact this.2
theorem uA {n m:aa}(h:gW n m):gW n (a8 m).1/\((aa.probe (a8 m).1).1=-1\/(aa.probe (a8 m).1).1=(aa.probe m).1)/\(a8 m).2.length<=2/\∀ w∈(a8 m).2,(aq.table w).length<=1048576:=by
 unfold a8;cases z:(aa.probe m).1==-1 with
 |true=>exact⟨h,.inr rfl,by simp,by simp⟩
 |false =>
  simp only[cond_false];cases r:cL (aC (aa.table m) (aa.probe m).1) with
  |false=>exact⟨h.setP _,.inl rfl,by simp,by simp⟩
  |true =>
   have u:=cE h.ok.table (eo r);simp only[BR,cond_false];cases decide (m.2.2.2.2.2.1-(aa.probe m).2.1>=4) with
   |true =>
    simp only[cond_true];cases (aC (aa.table m) (aa.probe m).1).2.2.1==1 with
    |true=>exact⟨(h.setP noP).say _ (qy u.1),.inl (congrArg (·.1) (dj (setP m noP) _ _).2.2.2.2.2.2.2.2.1),by simp,by simp⟩
    |false=>exact⟨h.setP _,.inl rfl,by simp,by simp⟩
   |false =>
    simp only[cond_false];cases decide (m.2.2.2.2.2.1-(aa.probe m).2.1>=2) with
    |false=>exact⟨h,.inr rfl,by simp,by simp⟩
    |true =>
     simp only[cond_true];cases (aa.probe m).2.2.2 with
     |true=>exact⟨h,.inr rfl,by simp,by simp⟩
     |false =>
      refine⟨h.setP _,.inr rfl,?_,λw y=>?_⟩
      ·show ((cF m).map (askW m)).length<=2;rw[CC];exact CV _ _
      ·obtain⟨to,_,rfl⟩:=B3.1 y;exact BZ _
theorem zp {n:aa}(z:ia n)(y:(aa.table n).length<=1048576)(r:Int):(eY n r).length<=2/\∀ w∈eY n r,(aq.table w).length<=1048576:=by
 unfold eY;cases aR .i64 r 3==1 with
 |true =>
  simp only[cond_true,it];cases iN n with
  |false=>exact⟨by simp,by simp⟩
  |true =>
   refine⟨?_,λw u=>?_⟩
   ·show ((([0,1]:List Int).filter (λs=>s != ao n.1)).map _).length<=2;rw[CC];exact CI _ _
   ·obtain⟨s,_,rfl⟩:=B3.1 u;exact y
 |false =>
  simp only[cond_false];cases (aR .i64 r 3==3||decide (ce n=[])) with
  |true=>exact⟨by simp,by simp⟩
  |false =>
   simp only[cond_false];cases aR .i64 r 3==0 with
   |true =>
    refine⟨by simp,λw u=>?_⟩;rw[cond_true,BO]at u;subst u;exact y
   |false =>
    simp only[cond_false,na]
    match H:aa.others n with
    |[]=>exact⟨by simp,by simp⟩
    |x::_ =>
     refine⟨by simp,λw u=>?_⟩;rw[BO]at u;subst u;exact (z.table x (by rw[H];simp)).2
def d8 (n:aa):aa:=(n.1,n.2.1,n.2.2.1,n.2.2.2.1,n.2.2.2.2.1,n.2.2.2.2.2.1+1,n.2.2.2.2.2.2)
theorem x5 (K:Nat)(n:aa)(z:Int)(Y:NB n)(hP:gb n)(hu:n.2.1=true)(hg:n.2.2.1=false)(a6:¬ n.2.2.2.2.2.1>=999999)(hK:1048577<K) :
  ∃ (y:aa) (O:List aq),NB y/\O.length<=1048576/\(∀ w∈O,(aq.table w).length<=1048576)/\Q211.f K (n,z,())=some ((y,O,()),())/\Q110.f K (n,z,())=some ((O,()),(y,())):=by
 have hU:=hP.up hu;have hs:=hU.say;obtain⟨hT,_,_,_,a2,hD,_,_,hO⟩:=hU;obtain⟨⟨cp,cw⟩,⟨e0,e3⟩,⟨c0,dd⟩,⟨b2,b5⟩,_⟩:=hP;have d4:=m8 ⟨cp,cw⟩ hO;have a5:ia n:=⟨by rcases d4 with e|⟨x,e⟩ <;> rw[e] <;> simp,λx hx=>⟨(hO.1 x hx).2.2.2.1,Y.facts x hx⟩⟩;have bn:gW (d8 n) (d8 n):=⟨⟨hs.table,hs.cast,hs.asc,hs.inp,hs.lt,hs.lc,hs.ld⟩,rfl,rfl,rfl,rfl,rfl,Y.by_⟩;have d3:NB (d8 n):=⟨Y.table,Y.cast,Y.doubts,Y.by_,Y.places,Y.trips,Y.others,Y.facts⟩;have d1:ia (d8 n):=⟨a5.short,a5.table⟩;have a4:∀ d∈aa.doubts (d8 n),∃ f∈aa.table (d8 n),f.1=d.1:=λd hd=>by
  obtain⟨f,hf,e,_⟩:=(hD.1 d hd).1;exact⟨f,hf,e⟩
 have bx:∀ d∈aa.doubts (d8 n),0<=d.2.2.1/\d.2.2.1<=(d8 n).2.2.2.2.2.1/\d.2.2.2.length<=1048576:=λd hd=>by
  obtain⟨s0,s1⟩:=(hD.1 d hd).2.1;refine⟨s0,?_,Y.by_ d hd⟩;show d.2.2.1<=n.2.2.2.2.2.1+1;omega
 have c3:jN (aa.doubts (d8 n)) (d8 n).2.2.2.2.2.1 (d8 n):=⟨bn.ok,a4,rfl⟩;have a3:(d8 n).2.2.2.2.2.1<=1000000:=by show n.2.2.2.2.2.1+1<=1000000;omega
 have eD:=xk K (d8 n) c3 bx a3 hK;have eB:=Bc K (d8 n) c3 bx a3 hK;obtain⟨X,a0⟩:=x4 bn a4;generalize dA (d8 n)=m at eD eB X a0;have a0:aa.probe m=aa.probe n:=a0;have u:((aa.probe m).1=-1\/0<=(aa.probe m).1)/\0<=(aa.probe m).2.1/\(aa.probe m).2.1<=1000000:=by
  rw[a0];unfold cW at a2;split at a2
  ·rename_i h1;rw[a2];exact⟨.inl rfl,by show (0:Int)<=0;omega,by show (0:Int)<=1000000;omega⟩
  ·obtain⟨_,⟨f,hf,e⟩,⟨s0,s1⟩,_⟩:=a2;have:=(hT.1 f hf).1.1;exact⟨.inr (e ▸ this),s0,by omega⟩
 have cy:m.2.2.2.2.2.1=n.2.2.2.2.2.1+1:=X.now_;have eF:=yQ K m X.ok u.2.1 u.2.2 (by omega) (by omega) hK;have eW:=λd2=>xo K m X.ok d2 u.2.1 u.2.2 (by omega) (by omega) hK
 obtain⟨r,b0,ba,b3⟩:=uA X;have Z:(aa.probe m).1=-1->a8 m=(m,[]):=λh=>by unfold a8;rw[show ((aa.probe m).1==-1)=true by simpa using h];rfl
 generalize R:a8 m=fo at eF eW r b0 ba b3 Z;obtain⟨H,cu⟩:=fo;simp only at eF eW r b0 ba b3;have c1:∃ (y:aa) (O:List aq),Q100.f K (H,())=some ((O,()),(y,()))/\((aa.probe H).1=-1->Q204.f K (H,())=some ((y,O,()),()))/\((aa.probe H).1≠-1->y=H/\O=[])/\NB y/\ia y/\ax (aa.table y)/\O.length<=1/\∀ w∈O,(aq.table w).length<=1048576:=by
  have J:=r.nb d3;have R:=r.far d1;by_cases I:(aa.probe H).1=-1
  ·obtain⟨y,O,e1,e2,h3⟩:=za K H r.ok I (by rw[r.seq];exact c0) (by rw[r.seq];show n.2.2.2.2.2.2.1<=1000000;omega) (by rw[r.turn];exact b2) (by rw[r.turn];exact b5) hK;refine⟨y,O,e2,λ_=>e1,λh=>absurd I h,?_⟩;rcases h3 with ⟨rfl,rfl⟩|⟨to,rfl,rfl⟩
   ·exact⟨J,R,r.ok.table,by simp,by simp⟩
   ·have M:=Bh r.ok;refine⟨⟨M.lt,M.lc,M.ld,J.by_,J.places,J.trips,J.others,J.facts⟩,⟨R.short,R.table⟩,M.table,by simp,λw b9=>?_⟩;rw[BO]at b9;subst b9;exact cq (kn r.ok to)
  ·refine⟨H,[],?_,λh=>absurd h I,λ_=>⟨rfl,rfl⟩,J,R,r.ok.table,by simp,by simp⟩;simp only[Q100.f,Q100.pre];rw[show (H.2.2.2.2.2.2.2.2.2.2.1.1 != -1)=true by show ((aa.probe H).1 != -1)=true;simpa using I];rfl
 obtain⟨y,cx,eA,bb,b4,a1,b1,c4,e4,cc⟩:=c1;have c2:=An K y z a1 b1 c4 hK;have eM:=xC K y z b1 c4 a1.table hK;obtain⟨cb,bl⟩:=zp b1 a1.table z;generalize eY y z=dc at c2 eM cb bl;have ad:(n.1,n.2.1,n.2.2.1,n.2.2.2.1,n.2.2.2.2.1,wr .i64 (n.2.2.2.2.2.1+1),n.2.2.2.2.2.2)=d8 n:=by
  rw[aA (by omega) (by omega)];rfl
 refine⟨y,(cu++cx)++dc,a1,by simp only[BT];omega,λw M=>?_,?_,?_⟩
 ·simp only[BU]at M;rcases M with (M|M)|M
  ·exact b3 w M
  ·exact cc w M
  ·exact bl w M
 ·simp only[Q211.f,zcp4];rw[ad,hu,hg,decide_eq_false a6];simp only[BR,cond_false];rw[eD];simp only[BK];by_cases I:(aa.probe m).1=-1
  ·obtain⟨rfl,rfl⟩:=Prod.mk.inj (Z I);rw[show decide (H.2.2.2.2.2.2.2.2.2.2.1.1>=0)=false from decide_eq_false (by show ¬ (aa.probe H).1>=0;omega),show decide (H.2.2.2.2.2.2.2.2.2.2.1.1<0)=true from decide_eq_true (by show (aa.probe H).1<0;omega)];simp only[cond_true,cond_false];rw[bb I];simp only[BK];rw[szw _ _ _ (by omega) (by simp only[CE];omega)];simp only[cond_true];rw[eM];simp only[BK];rw[szw _ _ _ (by omega) (by simp only[BT,CE];omega)];rfl
  ·rw[show decide (m.2.2.2.2.2.2.2.2.2.2.1.1>=0)=true from decide_eq_true (by show (aa.probe m).1>=0;omega)];simp only[cond_true];rw[eW I];simp only[BK];by_cases a9:(aa.probe H).1=-1
   ·rw[show decide (H.2.2.2.2.2.2.2.2.2.2.1.1<0)=true from decide_eq_true (by show (aa.probe H).1<0;omega)];simp only[cond_true];rw[bb a9];simp only[BK];rw[szw _ _ _ (by omega) (by omega)];simp only[cond_true];rw[eM];simp only[BK];rw[szw _ _ _ (by omega) (by simp only[BT];omega)];rfl
   ·rw[show decide (H.2.2.2.2.2.2.2.2.2.2.1.1<0)=false from decide_eq_false (by show ¬ (aa.probe H).1<0;rcases b0 with h|h <;> omega)];obtain⟨rfl,rfl⟩:=b4 a9;simp only[cond_false];rw[eM];simp only[BK];rw[szw _ _ _ (by omega) (by omega),CM];rfl
 ·simp only[Q110.f,zcp4,Q65.f];rw[ad,hu,hg,decide_eq_false a6];simp only[cond_true,BK,CF,BR,cond_false];rw[eB];simp only[BK];rw[eF];simp only[BK];rw[eA];simp only[BK];rw[szw _ _ _ (by omega) (by omega)];simp only[cond_true];rw[c2];simp only[BK];rw[szw _ _ _ (by omega) (by simp only[BT];omega)];rfl
theorem x6 (K:Nat)(n y:aa)(z:List aq)(r:Int)(I:NB n)(u:Q64.f K (n,())=rb true)(H:Q110.f K (n,r,())=some ((z,()),(y,())))(J:1048577<K):Q115.f K (n,r,())=some ((y,z,()),()):=by
 simp only[Q115.f,Q114.f];rw[u];simp only[BK,BR,cond_false];rw[yO K n I J];simp only[BK,Q111.f];rw[H];simp only[BK,Q113.f];simp
theorem rZ (K:Nat)(n:aa)(r:Int)(J:NB n)(I:1048577<K):∃ y:aa,∃ u:List aq,NB y/\u.length<=1048576/\(∀ w∈u,(aq.table w).length<=1048576)/\Q228.f K (n,r,())=some ((y,u,()),())/\Q115.f K (n,r,())=some ((y,u,()),()):=by
 obtain⟨b,Y,Z,h3⟩:=jA K n J I;cases b with
 |false =>
  refine⟨sU,[],uk,by simp,by simp,?_,?_⟩
  ·simp only[Q228.f];rw[Y];rfl
  ·simp only[Q115.f,Q114.f];rw[Z];rfl
 |true =>
  have hP:=h3.1 rfl;have z:=jK K n J I;have hb:∃ (y:aa) (u:List aq),NB y/\u.length<=1048576/\(∀ w∈u,(aq.table w).length<=1048576)/\Q211.f K (n,r,())=some ((y,u,()),())/\Q110.f K (n,r,())=some ((u,()),(y,())):=by
   by_cases H:n.2.1=true/\n.2.2.1=false/\¬ n.2.2.2.2.2.1>=999999
   ·exact x5 K n r J hP H.1 H.2.1 H.2.2 I
   ·refine⟨n,[],J,by simp,by simp,?_,?_⟩
    ·simp only[Q211.f,zcp4];cases X:n.2.1 with
     |false=>rfl
     |true =>
      cases O:n.2.2.1 with
      |true=>rfl
      |false =>
       have:n.2.2.2.2.2.1>=999999:=by by_cases h:n.2.2.2.2.2.1>=999999;exact h;exact absurd ⟨X,O,h⟩ H
       rw[decide_eq_true this];rfl
    ·simp only[Q110.f,zcp4,Q65.f];cases X:n.2.1 with
     |false=>rfl
     |true =>
      cases O:n.2.2.1 with
      |true=>rfl
      |false =>
       have:n.2.2.2.2.2.1>=999999:=by by_cases h:n.2.2.2.2.2.1>=999999;exact h;exact absurd ⟨X,O,h⟩ H
       rw[decide_eq_true this];rfl
  obtain⟨y,u,hy,R,M,H,hi⟩:=hb;refine⟨y,u,hy,R,M,?_,x6 K n y u r J Z hi I⟩;simp only[Q228.f];rw[Y];simp only[BK,BR,cond_false];rw[z];simp only[BK];rw[H];simp only[BK];rw[jK K y hy I];rfl
theorem wg (K:Nat)(u:List Int)(z:x3 u)(I:1048577<K):Tot (Q227.f K (u,())) λr=>NS 9 r.1.1:=by
 obtain⟨H,y,e⟩:=Bv (K:=K) u z.byte z.len;simp only[Q227.f];exact Tot.vl e (Tot.bind (xZ y (bj.zero H) (by omega) I) λn ⟨J,M⟩=>Tot.bind (aH y M 4096 (by decide) (by omega)) λv ⟨_,O⟩=>Tot.bind (aH y O 4 (by decide) (by omega)) λ_ _=>Tot.ret J)
theorem uB (K:Nat)(w:aq)(u:(aq.table w).length<=1048576)(r:1048577<K):Q233.f K (w,w,())=rb true:=by
 simp only[Q233.f,beq_self_eq_true,cond_true];rw[show Ty.eqv t9 w.2.2.2.2.2.2.1 w.2.2.2.2.2.2.1=decide (w.2.2.2.2.2.2.1=w.2.2.2.2.2.2.1) from pB _ _,decide_eq_true rfl];simp only[cond_true];exact (congrArg (λo=>BN o _) (kA K (aq.table w) u r)).trans rfl
theorem tA (K:Nat)(xs:List aq)(H:xs.length<=1048576)(z:∀ w∈xs,(aq.table w).length<=1048576)(y:1048577<K):Q234.f K (xs,xs,())=rb true:=by
 have u:Q234.l0 K (xs,xs,()) 0=rb true:=by
  refine ez (step:=λrec a=>Q234.s0 K (xs,xs,()) rec a) xs.length (λi=>(i:Int)) (rb true) ?_ ?_ (by omega)
  ·intro rec i r;simp only[Q234.s0];rw[bk (by omega:(i:Int)<(BL xs:Int)),af r,ar i (by omega)];simp only[cond_true,BK];exact (congrArg (λo=>BN o _) (uB K _ (z _ (BS r)) y)).trans rfl
  ·intro rec;simp only[Q234.s0,aP];rfl
 simp only[Q234.f,Q234.pre,bne_self_eq_false,cond_false];exact u
theorem wh (K:Nat)(n:aa)(r:Int)(z:NB n)(h:UpN n)(M:n.2.2.1=false)(y:aU n<999999)(u:1048577<K):Q228.f K (n,r,())=some ((ge n,mp n r,()),()):=by
 obtain⟨b,J,_,H⟩:=jA K n z u;have I:=H.2 h.ok;subst I;simp only[Q228.f];rw[J];simp only[rb,BK,BR,cond_false];rw[jK K n z u];simp only[BK];rw[xR K n r h M y u];simp only[BK];rw[jK K _ (nU h y).1.nb u];rfl
theorem uC (K:Nat)(n:aa)(r:Int)(I:NB n)(H:1048577<K):∃ y:aa,∃ u:List aq,NB y/\u.length<=1048576/\(∀ w∈u,(aq.table w).length<=1048576)/\Q228.f K (n,r,())=some ((y,u,()),())/\Q115.f K (n,r,())=some ((y,u,()),()) /\
  (gb n->((n.2.1=true/\n.2.2.1=false/\aU n<999999)/\y=ge n/\u=mp n r)\/(¬ (n.2.1=true/\n.2.2.1=false/\aU n<999999)/\y=n/\u=[])):=by
 obtain⟨y,u,Y,h2,h3,M,X⟩:=rZ K n r I H;refine⟨y,u,Y,h2,h3,M,X,λO=>?_⟩;by_cases z:n.2.1=true/\n.2.2.1=false/\aU n<999999
 ·have:=wh K n r I (UpN.of O z.1) z.2.1 z.2.2 H;rw[M]at this;simp only[Ca,Ch,and_true]at this;exact .inl ⟨z,this⟩
 ·right;refine⟨z,?_⟩;obtain⟨b,o1,_,Z⟩:=jA K n I H;have hb:=Z.2 O;subst hb;have J:Q211.f K (n,r,())=some ((n,[],()),()):=by
   simp only[Q211.f,zcp4];cases hu:n.2.1 with
   |false=>rfl
   |true =>
    cases R:n.2.2.1 with
    |true=>rfl
    |false =>
     have:n.2.2.2.2.2.1>=999999:=by by_cases h:n.2.2.2.2.2.1>=999999;exact h;exact absurd ⟨hu,R,by have e:aU n=n.2.2.2.2.2.1:=rfl;omega⟩ z
     rw[decide_eq_true this];rfl
  have:Q228.f K (n,r,())=some ((n,[],()),()):=by
   simp only[Q228.f];rw[o1];simp only[rb,BK,BR,cond_false];rw[jK K n I H];simp only[BK];rw[J];simp only[BK];rw[jK K n I H];rfl
  rw[M]at this;simp only[Ca,Ch,and_true]at this;exact this
theorem x7 (n:aa):aa.probe (dA n)=aa.probe n/\aU (dA n)=aU n:=by
 unfold dA;generalize aa.doubts n=y;induction y generalizing n with
 |nil=>exact⟨rfl,rfl⟩
 |cons d y r =>
  rw[List.foldl_cons];have u:aa.probe (cN n d)=aa.probe n/\aU (cN n d)=aU n:=by
   unfold cN;cases gV n.2.2.2.2.2.1 d.2.2.1 d.2.2.2.length with
   |false=>exact⟨rfl,rfl⟩
   |true =>
    obtain⟨_,_,_,_,_,z,_,_,H,_⟩:=dj n (ff (aC (aa.table n) d.1)) n.1;exact⟨H,z⟩
  exact⟨(r _).1.trans u.1,(r _).2.trans u.2⟩
theorem vg {n:aa}{f g:ag}{b:Int}(u:Asc (λg:ag=>g.1) (aa.table n))(r:g∈aa.table (sayOf n f b)):g=f\/g∈aa.table n:=by
 rcases lk u f b with h|⟨h,_⟩
 ·rw[h]at r;exact .inr r
 ·rw[h]at r;have r:g∈bE (λg:ag=>g.1) f (aa.table n):=r;exact (aZ.1 r).imp id (·.1)
theorem wj (m:aa):aa.table (dQ m).1=aa.table m/\aU (dQ m).1=aU m:=by
 unfold dQ;cases (aa.probe m).1==-1 with
 |false=>exact⟨rfl,rfl⟩
 |true =>
  simp only[cond_true,dM];cases decide (jp m>=999999) with
  |true=>exact⟨rfl,rfl⟩
  |false =>
   simp only[cond_false];cases hX m with
   |none=>exact⟨rfl,rfl⟩
   |some to=>exact⟨rfl,rfl⟩
theorem wk {m:aa}(y:ax (aa.table m)):aU (a8 m).1=aU m/\∀ f∈aa.table (a8 m).1,f∈aa.table m \/
  ∃ g∈aa.table m,f=mh g/\g.2.2.1=1/\g.1=(aa.probe m).1/\4<=aU m-(aa.probe m).2.1:=by
 unfold a8;cases O:(aa.probe m).1==-1 with
 |true=>exact⟨rfl,λf r=>.inl r⟩
 |false =>
  simp only[cond_false];cases I:cL (aC (aa.table m) (aa.probe m).1) with
  |false=>exact⟨rfl,λf r=>.inl r⟩
  |true =>
   simp only[BR,cond_false];by_cases u:m.2.2.2.2.2.1-(aa.probe m).2.1>=4
   ·rw[decide_eq_true u];simp only[cond_true];obtain⟨R,M,H⟩:=cE y (eo I);cases J:(aC (aa.table m) (aa.probe m).1).2.2.1==1 with
    |false=>exact⟨rfl,λf r=>.inl r⟩
    |true =>
     simp only[cond_true];refine⟨(dj (setP m noP) _ _).2.2.2.2.2.1,λf r=>?_⟩;rcases vg (n:=setP m noP) y.2 r with rfl|r
     ·exact .inr ⟨_,H,rfl,by simpa using J,M,u⟩
     ·exact .inl r
   ·rw[decide_eq_false u];simp only[cond_false];by_cases z:m.2.2.2.2.2.1-(aa.probe m).2.1>=2
    ·rw[decide_eq_true z];cases (aa.probe m).2.2.2 with
     |true=>exact⟨rfl,λf r=>.inl r⟩
     |false=>exact⟨rfl,λf r=>.inl r⟩
    ·rw[decide_eq_false z];exact⟨rfl,λf r=>.inl r⟩
theorem uD {n:aa}(r:NS 9 n)(u:gb n):ax (aa.table n):=by
 cases z:n.2.1 with
 |true=>exact (UpN.of u z).x.table
 |false =>
  have y:=u.2.2.2.2.2;rw[if_neg (by rw[z];decide)]at y;have H:=y.2.2.2.2.2.1;have I:=r.table;have M:=r.cast;have O:=r.doubts;have J:=r.places;have R:=r.others;rw[aA (n:=(BL (aa.table n):Int)+(BL (aa.cast n):Int)) (by omega) (by omega),aA (n:=(BL (aa.table n):Int)+(BL (aa.cast n):Int)+(BL (aa.doubts n):Int)) (by omega) (by omega),
   aA (n:=(BL (aa.table n):Int)+(BL (aa.cast n):Int)+(BL (aa.doubts n):Int)+(BL (aa.places n):Int)) (by omega) (by omega),aA (by omega) (by omega)]at H
  rw[CL (show (aa.table n).length=0 by omega)];exact⟨by simp,by simp[Asc]⟩
def ja (d:bB):Int:=if 7-(d.2.2.2.length:Int)<3 then 3 else 7-(d.2.2.2.length:Int)
theorem AH (d:bB)(u:d.2.2.2.length<=1048576):wr .i64 (wr .i64 (6-(BL d.2.2.2:Int))+1)=7-(d.2.2.2.length:Int):=by
 have r:wr .i64 (6-(BL d.2.2.2:Int))=6-(d.2.2.2.length:Int):=aA (by omega) (by omega);rw[r,aA (by omega) (by omega)];omega
theorem Bw (K:Nat)(d:bB)(r:d.2.2.2.length<=1048576):Q117.f K (d,())=some ((ja d,()),()):=by
 simp only[Q117.f,ja];rw[AH d r];by_cases h:7-(d.2.2.2.length:Int)<3
 ·rw[decide_eq_true h,if_pos h];rfl
 ·rw[decide_eq_false h,if_neg h];rfl
def wm (r:Int)(d:bB):Int:=if ja d-(r-d.2.2.1)<0 then 0 else ja d-(r-d.2.2.1)
theorem zq (n:aa)(r:NB n)(h:pC n):aa.doubts n=[]:=by
 obtain⟨_,_,_,_,_,h,_⟩:=h;have O:=r.table;have J:=r.cast;have H:=r.doubts;have I:=r.places;have M:=r.others;have z:wr .i64 ((BL (aa.table n):Int)+(BL (aa.cast n):Int))=(BL (aa.table n):Int)+(BL (aa.cast n):Int):=aA (by omega) (by omega);rw[z]at h;have y:wr .i64 ((BL (aa.table n):Int)+(BL (aa.cast n):Int)+(BL (aa.doubts n):Int))=(BL (aa.table n):Int)+(BL (aa.cast n):Int)+(BL (aa.doubts n):Int):=aA (by omega) (by omega);rw[y]at h;have u:wr .i64 ((BL (aa.table n):Int)+(BL (aa.cast n):Int)+(BL (aa.doubts n):Int)+(BL (aa.places n):Int))=(BL (aa.table n):Int)+(BL (aa.cast n):Int)+(BL (aa.doubts n):Int)+(BL (aa.places n):Int):=aA (by omega) (by omega);rw[u,aA (by omega) (by omega)]at h;exact CL (by omega)
theorem wn (K:Nat)(n:aa)(v:Int)(R:NB n)(hK:1048577<K):∃ r:Int×Bool×Unit,Q118.f K (n,v,())=some (r,())/\(gb n->∀ d∈aa.doubts n,d.1=v->∃ e∈aa.doubts n,e.1=v/\r=(wm n.2.2.2.2.2.1 e,true,()))/\(r.2.1=true->gb n/\∃ d∈aa.doubts n,d.1=v):=by
 have hl:=R.doubts;obtain⟨b,h3,J⟩:=sN K n R hK;simp only[Q118.f];have O:=b7 (step:=λrec a=>Q69.s0 K (aa.doubts n,(λI=>(Q116.f K (I.1,v,())).map λy=>y.1.1),()) rec a) (aa.doubts n).length (λi=>(i:Int)) (λj=>∃ h:j<(aa.doubts n).length,(aa.doubts n)[j].1=v) (some ((-1,()),())) (λj=>some ((((j:Nat):Int),()),())) ?_ ?_ (aa.doubts n).length K 0 (by omega) (by omega)
 ·have z:b=true->∀ j (h:j<(aa.doubts n).length),InP n.2.2.2.2.2.1 0 999999/\InP (aa.doubts n)[j].2.2.1 0 n.2.2.2.2.2.1/\(aa.doubts n)[j].2.2.2≠[]/\(aa.doubts n)[j].2.2.2.length<=1048576:=by
   intro Y j u;have M:=J.1 Y;have z:n.2.1=true:=by
    cases hu:n.2.1 with
    |true=>rfl
    |false =>
     have H:=M.2.2.2.2.2;rw[hu]at H;simp only[Bool.false_eq_true,if_false]at H;have:=zq n R H;rw[this]at u;simp at u
   have H:=M.2.2.2.2.2;rw[if_pos z]at H;obtain⟨_,Z,X,_⟩:=H.2.2.2.2.2.1.1 _ (BS u);exact⟨M.2.1,Z,X,R.by_ _ (BS u)⟩
  rcases O with ⟨i1,i2⟩|⟨j,_,u,j2,j3,j4⟩
  ·have e:Q69.f K (aa.doubts n,(λI=>(Q116.f K (I.1,v,())).map λy=>y.1.1),())=some ((-1,()),()):=i2;rw[e];refine⟨(0,false,()),rfl,λ_ d hd e=>?_,λh=>by cases h⟩;obtain⟨j,hj,rfl⟩:=B5 hd;exact absurd ⟨hj,e⟩ (i1 j (BZ _) hj)
  ·have e:Q69.f K (aa.doubts n,(λI=>(Q116.f K (I.1,v,())).map λy=>y.1.1),())=some ((((j:Nat):Int),()),()):=j4;rw[e];simp only[BK];rw[show decide (((j:Nat):Int)<0)=false from decide_eq_false (by omega),h3];simp only[cond_false,BK];cases b with
   |false=>exact⟨(0,false,()),rfl,λM=>(by cases J.2 M),λh=>by cases h⟩
   |true =>
    obtain⟨a0,Z,X,hb⟩:=z rfl j u;simp only[BR,cond_false];rw[af u];simp only[BK];refine⟨_,?_,λ_ _ _ _=>⟨_,BS u,j2.2,rfl⟩,λ_=>⟨J.1 rfl,_,BS u,j2.2⟩⟩;rw[Bw K _ hb];have h1:1<=(aa.doubts n)[j].2.2.2.length:=List.length_pos_iff.2 X;simp only[BK,wm];have hL:3<=ja (aa.doubts n)[j]/\ja (aa.doubts n)[j]<=7:=by unfold ja;split <;> omega
    generalize (aa.doubts n)[j]=d at *;have e1:wr .i64 (n.2.2.2.2.2.1-d.2.2.1)=n.2.2.2.2.2.1-d.2.2.1:=aA (by omega) (by omega);rw[e1];have e2:wr .i64 (ja d-(n.2.2.2.2.2.1-d.2.2.1))=ja d-(n.2.2.2.2.2.1-d.2.2.1):=aA (by omega) (by omega);rw[e2];by_cases h:ja d-(n.2.2.2.2.2.1-d.2.2.1)<0
    ·rw[decide_eq_true h,if_pos h];rfl
    ·rw[decide_eq_false h,if_neg h];rfl
 ·intro rec i O;simp only[Q69.s0];rw[decide_eq_true (show (i:Int)<(BL (aa.doubts n):Int) by omega),af O,ar i (by omega)];simp only[cond_true,BK,Q116.f,Option.map_some];by_cases h:(aa.doubts n)[i].1=v
  ·have e:((aa.doubts n)[i].1==v)=true:=by simpa using h
   rw[e];exact .inr ⟨⟨O,h⟩,rfl⟩
  ·have e:((aa.doubts n)[i].1==v)=false:=by simpa using h
   rw[e];exact .inl ⟨λ⟨_,J⟩=>h J,rfl⟩
 ·intro rec;simp only[Q69.s0,aP];rfl
end Go.Proofs.YtaegajachoklkaaGreatEv
