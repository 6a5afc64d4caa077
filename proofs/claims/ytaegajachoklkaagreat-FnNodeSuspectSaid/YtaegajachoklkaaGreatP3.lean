/- What a node hears, by the specification: what it comes to. -/
import Derived.Test.YtaegajachoklkaaGreatP2
set_option linter.unusedVariables false
set_option linter.unusedSimpArgs false
open Bool renaming not_true->BK,not_false->B8,not_eq_true'->CR,and_eq_true->CT,not_eq_true->CU
open Classical renaming not_not->CH
open Int renaming toNat->BI,toNat_natCast->BJ,eq_ofNat_of_zero_le->BV,toNat_zero->B9,tmod->CA,le_refl->CI,fdiv->CK,toNat_of_nonneg->CO,tmod_lt_of_pos->CQ,tmod_nonneg->CX
open List renaming length->BF,mem_singleton->BH,length_append->BL,mem_append->BM,getElem_mem->BN,drop_eq_getElem_cons->BP,nil_append->BQ,length_set->BR,mem_map->BS,filter_eq_self->BT,length_take->BU,filter_eq_nil_iff->BX,drop_zero->BY,mem_of_mem_take->BZ,getElem_of_mem->B3,getElem?_eq_getElem->B4,length_map->B5,mem_filter->B6,length_nil->B7,length_filter_le->CB,take_length->CC,append_nil->CE,pairwise_cons->CF,take_add_one->CG,filter_cons->CJ,length_drop->CL,length_take_le->CN,filter_append->CP,length_cons->CV,not_mem_nil->CW,mem_cons->CY
open Nat renaming le_succ_of_le->BE,le_trans->BO,zero_le->BW,le_refl->CD,le_succ->CM
open Option renaming bind_some->BD,bind->BG
open Option.some renaming injEq->CS
open Prod.mk renaming injEq->CZ
namespace Go.Proofs.YtaegajachoklkaaGreatEv
open Go
theorem rl {α A R:Type}(k:α->Int)(x:α)(t:List α)(hA:Asc k t)(Y S1:List α->Nat->A)(I:List α->Option R){step:(A->Option R)->A->Option R}
  (h0:∀ (rec:A->Option R) (r:List α) (i:Nat) (O:i<t.length),r.length=i->(∀ y∈t.take i,k y<k x)->step rec (Y r i)=if k t[i]<k x then rec (Y (r++[t[i]]) (i+1)) else if k t[i]=k x then rec (S1 (r++[x]) (i+1)) else rec (S1 (r++[x]++[t[i]]) (i+1)))
  (h1:∀ (rec:A->Option R) (r:List α) (i:Nat) (O:i<t.length),r.length<=i+1->k x<k t[i]->step rec (S1 r i)=rec (S1 (r++[t[i]]) (i+1)))
  (e0:∀ (rec:A->Option R) (r:List α),r.length=t.length->(∀ y∈t,k y<k x)->step rec (Y r t.length)=I (r++[x]))
  (e1:∀ (rec:A->Option R) (r:List α),r.length<=t.length+1->step rec (S1 r t.length)=I r) {K:Nat} (Z:t.length<K):ae step K (Y [] 0)=I (bD k x t):=by
 have r1:∀ (n i K:Nat) (r:List α),i+n=t.length->n<K->r.length<=i+1->(∀ y∈t.drop i,k x<k y)->ae step K (S1 r i)=I (r++t.drop i):=by
  intro n;induction n with
  |zero =>
   intro i K r O Z M _;obtain⟨K,rfl⟩:∃ X,K=X+1:=⟨K-1,by omega⟩;have:i=t.length:=by omega
   subst this;show step (ae step K) _=_;rw[e1 _ _ M,List.drop_length,CE]
  |succ n ih =>
   intro i K r O Z M hg;obtain⟨K,rfl⟩:∃ X,K=X+1:=⟨K-1,by omega⟩;have u:i<t.length:=by omega
   rw[BP u]at hg;show step (ae step K) _=_;rw[h1 _ _ _ u M (hg _ (.head _)),ih (i+1) K _ (by omega) (by omega) (by simp;omega) (λy z=>hg y (.tail _ z)),BP u];simp
 have H:∀ i (O:i<t.length),∀ y∈t.drop (i+1),k t[i]<k y:=λi O y z=>by
  have:=List.Pairwise.drop (i:=i) hA;rw[BP O]at this;exact (CF.1 this).1 y z
 have r0:∀ (n i K:Nat) (r:List α),i+n=t.length->n<K->r=t.take i->(∀ y∈t.take i,k y<k x)->ae step K (Y r i)=I (bD k x t):=by
  intro n;induction n with
  |zero =>
   intro i K r O Z M J;obtain⟨K,rfl⟩:∃ X,K=X+1:=⟨K-1,by omega⟩;have:i=t.length:=by omega
   subst this;rw[CC]at M J;subst M;show step (ae step K) _=_;rw[e0 _ _ rfl J];unfold bD;rw[BT.2 (by simpa using J),BX.2 (λy z=>by have:=J y z;simp;omega)]
  |succ n ih =>
   intro i K r O Z M J;obtain⟨K,rfl⟩:∃ X,K=X+1:=⟨K-1,by omega⟩;have u:i<t.length:=by omega
   subst M;have a1:(t.take i).length=i:=by rw[BU];omega
   show step (ae step K) _=_;rw[h0 _ _ _ u a1 J];have a0:k x<=k t[i]->bD k x t=t.take i++x::(t.drop i).filter (λy=>decide (k x<k y)):=λhc=>by
    unfold bD;conv=>lhs;rw[<- List.take_append_drop i t]
    rw[CP,CP,BT.2 (by simpa using J),(BX (l:=t.take i)).2 (λy z=>by have:=J y z;simp;omega),BQ];rw[BP u,CJ,if_neg (by simp;omega),BX.2 (λy z=>by have:=H i u y z;simp;omega),CE]
   by_cases hc:k t[i]<k x
   ·rw[if_pos hc];refine ih (i+1) K _ (by omega) (by omega) (by rw[CG,B4 u];rfl) λy z=>?_
    rw[CG,B4 u]at z;rcases BM.1 z with z|z
    ·exact J y z
    ·simp at z;rw[z];exact hc
   ·rw[if_neg hc,a0 (by omega),BP u];by_cases he:k t[i]=k x
    ·rw[if_pos he,r1 n (i+1) K _ (by omega) (by omega) (by simp;omega) (λy z=>by have:=H i u y z;omega),CJ,if_neg (by simp;omega),BT.2 (λy z=>by have:=H i u y z;simp;omega)];simp
    ·rw[if_neg he,r1 n (i+1) K _ (by omega) (by omega) (by simp;omega) (λy z=>by have:=H i u y z;omega),CJ,if_pos (by simp;omega),BT.2 (λy z=>by have:=H i u y z;simp;omega)];simp
 exact r0 t.length 0 K [] (by omega) Z rfl (by simp)
theorem xJ {t:List af}{f:af}(h:∀ g∈t,g.1<f.1):(bS t f).1=t++[f]:=by
 rw[il (λg r e=>by have:=h g r;omega)];unfold bD;rw[BT.2 (by simpa using h),BX.2 (λy u=>by have:=h y u;simp;omega)]
theorem pR:∀ {fs t:List af},Asc (λf:af=>f.1) fs->(∀ g∈t,∀ f∈fs,g.1<f.1)->fC t fs=t++fs
 |[],t,_,_=>by simp[fC]
 |f::fs,t,u,h=>by
  show fC (bS t f).1 fs=_;rw[xJ (λg r=>h g r f (by simp)),pR (CF.1 u).2 ?_]
  ·simp
  ·intro g r e y;rcases BM.1 r with r|r
   ·exact h g r e (by simp[y])
   ·rw[BH.1 r];exact (CF.1 u).1 e y
theorem vZ {fs:List af}(h:ax fs):fC [] fs=fs:=by
 rw[pR h.2 (by simp)];rfl
theorem Ao (K:Nat)(a b:List af)(u:ax a)(r:ax b)(y:1048577<K):Q161.f K (a,b,())=some ((fC a b,()),()):=by
 simp only[Q161.f,Q161.pre];obtain⟨R,H,O⟩:=gp K a (cq u) y;obtain⟨X,M,J⟩:=gp K b (cq r) y;have:=cq u;have:=cq r;rw[H,M,O.2 u,J.2 r];simp only[BD,BK,cond_false];rw[szb _ _ _ (by omega) (by show (BF ([]:List af))+a.length<=_;simp;omega)];simp only[cond_true,BQ];refine uq a b u r.1 (step:=λrec x=>Q161.s0 K (a,b,()) rec x) (λt=>some ((t,()),())) ?_ ?_ (by omega)
 ·intro rec t i I z;simp only[Q161.s0];rw[bq (by omega:(i:Int)<(BF b:Int)),ag I,ar i (by omega)];simp only[cond_true,BD];rw[vR K t _ (cq z) z.2 y];rfl
 ·intro rec t;simp only[Q161.s0,aQ];rfl
theorem tp {u:Int}{l:List cV}(h:c8 u l)(s:Int):ax (dj l s):=by
 rcases mS (l:=l) (s:=s) with e|⟨x,r,_,e⟩ <;> rw[e]
 ·exact⟨by simp,List.Pairwise.nil⟩
 ·exact (h.1 x r).2.2.2.1
theorem olen {u:Int}{l:List cV}(h:c8 u l):l.length<=1048576:=BO (iU h.2 λx r=>⟨(h.1 x r).1.1,Int.le_trans (h.1 x r).1.2 (by decide)⟩) (by decide)
theorem xK (K:Nat)(n:aa)(s:Int)(t:List af)(h:c8 n.1 (aa.others n))(r:ax t)(y:1048577<K):Q162.f K (n,s,t,())=some ((fC (dj (aa.others n) s) t,()),()):=by
 have z:=olen h;refine pD (step:=λrec a=>Q162.s0 K (n,s,t,()) rec a) (aa.others n) s (λl=>some ((fC l t,()),())) ?_ ?_ (aa.others n).length 0 K (by omega) (by omega)
 ·intro rec i u;simp only[Q162.s0];rw[bq (by omega:(i:Int)<(BF (aa.others n):Int)),ag u,ar i (by omega)];simp only[cond_true,BD];cases (aa.others n)[i].1==s with
  |false=>rfl
  |true=>exact (congrArg (λo=>BG o _) (Ao K _ t (h.1 _ (BN u)).2.2.2.1 r y)).trans rfl
 ·intro rec;simp only[Q162.s0,aQ,cond_false];rw[vZ r];refine (congrArg (λb=>bif b then _ else _) (szb (BF ([]:List af)) t.length 32 (by omega) ?_)).trans rfl;have:=cq r;simp;omega
theorem sum_s (K:Nat)(n:aa)(s:Int)(t:List af)(h:c8 n.1 (aa.others n))(X:1048577<K):Q163.f K (n,s,t,())=some ((setO n (bD (λx:cV=>x.1) (s,t) (aa.others n)),()),()):=by
 have R:=olen h;refine rl (step:=λrec a=>Q163.s0 K (n,s,t,()) rec a) (λx:cV=>x.1) (s,t) (aa.others n) h.2 (λr i=>(r,false,(i:Int))) (λr i=>(r,true,(i:Int))) (λo=>some ((setO n o,()),())) ?_ ?_ ?_ ?_ (by omega)
 ·intro rec r i I H _;simp only[Q163.s0,zcp4,zcp8];rw[bq (by omega:(i:Int)<(BF (aa.others n):Int)),ag I,ar i (by omega)];simp only[cond_true,BD,B8];have u:=szb r.length 1 32 (by omega) (by omega);have M:=szb (r++[(s,t)]).length 1 32 (by omega) (by simp;omega);generalize (aa.others n)[i]=y at *;by_cases J:y.1<s
  ·rw[if_pos J,show decide (y.1>=s)=false from decide_eq_false (by omega),show (y.1 != s)=true by simp;omega];exact (congrArg (λb=>bif b then _ else _) u).trans rfl
  ·rw[if_neg J,show decide (y.1>=s)=true from decide_eq_true (by omega)];refine (congrArg (λb=>bif b then _ else _) u).trans ?_;by_cases z:y.1=s
   ·rw[if_pos z,show (y.1 != s)=false by simpa using z];rfl
   ·rw[if_neg z,show (y.1 != s)=true by simpa using z];exact (congrArg (λb=>bif b then _ else _) M).trans rfl
 ·intro rec r i I H O;simp only[Q163.s0,zcp4,zcp8];rw[bq (by omega:(i:Int)<(BF (aa.others n):Int)),ag I,ar i (by omega)];simp only[cond_true,BD,BK,cond_false];have u:=szb r.length 1 32 (by omega) (by omega);rw[show ((aa.others n)[i].1 != s)=true by simp;have:s<_:=O;omega];exact (congrArg (λb=>bif b then _ else _) u).trans rfl
 ·intro rec r H _;simp only[Q163.s0,zcp4,zcp8,aQ,cond_false,B8,cond_true];exact (congrArg (λb=>bif b then _ else _) (szb r.length 1 32 (by omega) (by omega))).trans rfl
 ·intro rec r H;simp only[Q163.s0,zcp4,zcp8,aQ,cond_false,BK];rfl
theorem zf (K:Nat)(a b:List af)(Y:a.length<=1048576)(Z:1048577<K):Q164.f K (a,b,())=rb (decide (a≠b)):=by
 simp only[Q164.f,Q164.pre];by_cases H:a.length=b.length
 ·rw[show ((BF a:Int) != (BF b:Int))=false by simp;omega];have:=ch (step:=λrec x=>Q164.s0 K (a,b,()) rec x) a.length (λi=>(i:Int)) (λj=>∃ (h:j<a.length) (X:j<b.length),a[j]≠b[j]) (rb false) (λ_=>rb true) ?_ ?_ a.length K 0 (by omega) (by omega)
  ·rcases this with ⟨J,u⟩|⟨j,_,J,⟨y,M,O⟩,_,u⟩
   ·refine (u:Q164.l0 K (a,b,()) 0=_).trans ?_;rw[decide_eq_false];rintro z;exact z (List.ext_getElem H λi y M=>CH.1 λR=>J i (BW _) y ⟨y,M,R⟩)
   ·refine (u:Q164.l0 K (a,b,()) 0=_).trans ?_;rw[decide_eq_true];rintro rfl;exact O rfl
  ·intro rec i I;simp only[Q164.s0];rw[bq (by omega:(i:Int)<(BF a:Int)),ag I,ar i (by omega),ag (show i<b.length by omega)];simp only[cond_true,BD];rw[show Ty.eqv t2 a[i] (b[i]'(by omega))=decide (a[i]=b[i]'(by omega)) from gW _ _];by_cases r:a[i]=b[i]'(by omega)
   ·exact .inl ⟨λ⟨_,_,h⟩=>h r,by rw[decide_eq_true r];rfl⟩
   ·exact .inr ⟨⟨I,by omega,r⟩,by rw[decide_eq_false r];rfl⟩
  ·intro rec;simp only[Q164.s0,aQ];rfl
 ·rw[show ((BF a:Int) != (BF b:Int))=true by simp;omega,decide_eq_true (show a≠b from λe=>H (by rw[e]))];rfl
theorem qC (K:Nat)(l:List Int)(t:Int)(u:l.length<=1048576):Q170.f K (l,t,())=some ((gZ l t,()),()):=by
 simp only[Q170.f];rw[szb _ _ _ (by omega) (by show (BF ([]:List Int))+l.length<=_;simp;omega)];simp only[cond_true,BQ];rw[szb _ _ _ (by omega) (by show l.length+[t].length<=_;simp;omega)];simp only[cond_true];have r:(l++[t]).length=l.length+1:=by simp
 show (bif decide (((l++[t]).length:Int)>3) then (bif decide (0<=wr .i64 (((l++[t]).length:Int)-3))&&decide (wr .i64 (((l++[t]).length:Int)-3)<=((l++[t]).length:Int))&&decide (((l++[t]).length:Int)<=((l++[t]).length:Int))&&true then some ((((l++[t]).take (BI ((l++[t]).length:Int))).drop (BI (wr .i64 (((l++[t]).length:Int)-3))),()),()) else none) else some ((l++[t],()),()))=_;by_cases h:l.length+1>3
 ·rw[aE (by omega) (by omega),decide_eq_true (by omega:((l++[t]).length:Int)>3),decide_eq_true (by omega:(0:Int)<=((l++[t]).length:Int)-3),decide_eq_true (by omega:((l++[t]).length:Int)-3<=((l++[t]).length:Int)),decide_eq_true (CI _)];simp only[Bool.and_self,cond_true,gZ];rw[show BI (((l++[t]).length:Int)-3)=(l++[t]).length-3 by omega,BJ,CC]
 ·rw[decide_eq_false (by omega:¬ ((l++[t]).length:Int)>3)];simp only[cond_false,gZ];rw[show (l++[t]).length-3=0 by omega,BY]
theorem plen {u:Int}{l:List dH}(h:ew u l):l.length<=1048576:=BO (iU h.2 λx r=>(h.1 x r).1) (by decide)
theorem uu {y:Int}{l:List dH}(h:ew y l)(r:Int):(dD l r).length<=3:=by
 unfold dD;cases u:l.find? λp=>p.1==r with
 |none=>simp
 |some p =>
  have:=(h.1 p (List.mem_of_find?_eq_some u)).2.2.2.2.1.2;show p.2.2.length<=3;omega
theorem Ap (K:Nat)(l:List dH)(r:Int)(c:dw)(t:Int)(me:Int)(h:ew me l)(hK:1048577<K):Q171.f K (l,r,c,t,())=some ((o8 l r c t,()),()):=by
 have hl:=plen h;have h3:=uu h r;refine rl (step:=λrec a=>Q171.s0 K (l,r,c,t,()) rec a) (λx:dH=>x.1) (r,c,gZ (dD l r) t) l h.2 (λu i=>(u,false,(i:Int),[])) (λu i=>(u,true,(i:Int),gZ (dD l r) t)) (λo=>some ((o,()),())) ?_ ?_ ?_ ?_ (by omega)
 ·intro rec u i I J z;simp only[Q171.s0];rw[bq (by omega:(i:Int)<(BF l:Int)),ag I,ar i (by omega)];simp only[cond_true,BD,B8];have O:=szb u.length 1 64 (by omega) (by omega);have Y:=szb (u++[(r,c,gZ (dD l r) t)]).length 1 64 (by omega) (by simp;omega);have X:l[i].1=r->dD l r=l[i].2.2:=λe=>by unfold dD;rw[oY h.2 I e];rfl
  have R:r<l[i].1->dD l r=[]:=λe=>by
   unfold dD;rw[nQ (k:=λp:dH=>p.1)]
   ·rfl
   intro y M;obtain⟨j,hj,rfl⟩:=B3 M;by_cases a1:j<i
   ·have:=z l[j] (by rw[List.mem_take_iff_getElem];exact⟨j,by omega,rfl⟩);show l[j].1≠r;have:l[j].1<r:=this;omega
   ·have:l[i].1<=l[j].1:=by
     by_cases e:i=j
     ·subst e;exact CI _
     ·exact Int.le_of_lt (dn.1 h.2 i j I hj (by omega))
    show l[j].1≠r;omega
  have a0:=(h.1 _ (BN I)).2.2.2.2.1.2;generalize l[i]=y at *;by_cases Z:y.1<r
  ·rw[if_pos Z,show decide (y.1>=r)=false from decide_eq_false (by omega),show (y.1 != r)=true by simp;omega,show (y.1==r)=false by simp;omega];exact (congrArg (λb=>bif b then _ else _) O).trans rfl
  ·rw[if_neg Z,show decide (y.1>=r)=true from decide_eq_true (by omega)];by_cases H:y.1=r
   ·rw[if_pos H,show (y.1 != r)=false by simpa using H,show (y.1==r)=true by simpa using H];simp only[cond_true,cond_false];rw[<- X H];refine (congrArg (λo=>BG o _) (qC K _ t (by omega))).trans ?_;exact (congrArg (λb=>bif b then _ else _) O).trans rfl
   ·rw[if_neg H,show (y.1 != r)=true by simpa using H,show (y.1==r)=false by simpa using H];simp only[cond_true,cond_false];have e:=R (by omega);rw[e]at Y ⊢;refine (congrArg (λo=>BG o _) (qC K [] t (by simp))).trans ?_;refine (congrArg (λb=>bif b then _ else _) O).trans ?_;exact (congrArg (λb=>bif b then _ else _) Y).trans rfl
 ·intro rec u i I J hc;simp only[Q171.s0];rw[bq (by omega:(i:Int)<(BF l:Int)),ag I,ar i (by omega)];have hc:r<l[i].1:=hc;simp only[cond_true,BD,BK,cond_false];rw[show (l[i].1 != r)=true by simp;omega,show (l[i].1==r)=false by simp;omega];exact (congrArg (λb=>bif b then _ else _) (szb u.length 1 64 (by omega) (by omega))).trans rfl
 ·intro rec u J z;simp only[Q171.s0,aQ,cond_false,B8,cond_true];have e:dD l r=[]:=by
   unfold dD;rw[nQ (k:=λp:dH=>p.1) (λy M=>by have:y.1<r:=z y M;show y.1≠r;omega)];rfl
  rw[e];refine (congrArg (λo=>BG o _) (qC K [] t (by simp))).trans ?_;exact (congrArg (λb=>bif b then _ else _) (szb u.length 1 64 (by omega) (by omega))).trans rfl
 ·intro rec u J;simp only[Q171.s0,aQ,cond_false,BK]
def tq (n u r:Int):Int:=if n<u then u else if n>r then r else n
theorem zL (K:Nat)(n y z:Int):Q169.f K (n,y,z,())=some ((tq n y z,()),()):=by
 simp only[Q169.f,tq];by_cases u:n<y
 ·rw[decide_eq_true u,if_pos u];rfl
 ·rw[decide_eq_false u,if_neg u];by_cases r:n>z
  ·rw[decide_eq_true r,if_pos r];rfl
  ·rw[decide_eq_false r,if_neg r];rfl
theorem Aq {n u r:Int}(h:u<=r):InP (tq n u r) u r:=by
 unfold tq;split
 ·exact⟨CI _,h⟩
 ·split
  ·exact⟨h,CI _⟩
  ·exact⟨by omega,by omega⟩
def xL (n:aa):Int:=tq ((bd n-(aa.probe n).2.1)*1000+500) 1 60000
noncomputable def qD (K:Nat)(w:aq)(c:dw)(p:dH):dw:=bif p.1==w.2.2.1 then pQ K c (aq.coord w) (si K p.2.2) w.2.2.2.2.1 else c
def kA (n:aa)(w:aq):List dH:=o8 (aa.places n) w.2.2.1 (aq.coord w) (xL n)
def qE (n:aa)(w:aq):Bool:=!decide ((aa.probe n).1<0)&&(aa.probe n).1==w.2.2.1&&(aa.probe n).2.2.1==w.2.2.2.2.1&&w.2.2.2.2.2.1==w.2.2.1
noncomputable def fm (K:Nat)(n:aa)(w:aq):aa:=bif qE n w then pN n ((kA n w).foldl (qD K w) (aa.coord n)) (kA n w) else n
theorem u6 {K:Nat}{w:aq}{c:dw}{p:dH}(r:cC c)(u:1048577<K):cC (qD K w c p):=by
 unfold qD;cases p.1==w.2.2.1 with
 |false=>exact r
 |true=>exact (xI K c _ _ _ r u).2
theorem tr {n:aa}(h:UpX n)(H:¬ (aa.probe n).1<0):(aa.probe n).1≠n.1/\InP (aa.probe n).1 0 7/\ao (aa.probe n).1=ao n.1/\InP (aa.probe n).2.1 0 (bd n):=by
 have r:=h.probe;unfold cW at r;rw[if_neg (by omega)]at r;obtain⟨y,⟨f,u,e⟩,z,_⟩:=r;exact⟨y,e ▸ (h.table.1 f u).1,e ▸ h.site f u,z⟩
theorem u7 {n:aa}{w:aq}(h:UpX n)(H:cC (aq.coord w))(z:qE n w=true):ew n.1 (kA n w):=by
 simp only[qE,CT,CR,decide_eq_false_iff_not,beq_iff_eq]at z;obtain⟨⟨⟨J,I⟩,O⟩,M⟩:=z;obtain⟨y,r,u,_⟩:=tr h J;rw[I]at y r u;exact vX h.places r u y H (Aq (by decide))
theorem ack_s (K:Nat)(n:aa)(w:aq)(h:UpN n)(Z:cC (aq.coord w))(J:1048577<K):Q182.f K (n,w,())=some ((fm K n w,()),()):=by
 simp only[Q182.f,Q182.pre,zc00556];have H:qE n w=(!decide ((aa.probe n).1<0)&&(aa.probe n).1==w.2.2.1&&(aa.probe n).2.2.1==w.2.2.2.2.1&&w.2.2.2.2.2.1==w.2.2.1):=rfl;by_cases r:(aa.probe n).1<0
 ·rw[show decide (n.2.2.2.2.2.2.2.2.2.2.1.1<0)=true from decide_eq_true r];rw[show fm K n w=n by unfold fm;rw[H,decide_eq_true r];rfl];rfl
 ·rw[show decide (n.2.2.2.2.2.2.2.2.2.2.1.1<0)=false from decide_eq_false r];cases u:(aa.probe n).1==w.2.2.1 with
  |false =>
   rw[show fm K n w=n by unfold fm;rw[H,decide_eq_false r,u];rfl];rw[show (n.2.2.2.2.2.2.2.2.2.2.1.1 != w.2.2.1)=true by unfold bne;rw[show (n.2.2.2.2.2.2.2.2.2.2.1.1==w.2.2.1)=false from u];rfl];rfl
  |true =>
   rw[show (n.2.2.2.2.2.2.2.2.2.2.1.1 != w.2.2.1)=false by unfold bne;rw[show (n.2.2.2.2.2.2.2.2.2.2.1.1==w.2.2.1)=true from u];rfl];cases z:(aa.probe n).2.2.1==w.2.2.2.2.1 with
   |false =>
    rw[show fm K n w=n by unfold fm;rw[H,decide_eq_false r,u,z];rfl];rw[show (n.2.2.2.2.2.2.2.2.2.2.1.2.2.1 != w.2.2.2.2.1)=true by unfold bne;rw[show (n.2.2.2.2.2.2.2.2.2.2.1.2.2.1==w.2.2.2.2.1)=false from z];rfl];rfl
   |true =>
    rw[show (n.2.2.2.2.2.2.2.2.2.2.1.2.2.1 != w.2.2.2.2.1)=false by unfold bne;rw[show (n.2.2.2.2.2.2.2.2.2.2.1.2.2.1==w.2.2.2.2.1)=true from z];rfl];cases I:w.2.2.2.2.2.1==w.2.2.1 with
    |false =>
     rw[show fm K n w=n by unfold fm;rw[H,decide_eq_false r,u,z,I];rfl];rw[show (w.2.2.2.2.2.1 != w.2.2.1)=true by unfold bne;rw[I];rfl];rfl
    |true =>
     have O:qE n w=true:=by rw[H,decide_eq_false r,u,z,I];rfl
     rw[show (w.2.2.2.2.2.1 != w.2.2.1)=false by unfold bne;rw[I];rfl];have hp:=(tr h.x r).2.2.2;have hn:=h.now1;have X:=u7 h.x Z O;simp only[cond_false];rw[show wr .i64 (wr .i64 (wr .i64 (n.2.2.2.2.2.1-n.2.2.2.2.2.2.2.2.2.2.1.2.1)*1000)+500)=(bd n-(aa.probe n).2.1)*1000+500 by
      obtain⟨p1,p2⟩:=hp;show wr .i64 (wr .i64 (wr .i64 (bd n-(aa.probe n).2.1)*1000)+500)=_;rw[aE (n:=bd n-_) (by omega) (by omega),aE (n:=_*1000) (by omega) (by omega),aE (by omega) (by omega)]]
     rw[zL];simp only[BD];refine (congrArg (λo=>BG o _) (Ap K (aa.places n) w.2.2.1 (aq.coord w) (xL n) n.1 h.x.places J)).trans ?_;simp only[BD];rw[show fm K n w=pN n ((kA n w).foldl (qD K w) (aa.coord n)) (kA n w) by unfold fm;rw[O];rfl];show Q182.l0 K (n,w,()) (0,(aa.coord n).1,(aa.coord n).2.1,(aa.coord n).2.2.1,(aa.coord n).2.2.2,kA n w)=_;have hl:=plen X;refine kQ (step:=λrec a=>Q182.s0 K (n,w,()) rec a) (kA n w) (qD K w) cC (λc i=>((i:Int),c.1,c.2.1,c.2.2.1,c.2.2.2,kA n w)) (λc=>some ((pN n c (kA n w),()),())) (aa.coord n) h.x.coord ?_ ?_ (by omega)
     ·intro rec c i R M;refine⟨?_,u6 M J⟩;simp only[Q182.s0,zc00556,zcp8];rw[bq (by omega:(i:Int)<(BF (kA n w):Int)),BJ,ag R,ar i (by omega)];simp only[cond_true,BD];have Y:=(X.1 _ (BN R)).2.2.2.2.1.2;generalize (kA n w)[i]=y at *;unfold qD;cases y.1==w.2.2.1 with
      |false=>rfl
      |true =>
       simp only[cond_true];refine (congrArg (λo=>BG o _) (med_s K y.2.2 (by omega) J)).trans ?_;refine (congrArg (λo=>BG o _) (xI K c (aq.coord w) (si K y.2.2) w.2.2.2.2.1 M J).1).trans ?_;rfl
     ·intro rec c M;simp only[Q182.s0,zc00556,zcp8,aQ,cond_false];rfl
theorem Bh {K:Nat}{n:aa}{w:aq}(h:UpN n)(u:cC (aq.coord w))(y:1048577<K):UpN (fm K n w)/\(fm K n w).1=n.1/\(fm K n w).2.2.1=n.2.2.1:=by
 unfold fm;cases z:qE n w with
 |false=>exact⟨h,rfl,rfl⟩
 |true=>exact⟨h.heard (jj (Inv:=cC) h.x.coord λc p _ r=>u6 r y) (u7 h.x u z),rfl,rfl⟩
def pS (n:aa)(w:aq):Prop:=n.2.1=true/\n.2.2.1=false/\w.2.2.2.1=n.1/\w.2.2.1≠n.1 /\
 (if w.1=2 then w.2.1=6/\ao w.2.2.1≠ao n.1/\(ce (aq.table w) (ao n.1)\/ce (aq.table w) (ao w.2.2.1)) else ao w.2.2.1=ao n.1/\(w.2.1≠6\/¬ ce (aq.table w) (ao n.1)))
theorem Ar (K:Nat)(n:aa)(w:aq)(z:(aq.table w).length<=1048576)(H:1048577<K):Ret (Q152.f K (n,w,())) (pS n w):=by
 refine (Ret.cndN (P:=¬ n.2.1=true) (b:=!n.2.1) (by simp) λ_=>Ret.cndN (P:=n.2.2.1=true) (b:=n.2.2.1) Iff.rfl λ_=>Ret.cndN (P:=w.2.2.2.1≠n.1) (b:=w.2.2.2.1 != n.1) (by simp) λ_=>Ret.cndN (P:=w.2.2.1=n.1) (b:=w.2.2.1==n.1) (by simp) λ_ =>
  (?_:Ret _ (if w.1=2 then w.2.1=6/\ao w.2.2.1≠ao n.1/\(ce (aq.table w) (ao n.1)\/ce (aq.table w) (ao w.2.2.1)) else ao w.2.2.1=ao n.1/\(w.2.1≠6\/¬ ce (aq.table w) (ao n.1))))).iff ?_
 ·refine Ret.vl (eG K n.1) ?_;obtain⟨J,I,y⟩:=gq K (aq.table w) (ao n.1) z H;obtain⟨R,M,O⟩:=gq K (aq.table w) (ao w.2.2.1) z H;by_cases r:w.1=2
  ·rw[show (w.1==2)=true by simpa using r,if_pos r];refine Ret.cnd (P:=w.2.1=6) (b:=w.2.1==6) (by simp) λ_=>?_
   refine Ret.cnd (P:=ao w.2.2.1≠ao n.1) (b:=ao w.2.2.1 != ao n.1) (by simp) λ_=>Ret.vl I ?_
   cases J with
   |true=>exact Ret.yes (.inl (y.1 rfl))
   |false =>
    refine Ret.vl M ?_;exact Ret.of (b:=R) (O.trans ⟨.inr,λh=>h.resolve_left λh=>by have:=y.2 h;cases this⟩)
  ·rw[show (w.1==2)=false by simpa using r,if_neg r];refine Ret.cnd (P:=ao w.2.2.1=ao n.1) (b:=ao w.2.2.1==ao n.1) (by simp) λ_=>?_
   by_cases u:w.2.1=6
   ·show Ret (bif w.2.1 != 6 then _ else _) _;rw[show (w.2.1 != 6)=false by simpa using u];refine Ret.vl I (Ret.of (b:=!J) ?_);rw[CR,<- CU,y];exact⟨.inr,λh=>h.resolve_left λh=>h u⟩
   ·show Ret (bif w.2.1 != 6 then _ else _) _;rw[show (w.2.1 != 6)=true by simpa using u];exact Ret.yes (.inl u)
 ·unfold pS;rw[CH,CU,CH]
def sj (u:Int)(n:aa)(to y r:Int)(t:List af):aq:=(1,u,n.1,to,y,r,aa.coord n,t)
theorem pT (K:Nat)(n:aa)(u to y r:Int)(t:List af)(z:t.length<=1048576):Q153.f K (n,u,to,y,r,t,())=some ((sj u n to y r t,()),()):=by
 simp only[Q153.f];rw[szb _ _ _ (by omega) (by show (BF ([]:List af))+t.length<=_;simp;omega)];rfl
def nT (t:List af)(s:Int):Bool:=t.all λf=>ao f.1==s
theorem na {t:List af}{s:Int}:nT t s=true<->ce t s:=by simp[nT,ce]
def jy (t:List af):af:=(t.head?).getD (0,0,0,false)
def fN (n:aa)(w:aq):List af:=fC (dj (aa.others n) (ao (jy (aq.table w)).1)) (aq.table w)
def backW (n:aa)(w:aq):aq:=(2,6,n.1,w.2.2.1,0,n.1,aa.coord n,fN n w)
def sumN (n:aa)(w:aq):aa:=setO n (bD (λx:cV=>x.1) (ao (jy (aq.table w)).1,fN n w) (aa.others n))
def gL (n:aa)(w:aq):aa×List aq:=bif nT (aq.table w) (ao n.1) then (jk n (aq.table w) n.1,[]) else
 (sumN n w,bif w.1==2&&decide (aq.table w≠fN n w) then [backW n w] else [])
theorem pU:∀ {fs t:List af} {g:af},g∈fC t fs->g∈t\/g∈fs
 |[],_,_,h=>.inl h
 |f::fs,t,g,h=>by
  rcases pU (fs:=fs) h with h|h
  ·have h:g∈(bS t f).1:=h;rcases gX t f with e|e
   ·rw[e]at h;exact .inl h
   ·rw[e]at h;rcases aX.1 h with rfl|⟨h,_⟩
    ·exact .inr (by simp)
    ·exact .inl h
  ·exact .inr (by simp[h])
theorem pV:∀ {fs t:List af} {g:af},g∈t->∃ y∈fC t fs,y.1=g.1
 |[],_,g,h=>⟨g,h,rfl⟩
 |f::fs,t,g,h=>by
  obtain⟨J,I,u⟩:=mV (f:=f) h;obtain⟨H,z,r⟩:=pV (fs:=fs) I;exact⟨H,z,r.trans u⟩
theorem uv {t:List af}(H:Asc (λg:af=>g.1) t)(f:af):∃ g∈(bS t f).1,g.1=f.1:=by
 by_cases h:∃ g∈t,g.1=f.1
 ·obtain⟨g,r,e⟩:=h;obtain⟨u,z,y⟩:=mV (f:=f) r;exact⟨u,z,y.trans e⟩
 ·rw[il λg r e=>h ⟨g,r,e⟩];exact⟨f,aX.2 (.inl rfl),rfl⟩
theorem nc {n:aa}{w:aq}(h:c8 n.1 (aa.others n))(H:ax (aq.table w))(u:pF (aq.table w)):ax (fN n w)/\fN n w≠[]/\ce (fN n w) (ao (jy (aq.table w)).1):=by
 have z:=tp h (ao (jy (aq.table w)).1);refine⟨ra z H.1,?_,?_⟩
 ·unfold fN;cases y:aq.table w with
  |nil=>rw[y]at u;exact u.elim
  |cons f l =>
   obtain⟨g,O,_⟩:=uv (f:=f) (t:=dj (aa.others n) (ao (jy (f::l)).1)) (by rw[y]at z;exact z.2);obtain⟨R,I,_⟩:=pV (fs:=l) O;exact List.ne_nil_of_mem I
 ·intro g r;rcases pU r with r|r
  ·rcases mS (l:=aa.others n) (s:=ao (jy (aq.table w)).1) with e|⟨x,J,M,e⟩
   ·rw[e]at r;cases r
   ·rw[e]at r;rw[<- M];exact (h.1 x J).2.2.2.2 g r
  ·cases y:aq.table w with
   |nil=>rw[y]at u;exact u.elim
   |cons f l =>
    rw[y]at u r;exact u g r
theorem At {x:Int}(h:InP x 0 7):InP (ao x) 0 1:=by
 rw[kz h];obtain⟨r,u⟩:=h;constructor <;> omega
theorem zg {t:List af}(r:pF t)(u:ax t):InP (jy t).1 0 7:=by
 cases t with
 |nil=>exact r.elim
 |cons f l=>exact (u.1 f (by simp)).1
theorem xM (K:Nat)(n:aa)(w:aq)(h:UpN n)(r:ax (aq.table w))(z:pF (aq.table w))(y:1048577<K):Q165.f K (n,w,())=some (((gL n w).1,(gL n w).2,()),()):=by
 simp only[Q165.f];rw[eG K n.1];simp only[BD];obtain⟨H,M,O⟩:=gq K (aq.table w) (ao n.1) (cq r) y;have R:nT (aq.table w) (ao n.1)=H:=by rw[Bool.eq_iff_iff,na,O]
 unfold gL;rw[R];refine (congrArg (λo=>BG o _) M).trans ?_;simp only[rb,BD];cases H with
 |true =>
  simp only[cond_true];refine (congrArg (λo=>BG o _) (uX K n (aq.table w) n.1 h.learns r.1 (cq r) h.x.me y)).trans rfl
 |false =>
  simp only[cond_false];obtain⟨J,Y,X⟩:=nc (n:=n) h.x.others r z;have u:idx (aq.table w) 0=some (jy (aq.table w)):=by
   cases I:aq.table w with
   |nil=>rw[I]at z;exact z.elim
   |cons f l=>rfl
  refine (congrArg (λo=>BG o _) u).trans ?_;simp only[BD];rw[eG K];simp only[BD];refine (congrArg (λo=>BG o _) (xK K n (ao (jy (aq.table w)).1) (aq.table w) h.x.others r y)).trans ?_;simp only[BD];refine (congrArg (λo=>BG o _) (sum_s K n (ao (jy (aq.table w)).1) (fN n w) h.x.others y)).trans ?_;simp only[BD];cases w.1==2 with
  |false=>rfl
  |true =>
   simp only[cond_true,Bool.true_and];refine (congrArg (λo=>BG o _) (zf K (aq.table w) (fN n w) (cq r) y)).trans ?_;simp only[rb,BD];cases decide (aq.table w≠fN n w) with
   |false=>rfl
   |true =>
    simp only[cond_true];refine (congrArg (λo=>BG o _) (pT K (sumN n w) 6 w.2.2.1 0 n.1 (fN n w) (cq J))).trans rfl
theorem wa {n:aa}{w:aq}(h:UpN n)(z:n.2.2.1=false)(u:ax (aq.table w))(r:pF (aq.table w)):UpN (gL n w).1/\(gL n w).1.1=n.1/\(gL n w).1.2.2.1=false:=by
 unfold gL;cases y:nT (aq.table w) (ao n.1) with
 |true=>exact mo h z u (na.1 y) (ff.me h.x.me)
 |false =>
  obtain⟨M,I,J⟩:=nc (n:=n) h.x.others u r;refine⟨h.setOthers (vW h.x.others (At (zg r u)) (λe=>?_) I M J),rfl,z⟩;have:ce (aq.table w) (ao n.1):=by
   cases H:aq.table w with
   |nil=>rw[H]at r;exact r.elim
   |cons f l=>rw[H]at r e;rw[<- e];exact r
  rw[na.2 this]at y;cases y
noncomputable def fK (K:Nat)(n:aa)(w:aq):aa×List aq :=
 bif w.2.1==1 then (bif ao w.2.2.2.2.2.1 != ao n.1 then (n,[]) else bif w.2.2.2.2.2.1==n.1 then (n,[]) else (iq n,[sj 2 (iq n) w.2.2.2.2.2.1 w.2.2.2.2.1 n.1 (iW n w.2.2.2.2.2.1)]))
 else bif w.2.1==3 then (bif ao w.2.2.2.2.2.1 != ao n.1 then (n,[]) else bif w.2.2.2.2.2.1==n.1 then (n,[]) else bif w.2.2.2.2.2.1==w.2.2.1 then (n,[]) else (iq n,[sj 1 (iq n) w.2.2.2.2.2.1 w.2.2.2.2.1 w.2.2.1 (iW n w.2.2.2.2.2.1)]))
 else bif w.2.1==4 then (n,[sj 5 n w.2.2.1 0 n.1 (aa.table n)]) else bif w.2.1==2 then (fm K n w,[]) else (n,[])
theorem zh (K:Nat)(n:aa)(w:aq)(h:UpN n)(z:cC (aq.coord w))(r:1048577<K):Q183.f K (n,w,())=some (((fK K n w).1,(fK K n w).2,()),()):=by
 simp only[Q183.f];rw[eG K n.1];simp only[BD];have u:=qy K n w.2.2.2.2.2.1 h.x.say r;have y:=cq (kl h.x.say w.2.2.2.2.2.1);unfold fK;cases w.2.1==1 with
 |true =>
  simp only[cond_true];rw[eG K];simp only[BD];cases ao w.2.2.2.2.2.1 != ao n.1 with
  |true=>rfl
  |false =>
   simp only[cond_false];cases w.2.2.2.2.2.1==n.1 with
   |true=>rfl
   |false =>
    simp only[cond_false];refine (congrArg (λo=>BG o _) u).trans ?_;simp only[BD];refine (congrArg (λo=>BG o _) (pT K (iq n) 2 w.2.2.2.2.2.1 w.2.2.2.2.1 n.1 _ y)).trans rfl
 |false =>
  simp only[cond_false];cases w.2.1==3 with
  |true =>
   simp only[cond_true];rw[eG K];simp only[BD];cases ao w.2.2.2.2.2.1 != ao n.1 with
   |true=>rfl
   |false =>
    simp only[cond_false];cases w.2.2.2.2.2.1==n.1 with
    |true=>rfl
    |false =>
     simp only[cond_false];cases w.2.2.2.2.2.1==w.2.2.1 with
     |true=>rfl
     |false =>
      simp only[cond_false];refine (congrArg (λo=>BG o _) u).trans ?_;simp only[BD];refine (congrArg (λo=>BG o _) (pT K (iq n) 1 w.2.2.2.2.2.1 w.2.2.2.2.1 w.2.2.1 _ y)).trans rfl
  |false =>
   simp only[cond_false];cases w.2.1==4 with
   |true=>exact (congrArg (λo=>BG o _) (pT K n 5 w.2.2.1 0 n.1 (aa.table n) (cq h.x.table))).trans rfl
   |false =>
    simp only[cond_false];cases w.2.1==2 with
    |true=>exact (congrArg (λo=>BG o _) (ack_s K n w h z r)).trans rfl
    |false=>rfl
theorem xN {K:Nat}{n:aa}{w:aq}(h:UpN n)(r:cC (aq.coord w))(u:1048577<K):UpN (fK K n w).1/\(fK K n w).1.1=n.1/\(fK K n w).1.2.2.1=n.2.2.1:=by
 unfold fK;cases w.2.1==1 <;> cases w.2.1==3 <;> cases w.2.1==4 <;> cases w.2.1==2 <;> cases ao w.2.2.2.2.2.1 != ao n.1 <;> cases w.2.2.2.2.2.1==n.1 <;> cases w.2.2.2.2.2.1==w.2.2.1 <;> first|exact⟨h,rfl,rfl⟩|exact⟨h.way,rfl,rfl⟩|exact Bh h r u
open Classical in
noncomputable def dA (K:Nat)(n:aa)(w:aq):aa×List aq :=
 if iS w/\pS n w then (if w.2.1=6 then gL n w else fK K (jk n (aq.table w) w.2.2.1) w) else (n,[])
theorem mp {n:aa}{w:aq}(H:iS w)(h:pS n w)(y:w.2.1≠6):ce (aq.table w) (ao n.1)/\ff n w.2.2.1:=by
 obtain⟨_,_,w3,_,_,_,_,_,u⟩:=H;rw[if_neg y]at u;obtain⟨_,_,_,_,r⟩:=h;by_cases z:w.1=2
 ·rw[if_pos z]at r;exact absurd r.1 y
 ·rw[if_neg z]at r;exact⟨r.1 ▸ u,w3,r.1⟩
theorem Bi (K:Nat)(n:aa)(w:aq)(h:n.2.1=true->UpN n)(J:(aq.table w).length<=1048576)(z:1048577<K):Q184.f K (n,w,())=some (((dA K n w).1,(dA K n w).2,()),()):=by
 simp only[Q184.f];obtain⟨Z,e1,O⟩:=sM K w J z;obtain⟨b2,e2,M⟩:=Ar K n w J z;rw[e1];cases Z with
 |false =>
  unfold dA;rw[if_neg λh=>by have:=O.2 h.1;cases this];rfl
 |true =>
  have y:=O.1 rfl;simp only[rb,BD,BK,cond_false];refine (congrArg (λo=>BG o _) e2).trans ?_;cases b2 with
  |false =>
   unfold dA;rw[if_neg λh=>by have:=M.2 h.2;cases this];rfl
  |true =>
   have H:=M.1 rfl;have I:=h H.1;simp only[rb,BD,BK,cond_false];unfold dA;rw[if_pos ⟨y,H⟩];have r:=y.2.2.2.2.2.2.2.1;by_cases u:w.2.1=6
   ·rw[if_pos u,show (w.2.1==6)=true by simpa using u];have X:=y.2.2.2.2.2.2.2.2;rw[if_pos u]at X;exact (congrArg (λo=>BG o _) (xM K n w I r X z)).trans rfl
   ·rw[if_neg u,show (w.2.1==6)=false by simpa using u];obtain⟨hs,R⟩:=mp y H u;have Y:=(mo I H.2.1 r hs R).1;refine (congrArg (λo=>BG o _) (uX K n (aq.table w) w.2.2.1 I.learns r.1 J R.1 z)).trans ?_;exact (congrArg (λo=>BG o _) (zh K _ w Y y.2.2.2.2.2.2.1 z)).trans rfl
theorem u9 {K:Nat}{n:aa}{w:aq}(h:UpN n)(O:1048577<K):UpN (dA K n w).1/\(dA K n w).1.1=n.1/\(dA K n w).1.2.2.1=n.2.2.1:=by
 unfold dA;split
 ·rename_i M;obtain⟨y,u⟩:=M;have r:=y.2.2.2.2.2.2.2.1;split
  ·rename_i z;have J:=y.2.2.2.2.2.2.2.2;rw[if_pos z]at J;rw[u.2.1];exact wa h u.2.1 r J
  ·rename_i z;obtain⟨R,X⟩:=mp y u z;have H:=mo h u.2.1 r R X;have I:=xN (w:=w) H.1 y.2.2.2.2.2.2.1 O;exact⟨I.1,I.2.1.trans H.2.1,I.2.2.trans (H.2.2.trans u.2.1.symm)⟩
 ·exact⟨h,rfl,rfl⟩
theorem pW {K:Nat}{n:aa}{w:aq}(h:UpN n)(hK:1048577<K):(dA K n w).2.length<=1/\∀ x∈(dA K n w).2,InP x.2.2.2.1 0 7/\(aq.table x).length<=1048576:=by
 unfold dA;split
 ·rename_i hc;obtain⟨u,J⟩:=hc;have y:=u.2.2.2.2.2.2.2.1;split
  ·rename_i z;have M:=u.2.2.2.2.2.2.2.2;rw[if_pos z]at M;obtain⟨R,a2,a3⟩:=nc (n:=n) h.x.others y M;unfold gL;cases nT (aq.table w) (ao n.1) with
   |true=>exact⟨by simp,by simp⟩
   |false =>
    simp only[cond_false];cases w.1==2&&decide (aq.table w≠fN n w) with
    |false=>exact⟨by simp,by simp⟩
    |true=>exact⟨by simp,λx r=>by rw[BH.1 r];exact⟨u.2.2.1,cq R⟩⟩
  ·rename_i z;obtain⟨Z,Y⟩:=mp u J z;have I:=mo h J.2.1 y Z Y;have O:=cq (kl I.1.x.say w.2.2.2.2.2.1);have H:=cq I.1.x.table;have w3:=u.2.2.1;have X:=u.2.2.2.2.2.1;generalize jk n (aq.table w) w.2.2.1=m at *;unfold fK;cases w.2.1==1 <;> cases w.2.1==3 <;> cases w.2.1==4 <;> cases w.2.1==2 <;> cases ao w.2.2.2.2.2.1 != ao m.1 <;> cases w.2.2.2.2.2.1==m.1 <;> cases w.2.2.2.2.2.1==w.2.2.1 <;>
    first|exact⟨CD _,λx r=>by rw[BH.1 r];exact⟨X,O⟩⟩|exact⟨CD _,λx r=>by rw[BH.1 r];exact⟨w3,H⟩⟩|exact⟨BW _,λx r=>nomatch r⟩
 ·exact⟨by simp,by simp⟩
theorem uw {n:aa}(h:∀ k,k<8->¬ gJ n k):gY n=none:=by
 unfold gY;rw[List.find?_eq_none];intro x r;obtain⟨k,u,rfl⟩:=BS.1 r;have:=h k (by simpa using u);unfold gJ at this;simpa using this
theorem ux {n:aa}{k:Nat}(u:k<8)(r:gJ n k)(h:∀ j,j<k->¬ gJ n j):gY n=some (bh n k):=by
 unfold gY;rw[List.find?_map,List.find?_range_eq_some.2 ⟨?_,by simpa using u,λj y=>?_⟩]
 ·rfl
 ·unfold gJ at r;simpa using r
 ·have:=h j y;unfold gJ at this;simpa[Classical.or_iff_not_imp_left]using this
theorem va (K:Nat)(n:aa)(h:b7 n)(O:tg n)(J:1048577<K):Q201.f K (n,())=some (((dL n).1,(dL n).2,()),()):=by
 obtain⟨⟨Z,Y⟩,⟨t0,t1⟩⟩:=O;obtain⟨to,X,y⟩:=u3 K n h t0 t1 J;simp only[Q201.f,zcp4];rw[X];simp only[BD,dL];by_cases r:jm n>=999999
 ·rw[decide_eq_true r,show decide (n.2.2.2.2.2.2.1>=999999)=true from decide_eq_true r];cases decide (to<0) <;> rfl
 ·rw[decide_eq_false r,show decide (n.2.2.2.2.2.2.1>=999999)=false from decide_eq_false r];simp only[cond_false];rcases y with ⟨rfl,I⟩|⟨k,R,H,u,rfl⟩
  ·rw[uw I];rfl
  ·rw[ux R H u];have M:0<=bh n k/\bh n k<8:=⟨CX _ (by omega),CQ _ (by omega)⟩;rw[decide_eq_false (by omega:¬ bh n k<0)];simp only[cond_false];rw[qy K n _ h J];simp only[BD];have z:wr .i64 (jm n+1)=jm n+1:=aE (by omega) (by omega);rw[show wr .i64 ((iq n).2.2.2.2.2.2.1+1)=n.2.2.2.2.2.2.1+1 from z,aE (n:=bh n k+1) (by omega) (by omega)];simp only[Q153.f];rw[szb _ _ _ (by omega) (by have:=cq (kl h (bh n k));simp;omega)];rfl
def hZ (w:aq):Prop:=InP w.2.2.2.1 0 7/\(aq.table w).length<=1048576
theorem tt {n:aa}(H:ax (aa.table n)):(a7 n).2.length<=2/\∀ w∈(a7 n).2,hZ w:=by
 have r:([]:List aq).length<=2/\∀ w∈([]:List aq),hZ w:=⟨by simp,by simp⟩;unfold a7;cases (aa.probe n).1==-1 with
 |true=>exact r
 |false =>
  cases !cN (aB (aa.table n) (aa.probe n).1) with
  |true=>exact r
  |false =>
   cases decide (n.2.2.2.2.2.1-(aa.probe n).2.1>=4) with
   |true=>exact r
   |false =>
    cases decide (n.2.2.2.2.2.1-(aa.probe n).2.1>=2) with
    |false=>exact r
    |true =>
     cases !(aa.probe n).2.2.2 with
     |false=>exact r
     |true =>
      simp only[cond_true,cond_false];refine⟨by rw[B5];exact CN _ _,λw y=>?_⟩;obtain⟨to,u,rfl⟩:=BS.1 y;obtain⟨f,z,rfl⟩:=BS.1 (BZ u);exact⟨(H.1 f (B6.1 z).1).1,BW _⟩
theorem zM {n:aa}(h:b7 n):(dL n).2.length<=1/\∀ w∈(dL n).2,hZ w:=by
 have r:([]:List aq).length<=1/\∀ w∈([]:List aq),hZ w:=⟨by simp,by simp⟩;unfold dL;cases decide (jm n>=999999) with
 |true=>exact r
 |false =>
  simp only[cond_false];cases y:gY n with
  |none=>exact r
  |some to =>
   refine⟨by simp,λw z=>?_⟩;rw[BH.1 z];obtain⟨u,H,I⟩:=cD h.table (el (rh y).2);exact⟨H ▸ u.1,cq (kl h to)⟩
theorem Bj {n:aa}(z:c8 n.1 (aa.others n)){s d:Int}(I:InP s 0 1):InP (iX n s d) 0 7:=by
 unfold iX;cases u:decide (dI (dj (aa.others n) s)≠[])&&aR .i64 d 4==0 with
 |true =>
  rw[CT,decide_eq_true_eq]at u;have:=(eJ (d:=CK d (2 ^ 3)) u.1).2.2;unfold dI at this;obtain⟨f,H,e⟩:=BS.1 (BZ this);simp only[cond_true];show InP (gK (dI (dj (aa.others n) s)) (CK d (2 ^ 3))) 0 7;unfold dI;rw[<- e];exact ((tp z s).1 f (B6.1 H).1).1
 |false =>
  obtain⟨r,y⟩:=lL (a:=CK d (2 ^ 3)) (m:=3) (by omega);have r:0<=aR .i64 (CK d (2 ^ 3)) 3:=r;have y:aR .i64 (CK d (2 ^ 3)) 3<=3:=y;obtain⟨M,J⟩:=I;simp only[cond_false];exact⟨by omega,by omega⟩
theorem vd {n:aa}(I:ax (aa.table n))(J:c8 n.1 (aa.others n))(r:Int):(eX n r).length<=2/\∀ w∈eX n r,hZ w:=by
 have u:([]:List aq).length<=2/\∀ w∈([]:List aq),hZ w:=⟨by simp,by simp⟩;unfold eX;cases aR .i64 r 3==1 with
 |true =>
  simp only[cond_true,ir];cases iL n with
  |false=>exact u
  |true =>
   refine⟨?_,λw z=>?_⟩
   ·show ((([0,1]:List Int).filter (λs=>s != ao n.1)).map _).length<=2;rw[B5];exact CB _ _
   ·obtain⟨s,O,rfl⟩:=BS.1 z;refine⟨Bj J ?_,cq I⟩;have:=(B6.1 O).1;simp at this;rcases this with rfl|rfl <;> exact⟨by decide,by decide⟩
 |false =>
  simp only[cond_false];by_cases y:cd n=[]
  ·rw[decide_eq_true y,Bool.or_true];exact u
  ·rw[decide_eq_false y,Bool.or_false];obtain⟨f,M,e⟩:=BS.1 (eJ (d:=CK r (2 ^ 2)) y).2.2;have H:InP (gK (cd n) (CK r (2 ^ 2))) 0 7:=by
    rw[<- e];exact (I.1 f (B6.1 M).1).1
   cases aR .i64 r 3==3 with
   |true=>exact u
   |false =>
    simp only[cond_false];cases aR .i64 r 3==0 with
    |true=>exact⟨by simp,λw z=>by rw[BH.1 z];exact⟨H,cq I⟩⟩
    |false =>
     simp only[cond_false,m8]
     match R:aa.others n with
     |[]=>exact u
     |x::_=>exact⟨by simp,λw z=>by rw[BH.1 z];exact⟨H,cq (J.1 x (by rw[R];simp)).2.2.2.1⟩⟩
theorem UpX.far {n:aa}(h:UpX n):hY n:=⟨by rcases mZ h.me h.others with e|⟨x,e⟩ <;> rw[e] <;> simp,λx r=>⟨(h.others.1 x r).2.2.2.1,cq (h.others.1 x r).2.2.2.1⟩⟩
theorem nd {n:aa}(h:UpX n)(H:bd n<=1000000):((aa.probe n).1=-1\/0<=(aa.probe n).1)/\0<=(aa.probe n).2.1/\(aa.probe n).2.1<=1000000:=by
 have r:=h.probe;have y:bd n=n.2.2.2.2.2.1:=rfl;unfold cW at r;split at r
 ·rename_i J;rw[r];exact⟨.inl rfl,by show (0:Int)<=0;omega,by show (0:Int)<=1000000;omega⟩
 ·obtain⟨_,⟨f,u,e⟩,⟨z,I⟩,_⟩:=r;have:=(h.table.1 f u).1.1;exact⟨.inr (e ▸ this),z,by omega⟩
theorem Bk {n:aa}(h:UpN n)(z:bd n<999999)(r:Int):(mn n r).length<=5/\∀ w∈mn n r,hZ w:=by
 have R:=(kS h.x.later (show cL (cF n) from h.self)).1.table;obtain⟨y,I⟩:=tt R;obtain⟨O,_,_⟩:=pM h z;have H:=(lM h z).1;obtain⟨X,J⟩:=vd H.x.table H.x.others r;have M:(dQ (fk n).1).2.length<=1/\∀ w∈(dQ (fk n).1).2,hZ w:=by
  unfold dQ;cases (aa.probe (fk n).1).1==-1 with
  |true=>exact zM O.x.say
  |false=>exact⟨by simp,by simp⟩
 unfold mn;have y:(fk n).2.length<=2:=y;refine⟨by rw[BL,BL];omega,λw u=>?_⟩;rcases BM.1 u with u|u
 ·rcases BM.1 u with u|u
  ·exact I w u
  ·exact M.2 w u
 ·exact J w u
theorem xO (K:Nat)(n:aa)(H:Int)(h:UpN n)(hg:n.2.2.1=false)(hm:bd n<999999)(Z:1048577<K):Q208.f K (n,H,())=some ((f9 n,mn n H,()),()):=by
 have a3:=h.x.now0;simp only[Q208.f,zcp4];refine (congrArg (λb=>bif !b then _ else _) h.up).trans ?_;refine (congrArg (λb=>bif b then _ else _) hg).trans ?_;refine (congrArg (λb=>bif b then _ else _) (decide_eq_false (show ¬ n.2.2.2.2.2.1>=999999 by have:bd n=n.2.2.2.2.2.1:=rfl;omega))).trans ?_;simp only[cond_false];rw[show wr .i64 (n.2.2.2.2.2.1+1)=n.2.2.2.2.2.1+1 from aE (by have:bd n=n.2.2.2.2.2.1:=rfl;omega) (by have:bd n=n.2.2.2.2.2.1:=rfl;omega)];have hl:UpX (cF n):=h.x.later;have a2:∀ d∈aa.doubts (cF n),0<=d.2.2.1/\d.2.2.1<=(cF n).2.2.2.2.2.1/\d.2.2.2.length<=1048576:=λd hd=>by
  obtain⟨_,⟨s0,s1⟩,_,h4⟩:=hl.doubts.1 d hd;exact⟨s0,s1,BO (iU (k:=λx=>x) h4.2 λx hx=>(h4.1 x hx).1) (by decide)⟩
 have X:∀ d∈aa.doubts (cF n),∃ f∈aa.table (cF n),f.1=d.1:=λd hd=>by
  obtain⟨⟨f,hf,e,_⟩,_⟩:=hl.doubts.1 d hd;exact⟨f,hf,e⟩
 have Y:(cF n).2.2.2.2.2.1<=1000000:=by show bd n+1<=1000000;omega
 refine (congrArg (λo=>BG o _) (xh K (cF n) ⟨hl.say,X,rfl⟩ a2 Y Z)).trans ?_;simp only[BD];obtain⟨b1,b2,t,c,ds,eb⟩:=kS hl (show cL (cF n) from h.self);have z:tg (fk n).1:=(pM h hm).1.seq;have a0:bd (c9 (cF n))=bd n+1:=by rw[eb];rfl
 have hp:=nd b1 (by omega);obtain⟨a1,_⟩:=tt b1.table;have R:=(lM h hm).1;have r:=xz K (f9 n) H R.x.far R.x.table (cq R.x.table) Z;have u:=(pM h hm).1;obtain⟨M,_⟩:=zM u.x.say;obtain⟨y,_⟩:=vd R.x.table R.x.others H;unfold f9 dQ fk at r R y;unfold fk at z u M;unfold mn f9 dQ fk;generalize c9 (cF n)=m at *;rcases hp.1 with I|I
 ·have e0:a7 m=(m,[]):=by unfold a7;rw[show ((aa.probe m).1==-1)=true by simpa using I];rfl
  rw[e0]at r z u M y ⊢;refine (congrArg (λb=>bif b then _ else _) (decide_eq_false (show ¬ m.2.2.2.2.2.2.2.2.2.2.1.1>=0 by have:(aa.probe m).1=m.2.2.2.2.2.2.2.2.2.2.1.1:=rfl;omega))).trans ?_;refine (congrArg (λb=>bif b then _ else _) (decide_eq_true (show m.2.2.2.2.2.2.2.2.2.2.1.1<0 by have:(aa.probe m).1=m.2.2.2.2.2.2.2.2.2.2.1.1:=rfl;omega))).trans ?_;refine (congrArg (λo=>BG o _) (va K m u.x.say z Z)).trans ?_;simp only[BD];rw[show ((aa.probe m).1==-1)=true by simpa using I]at r y ⊢;simp only[cond_true]at r y M ⊢;rw[szw _ _ _ (by omega) (by simp;omega)];simp only[cond_true];refine (congrArg (λo=>BG o _) r).trans ?_;simp only[BD];rw[szw _ _ _ (by omega) (by simp;omega)];rfl
 ·refine (congrArg (λb=>bif b then _ else _) (decide_eq_true (show m.2.2.2.2.2.2.2.2.2.2.1.1>=0 from I))).trans ?_;refine (congrArg (λo=>BG o _) (xk K m b1.say (by omega) hp.2.1 hp.2.2 b1.now0 (by have:bd m=m.2.2.2.2.2.1:=rfl;omega) Z)).trans ?_;simp only[BD];generalize a7 m=fo at *;obtain⟨J,ws⟩:=fo;simp only at r z u M y a1 ⊢;have O:=(nd u.x (by have:=u.now1;omega)).1;rcases O with O|O
  ·refine (congrArg (λb=>bif b then _ else _) (decide_eq_true (show J.2.2.2.2.2.2.2.2.2.2.1.1<0 by have:(aa.probe J).1=J.2.2.2.2.2.2.2.2.2.2.1.1:=rfl;omega))).trans ?_;refine (congrArg (λo=>BG o _) (va K J u.x.say z Z)).trans ?_;simp only[BD];rw[show ((aa.probe J).1==-1)=true by simpa using O]at r y ⊢;simp only[cond_true]at r y ⊢;rw[szw _ _ _ (by omega) (by omega)];simp only[cond_true];refine (congrArg (λo=>BG o _) r).trans ?_;simp only[BD];rw[szw _ _ _ (by omega) (by rw[BL];omega)];rfl
  ·refine (congrArg (λb=>bif b then _ else _) (decide_eq_false (show ¬ J.2.2.2.2.2.2.2.2.2.2.1.1<0 by have:(aa.probe J).1=J.2.2.2.2.2.2.2.2.2.2.1.1:=rfl;omega))).trans ?_;rw[show ((aa.probe J).1==-1)=false by simp;omega]at r y ⊢;simp only[cond_false]at r y ⊢;refine (congrArg (λo=>BG o _) r).trans ?_;simp only[BD,CE];rw[szw _ _ _ (by omega) (by omega)];rfl
theorem tu (K:Nat)(l:List af)(f:af)(J:l.length<=1048576)(M:1048577<K):Ret (Q188.f K (l,f,())) (f∈l):=by
 have:=ch (step:=λrec a=>Q188.s0 K (l,f,()) rec a) l.length (λi=>(i:Int)) (λj=>∃ h:j<l.length,l[j]=f) (rb false) (λ_=>rb true) ?_ ?_ l.length K 0 (by omega) (by omega)
 ·rcases this with ⟨H,u⟩|⟨j,_,_,⟨z,I⟩,_,u⟩
  ·refine⟨false,u,?_⟩;refine⟨λh=>absurd h (by decide),λy=>?_⟩;obtain⟨i,r,e⟩:=B3 y;exact absurd ⟨r,e⟩ (H i (BW _) r)
  ·exact⟨true,u,λ_=>I ▸ BN z,λ_=>rfl⟩
 ·intro rec i r;simp only[Q188.s0];rw[bq (by omega:(i:Int)<(BF l:Int)),ag r,ar i (by omega)];simp only[cond_true,BD];rw[gW];by_cases h:l[i]=f
  ·rw[decide_eq_true h];exact .inr ⟨⟨r,h⟩,rfl⟩
  ·rw[decide_eq_false h];exact .inl ⟨λ⟨_,u⟩=>h u,rfl⟩
 ·intro rec;simp only[Q188.s0,aQ];rfl
theorem UpN.nb {n:aa}(h:UpN n):NB n where
 table:=cq h.x.table
 cast:=by have:=clen h.x.say;omega
 doubts:=h.x.say.ld
 by_:=λd u=>by have:=(h.learns.by_ d u).len;omega
 places:=plen h.x.places
 trips:=λp y=>by have:=(h.x.places.1 p y).2.2.2.2.1.2;omega
 others:=olen h.x.others
 facts:=λx r=>cq (h.x.others.1 x r).2.2.2.1
def jz (r:Int)(g:Bool):aa:=(r,false,false,g,0,0,0,0,[],[],(0,0,0,false),[],(0,0,0,0),[],[])
structure dR (i:Nat) (n:aa):Prop where
 me:n.1=(i:Int)
 lt:i<8
 up:n.2.1=true->UpN n
 down:n.2.1=false->n=jz n.1 n.2.2.2.1
theorem dR.nb {i:Nat}{n:aa}(h:dR i n):NB n:=by
 cases r:n.2.1 with
 |true=>exact (h.up r).nb
 |false =>
  rw[h.down r];exact⟨by simp[jz,aa.table],by simp[jz,aa.cast],by simp[jz,aa.doubts],by simp[jz,aa.doubts],by simp[jz,aa.places],by simp[jz,aa.places],by simp[jz,aa.others],by simp[jz,aa.others]⟩
theorem dR.short {i:Nat}{n:aa}(h:dR i n):(aa.table n).length<=4:=by
 cases r:n.2.1 with
 |true=>exact ur (h.up r).x.table (h.up r).x.site
 |false=>rw[h.down r];exact BW _
theorem dR.of {i:Nat}{n m:aa}(h:dR i n)(r:UpN m)(e:m.1=n.1):dR i m:=⟨e.trans h.me,h.lt,λ_=>r,λu=>by rw[r.up]at u;cases u⟩
def gM (l:List lK):Prop:=l.length<=60/\∀ f∈l,InP f.1 0 7/\f.2.1.size<=2000
structure WI (w:bX) (c:Nat):Prop where
 len:w.1.length=8
 node:∀ (i:Nat) (h:i<w.1.length),dR i w.1[i]
 radio:gM w.2.1
 sides:w.2.2.1.length=8
 born:w.2.2.2.length<=c
theorem WI.mono {w:bX}{c d:Nat}(h:WI w c)(r:c<=d):WI w d:=⟨h.len,h.node,h.radio,h.sides,BO h.born r⟩
theorem WI.put {w:bX}{c:Nat}(h:WI w c){i:Nat}{n:aa}(r:dR i n){rd:List lK}(y:gM rd){b:List af}{d:Nat}(z:b.length<=d):WI (w.1.set i n,rd,w.2.2.1,b) d:=by
 refine⟨by rw[BR];exact h.len,λj u=>?_,y,h.sides,z⟩;show dR j ((w.1.set i n)[j]'u);rw[List.getElem_set];split
 ·rename_i e;exact e ▸ r
 ·exact h.node j _
theorem xP (K:Nat)(w:bX)(R:Int)(u:List aq)(hs:w.2.2.1.length=8)(y:InP R 0 7)(O:∀ x∈u,hZ x)(hr:gM w.2.1)(hl:u.length<=1000)(hK:1048577<K) :
  Tot (Q185.f K (w,R,u,())) λr=>∃ rd,gM rd/\r.1.1=(w.1,rd,w.2.2):=by
 simp only[Q185.f,Q185.pre];obtain⟨f0,f1⟩:=y;refine Tot.iter (step:=λrec a=>Q185.s0 K (w,R,u,()) rec a) (λa=>0<=a.1/\a.1<=u.length/\gM a.2) (λa=>u.length-a.1.toNat) ?_ K _ (by show u.length-BI 0<K;omega) ⟨by show (0:Int)<=0;omega,by show (0:Int)<=_;omega,hr⟩;rintro rec ⟨i,rd⟩ ⟨I,h1,H⟩ ih;simp only at I h1 H ih ⊢;simp only[Q185.s0];refine Tot.cnd (λh=>?_) λ_=>Tot.ret ⟨rd,H,rfl⟩
 have h:=of_decide_eq_true h;rw[aE (n:=i+1) (by omega) (by omega)];have Y:∀ z,gM z->Tot (rec (i+1,z)) λr=>∃ rd,gM rd/\r.1.1=(w.1,rd,w.2.2):=λz J=>ih _ ⟨by show 0<=i+1;omega,by show i+1<=_;omega,J⟩ (by show u.length-BI (i+1)<u.length-BI i;omega)
 refine Tot.cnd (λh3=>?_) λ_=>Y rd H
 have h3:=of_decide_eq_true h3;refine Tot.ix f0 (by omega) λ_ _ _=>Tot.ix I h λy2 X _=>?_
 obtain⟨⟨t0,t1⟩,_⟩:=O y2 X;refine Tot.ix t0 (by omega) λ_ _ _=>Tot.cnd (λ_=>Tot.fit (Tot.ix I h λy4 M _=>Tot.ix I h λy5 Z _=>Tot.bind (oo K y5 (O y5 Z).2 hK) λv hv=>Tot.fit (Y _ ⟨?_,λf y=>?_⟩) (by omega) ?_) (by omega) ?_) λ_=>Y rd H
 ·simp;omega
 ·rcases BM.1 y with y|y
  ·exact H.2 f (by simpa using y)
  ·rw[BH.1 y];exact⟨(O y4 M).1,by show v.1.1.size<=2000;have:=hv.1;omega⟩
 ·simp;omega
 ·simp;omega
theorem Tot.ins {α:Type}{l:List α}{x:α}{a:Int}{c:Nat}{Q:(List α×Unit)×Unit->Prop}(u:0<=a)(z:a<=l.length)(y:l.length<=1048576)(H:c<=64)(k:∀ r:List α,r.length=l.length+1->Q ((r,()),())) :
  Tot (bif decide ((0:Int)<=0)&&decide (0<=a)&&decide (a<=(BF l:Int))&&true then (bif decide ((BF ([]:List α)+BF ((l.take (BI a)).drop (BI 0)))*c<=ak) then (bif decide ((BF ([]++((l.take (BI a)).drop (BI 0)))+BF ([x]))*c<=ak) then (bif decide (0<=a)&&decide (a<=(BF l:Int))&&decide ((BF l:Int)<=(BF l:Int))&&true then (bif decide ((BF (([]++((l.take (BI a)).drop (BI 0)))++([x]))+BF ((l.take (BI (BF l:Int))).drop (BI a)))*c<=ak) then (some (((([]++((l.take (BI a)).drop (BI 0)))++([x]))++((l.take (BI (BF l:Int))).drop (BI a)),()),())) else none) else none) else none) else none) else none) Q:=by
 obtain⟨m,rfl⟩:=BV u;refine Tot.must (by simp;omega) (Tot.fit (Tot.fit (Tot.must (by simp;omega) (Tot.fit (Tot.ret (k _ ?_)) (by omega) ?_)) (by omega) ?_) (by omega) ?_) <;>
 simp only[BJ,B9,BY,BQ,BL,BU,CL,CV,B7] <;> omega
theorem zi (K:Nat)(f g:af):Tot (Q186.f K (f,g,())) λ_=>True:=by
 simp only[Q186.f];exact Tot.cnd (λ_=>Tot.ret trivial) λ_=>Tot.bind (sK K g f).tot λ_ _=>Tot.ret trivial
theorem xQ (K:Nat)(l:List af)(f:af)(I:l.length<=1048576)(O:1048577<K):Tot (Q187.f K (l,f,())) λr=>r.1.1.length<=l.length+1:=by
 simp only[Q187.f,Q187.pre];refine Tot.iter (A:=Int) (step:=λrec a=>Q187.s0 K (l,f,()) rec a) (λa=>0<=a/\a<=l.length) (λa=>l.length-a.toNat) ?_ K _ (by show l.length-BI 0<K;omega) ⟨by show (0:Int)<=0;omega,by show (0:Int)<=_;omega⟩;rintro rec i ⟨H,z⟩ J;simp only[Q187.s0];have u:=λ (z:i<=l.length)=>Tot.ins (x:=f) (c:=32) (Q:=λr=>r.1.1.length<=l.length+1) H z I (by omega) λr R=>by show r.length<=_;omega
 have y:l.length<=l.length+1:=CM _;refine Tot.cnd (λh=>?_) λ_=>Tot.cnd (λh=>Tot.ix H (of_decide_eq_true h) λ_ _ _=>Tot.cnd (λ_=>Tot.ret y) λ_=>u z) λ_=>u z
 have h:i<(l.length:Int):=of_decide_eq_true h;rw[aE (n:=i+1) (by omega) (by omega)];refine Tot.ix H h λM _ _=>Tot.bind (zi K M f) λ_ _=>Tot.cnd (λ_=>J (i+1) ⟨by show 0<=i+1;omega,by show i+1<=(l.length:Int);omega⟩ (by show l.length-BI (i+1)<l.length-BI i;omega)) λ_=>Tot.cnd (λ_=>Tot.ix H h λ_ _ _=>Tot.cnd (λ_=>Tot.ret y) λ_=>u z) λ_=>u z
theorem zN (K:Nat)(w:bX)(z y u:List af)(h1:z.length<=1048576)(h2:y.length<=1048576)(h3:u.length<=100)(hb:w.2.2.2.length<=1000000)(M:1048577<K) :
  Tot (Q189.f K (w,z,y,u,())) λr=>∃ b,b.length<=w.2.2.2.length+u.length/\r.1.1=(w.1,w.2.1,w.2.2.1,b):=by
 simp only[Q189.f,Q189.pre];refine Tot.iter (step:=λrec a=>Q189.s0 K (w,z,y,u,()) rec a) (λa=>0<=a.1/\a.1<=u.length/\(a.2.length:Int)<=w.2.2.2.length+a.1) (λa=>u.length-a.1.toNat) ?_ K _ (by show u.length-BI 0<K;omega) ⟨by show (0:Int)<=0;omega,by show (0:Int)<=_;omega,by show (w.2.2.2.length:Int)<=w.2.2.2.length+0;omega⟩;rintro rec ⟨i,b⟩ ⟨H,i1,Z⟩ O;simp only at H i1 Z O ⊢;simp only[Q189.s0];refine Tot.cnd (λh=>?_) λ_=>Tot.ret ⟨b,by omega,rfl⟩
 have h:=of_decide_eq_true h;rw[aE (n:=i+1) (by omega) (by omega)];have J:∀ I:List af,I.length<=b.length+1->Tot (rec (i+1,I)) λr=>∃ b,b.length<=w.2.2.2.length+u.length/\r.1.1=(w.1,w.2.1,w.2.2.1,b):=λI a0=>O _ ⟨by show 0<=i+1;omega,by show i+1<=_;omega,by show (I.length:Int)<=_+(i+1);omega⟩ (by show u.length-BI (i+1)<u.length-BI i;omega)
 refine Tot.ix H h λY _ _=>Tot.bind (tu K z Y h1 M).tot λ_ _=>Tot.cnd (λ_=>?_) λ_=>J b (CM _)
 refine Tot.ix H h λX _ _=>Tot.bind (tu K y X h2 M).tot λ_ _=>Tot.cnd (λ_=>?_) λ_=>J b (CM _)
 exact Tot.ix H h λy5 _ _=>Tot.bind (xQ K b y5 (by omega) M) λv R=>J v.1.1 R
structure zO (w:bX) (i:Nat) (n:aa) (ws:List aq) (heard:List af) (c:Nat):Prop where
 wi:WI w c
 lt:i<8
 n:dR i n
 sent:∀ x∈ws,hZ x
 wl:ws.length<=1000
 hl:heard.length<=1048576
 c:c<=1000000
theorem set_t (K:Nat)(w:bX)(i:Nat)(n:aa)(H:List aq)(u:List af)(c:Nat)(h:zO w i n H u c)(I:1048577<K):Tot (Q190.f K ((w,i),n,H,u,())) λr=>WI r.1.1 (c+4):=by
 simp only[Q190.f];have z:i<w.1.length:=by rw[h.wi.len];exact h.lt
 have M:=h.c;have O:=h.wi.born;have J:=h.n.short;rw[h.n.me];refine Tot.vl (ag z) (Tot.vl (by rw[BJ];exact ag z) (Tot.vl (ag z) (Tot.vl (by rw[BJ];exact ag z) ?_)));refine Tot.must (by simp) ?_;rw[BJ];refine Tot.bind (zN K (w.1.set i n,w.2) (aa.table w.1[i]) u (aa.table n) (h.wi.node i z).nb.table h.hl (by omega) (by show w.2.2.2.length<=_;omega) I) ?_;rintro⟨⟨v,⟨⟩⟩,⟨⟩⟩ ⟨b,y,rfl⟩;refine Tot.bind (xP K (w.1.set i n,w.2.1,w.2.2.1,b) (i:Int) H h.wi.sides ⟨by omega,by have:=h.lt;omega⟩ h.sent h.wi.radio h.wl I) ?_;rintro⟨⟨v,⟨⟩⟩,⟨⟩⟩ ⟨rd,hr,rfl⟩;have y:b.length<=w.2.2.2.length+(aa.table n).length:=y;exact Tot.ret (h.wi.put h.n hr (by omega))
theorem Bl (K:Nat)(w:bX)(i:Nat)(n:aa)(H:List aq)(u:List af)(c:Nat)(h:zO w i n H u c)(I:1048577<K):Tot (Q209.f K (w,n,H,u,())) λr=>WI r.1.1 (c+4):=by
 simp only[Q209.f];have z:i<w.1.length:=by rw[h.wi.len];exact h.lt
 have M:=h.c;have O:=h.wi.born;have J:=h.n.short;rw[h.n.me];refine Tot.vl (ag z) (Tot.vl (by rw[BJ];exact ag z) (Tot.vl (ag z) (Tot.vl (by rw[BJ];exact ag z) ?_)));rw[BJ];refine Tot.bind (zN K (w.1.set i n,w.2) (aa.table w.1[i]) u (aa.table n) (h.wi.node i z).nb.table h.hl (by omega) (by show w.2.2.2.length<=_;omega) I) ?_;rintro⟨⟨v,⟨⟩⟩,⟨⟩⟩ ⟨b,y,rfl⟩;refine Tot.bind (xP K (w.1.set i n,w.2.1,w.2.2.1,b) (i:Int) H h.wi.sides ⟨by omega,by have:=h.lt;omega⟩ h.sent h.wi.radio h.wl I) ?_;rintro⟨⟨v,⟨⟩⟩,⟨⟩⟩ ⟨rd,hr,rfl⟩;have y:b.length<=w.2.2.2.length+(aa.table n).length:=y;exact Tot.ret (h.wi.put h.n hr (by omega))
theorem rm (K:Nat)(l:List lK)(at_:Int)(z:0<=at_)(I:at_<l.length)(y:gM l):Tot (Q151.f K (l,at_,())) λr=>gM r.1.1:=by
 have H:=y.1;obtain⟨m,rfl⟩:=BV z;simp only[Q151.f];rw[ar m (by omega)];refine Tot.must (by simp;omega) (Tot.fit (Tot.must (by simp;omega) (Tot.fit (Tot.ret ⟨?_,λf u=>y.2 f ?_⟩) (by omega) ?_)) (by omega) ?_)
 ·simp only[BJ,B9,BY,BQ,BL,BU,CL];omega
 ·simp only[BJ,B9,BY,BQ,CC]at u;rcases BM.1 u with u|u
  ·exact BZ u
  ·exact List.mem_of_mem_drop u
 ·simp only[BJ,B9,BY,BQ,BL,BU,CL];omega
 ·simp only[BJ,B9,BY,BQ,BU,B7];omega
theorem rq (K:Nat)(w:bX)(c:Nat)(h:WI w c)(hc:c<=1000000)(to:Int)(t0:0<=to)(t1:to<=7)(x:aq)(X:iS x)(H:1048577<K){G:aa->aa->Option ((bX×Unit)×Unit)}
  (hG:∀ y:aa,G y y=(Q184.f K (y,x,())).bind λI=>(Q190.f K ((w,BI to),I.1.1,I.1.2.1,aq.table x,())).bind λO=>some ((O.1.1,()),())) :
  Tot ((idx w.1 to).bind λ_=>(idx w.1 (BI to:Nat)).bind λM=>(idx w.1 (BI to:Nat)).bind λR=>G M R) λr=>WI r.1.1 (c+4):=by
 obtain⟨i,rfl⟩:=BV t0;have J:i<w.1.length:=by rw[h.len];omega
 have z:=h.node i J;refine Tot.vl (ag J) (Tot.vl (by rw[BJ];exact ag J) (Tot.vl (by rw[BJ];exact ag J) ?_));rw[hG,Bi K w.1[i] x z.up (cq X.2.2.2.2.2.2.2.1) H];simp only[BD,BJ];refine Tot.bind (set_t K w i _ _ _ c ⟨h,z.lt,?_,?_,?_,cq X.2.2.2.2.2.2.2.1,hc⟩ H) λv Y=>Tot.ret Y
 ·cases u:w.1[i].2.1 with
  |true=>exact z.of (u9 (z.up u) H).1 (u9 (z.up u) H).2.1
  |false =>
   rw[show dA K w.1[i] x=(w.1[i],[]) by unfold dA;rw[if_neg λh=>by have:=h.2.1;rw[u]at this;cases this]];exact z
 ·cases u:w.1[i].2.1 with
  |true=>exact λy Z=>(pW (z.up u) H).2 y Z
  |false =>
   rw[show dA K w.1[i] x=(w.1[i],[]) by unfold dA;rw[if_neg λh=>by have:=h.2.1;rw[u]at this;cases this]];simp
 ·cases u:w.1[i].2.1 with
  |true=>have:=(pW (w:=x) (z.up u) H).1;omega
  |false =>
   rw[show dA K w.1[i] x=(w.1[i],[]) by unfold dA;rw[if_neg λh=>by have:=h.2.1;rw[u]at this;cases this]];simp
theorem Au (K:Nat)(w:bX)(c:Nat)(h:WI w c)(hc:c<=1000000)(at_:Int)(keep:Bool)(h0:0<=at_)(h1:at_<w.2.1.length)(X:1048577<K):Tot (Q191.f K (w,at_,keep,())) λr=>WI r.1.1 (c+4):=by
 simp only[Q191.f,zcp8];refine Tot.ix2 h0 h1 λf hf _=>?_
 obtain⟨⟨t0,t1⟩,a0⟩:=h.radio.2 f hf;have hs:=h.sides;refine Tot.cnd (λ_=>Tot.bind (rm K w.2.1 at_ h0 h1 h.radio) ?_) λ_=>Tot.bind (pP K f.2.1 (by omega) X) ?_
 ·rintro⟨⟨rd,⟨⟩⟩,⟨⟩⟩ hr;have I:WI (w.1,rd,w.2.2) (c+4):=⟨h.len,h.node,hr,h.sides,BO h.born (by omega)⟩;refine Tot.bind (pP K f.2.1 (by omega) X) ?_;rintro⟨⟨(x:aq),ok,⟨⟩⟩,⟨⟩⟩ H;refine Tot.cnd (λ_=>Tot.ret I) λZ=>?_
  have H:iS x:=H (by simpa using Z);obtain⟨M,Y⟩:=H.2.2.1;have R:x.2.2.1<(w.2.2.1.length:Int):=by rw[hs];omega
  refine Tot.ix2 M R λ_ _ _=>Tot.ix2 t0 (by omega) λ_ _ _=>Tot.cnd (λ_=>Tot.ret I) λ_=>Tot.cnd (λ_=>Tot.ret I) λ_=>?_
  exact rq K (w.1,rd,w.2.2) c ⟨h.len,h.node,hr,h.sides,h.born⟩ hc f.1 t0 t1 x H X (G:=λu O=>(Q184.f K ((u.1,(u.2.1,(u.2.2.1,(u.2.2.2.1,(u.2.2.2.2.1,(u.2.2.2.2.2.1,(u.2.2.2.2.2.2.1,(u.2.2.2.2.2.2.2.1,(u.2.2.2.2.2.2.2.2.1,(u.2.2.2.2.2.2.2.2.2.1,(u.2.2.2.2.2.2.2.2.2.2.1,(O.2.2.2.2.2.2.2.2.2.2.2.1,u.2.2.2.2.2.2.2.2.2.2.2.2)))))))))))),x,())).bind λz=>(Q190.f K (((w.1,rd,w.2.2),BI f.1),z.1.1,z.1.2.1,aq.table x,())).bind λJ=>some ((J.1.1,()),())) λy=>rfl
 ·rintro⟨⟨(x:aq),ok,⟨⟩⟩,⟨⟩⟩ H;have I:WI w (c+4):=h.mono (by omega);refine Tot.cnd (λ_=>Tot.ret I) λZ=>?_
  have H:iS x:=H (by simpa using Z);obtain⟨M,Y⟩:=H.2.2.1;have R:x.2.2.1<(w.2.2.1.length:Int):=by rw[hs];omega
  refine Tot.ix2 M R λ_ _ _=>Tot.ix2 t0 (by omega) λ_ _ _=>Tot.cnd (λ_=>Tot.ret I) λ_=>Tot.cnd (λ_=>Tot.ret I) λ_=>?_
  exact rq K w c h hc f.1 t0 t1 x H X (G:=λu O=>(Q184.f K ((u.1,(u.2.1,(u.2.2.1,(u.2.2.2.1,(u.2.2.2.2.1,(u.2.2.2.2.2.1,(u.2.2.2.2.2.2.1,(u.2.2.2.2.2.2.2.1,(u.2.2.2.2.2.2.2.2.1,(u.2.2.2.2.2.2.2.2.2.1,(u.2.2.2.2.2.2.2.2.2.2.1,(O.2.2.2.2.2.2.2.2.2.2.2.1,u.2.2.2.2.2.2.2.2.2.2.2.2)))))))))))),x,())).bind λz=>(Q190.f K (((w.1,w.2),BI f.1),z.1.1,z.1.2.1,aq.table x,())).bind λJ=>some ((J.1.1,()),())) λy=>rfl
theorem Av (K:Nat)(w:bX)(c:Nat)(h:WI w c)(at_ u:Int)(X:0<=at_)(R:at_<w.2.1.length):Tot (Q192.f K (w,at_,u,())) λr=>WI r.1.1 c:=by
 simp only[Q192.f];refine Tot.ix2 X R λf Y _=>?_
 obtain⟨y,z⟩:=h.radio.2 f Y;refine Tot.cnd (λ_=>Tot.ret h) λ_=>Tot.cnd (λ_=>Tot.ret h) λZ=>?_
 have I:¬ (f.2.1.size:Int)=0:=by simpa using Z
 obtain⟨H,b1⟩:=lL (a:=u) (m:=4095) (by omega);have H:0<=aR .i64 u 4095:=H;have M:0<=CA (aR .i64 u 4095) (f.2.1.size:Int):=CX _ H;have O:CA (aR .i64 u 4095) (f.2.1.size:Int)<((eu f.2.1).length:Int):=by rw[rj];exact CQ _ (by omega)
 refine Tot.not (decide_eq_false I) (Tot.ix2 M O λ_ _ _=>Tot.ix2 M O λ_ _ _=>Tot.ix2 X R λ_ _ _=>Tot.ret ⟨h.len,h.node,⟨?_,λg J=>?_⟩,h.sides,h.born⟩)
 ·show (w.2.1.set _ _).length<=60;rw[BR];exact h.radio.1
 ·rcases List.mem_or_eq_of_mem_set J with J|rfl
  ·exact h.radio.2 g J
  ·refine⟨y,?_⟩;show (gF _).size<=2000;rw[iY,BR,rj];exact z
def mq (i:Int)(g:Bool):aa:=(i,true,false,g,0,0,0,0,[(i,0,1,g)],[],(-1,0,0,false),[],(0,0,0,1500),[],[])
theorem Aw {i:Int}{g:Bool}(h:InP i 0 7):UpN (mq i g):=by
 refine⟨⟨h,CI _,⟨λf u=>?_,List.pairwise_singleton _ _⟩,λf u=>?_,⟨λx r=>(nomatch r),List.Pairwise.nil⟩,λx r=>(nomatch r),?_,⟨λd z=>(nomatch z),List.Pairwise.nil,rfl⟩,⟨?_,?_,?_,?_⟩,⟨λp y=>(nomatch y),List.Pairwise.nil⟩,⟨λp y=>(nomatch y),List.Pairwise.nil⟩⟩,?_,?_,⟨?_,?_⟩,?_,rfl⟩
 ·rw[BH.1 u];exact⟨h,⟨by show (0:Int)<=0;omega,by show (0:Int)<=999;omega⟩,by show (1:Int)<=1;omega,by show (1:Int)<=4;omega⟩
 ·rw[BH.1 u];rfl
 ·unfold cW;rw[if_pos (show (aa.probe (mq i g)).1=-1 from rfl)];rfl
 ·exact⟨by show (-100000:Int)<=0;omega,by show (0:Int)<=100000;omega⟩
 ·exact⟨by show (-100000:Int)<=0;omega,by show (0:Int)<=100000;omega⟩
 ·exact⟨by show (0:Int)<=0;omega,by show (0:Int)<=100000;omega⟩
 ·exact⟨by show (1:Int)<=1500;omega,by show (1500:Int)<=1500;omega⟩
 ·exact BH.2 rfl
 ·show (0:Int)<=999999;omega
 ·exact⟨by show (0:Int)<=0;omega,by show (0:Int)<=999999;omega⟩
 ·exact⟨by show (0:Int)<=0;omega,by show (0:Int)<=8;omega⟩
 ·exact⟨by show (0:Int)<=0;omega,by show (0:Int)<=999;omega⟩
theorem rr (K:Nat)(i:Int)(g:Bool)(h:InP i 0 7):Q131.f K (i,g,())=some ((mq i g,()),()):=by
 simp only[Q131.f];obtain⟨b,e,r⟩:=cB K i 0 7;rw[e,r.2 h];rfl
theorem dR.new (i:Nat)(g:Bool)(h:i<8):dR i (mq (i:Int) g):=⟨rfl,h,λ_=>Aw ⟨by omega,by omega⟩,λr=>by cases r⟩
theorem Bm (K:Nat)(w:bX)(c:Nat)(h:WI w c)(O:c<=1000000)(u:Int)(y:InP u 0 7)(H:1048577<K):Tot (Q211.f K (w,u,())) λr=>WI r.1.1 (c+4):=by
 have M:=h.born;have I:u.toNat<8:=by obtain⟨a,b⟩:=y;omega
 have z:=h.len;simp only[Q211.f,Q120.f,BD];rw[rr K u _ y];simp only[BD];refine Tot.ix2 y.1 (by have:=y.2;omega) λ_ _ _=>?_
 refine Tot.vl (show idx (mq u (decide (CA u 4<3))).2.2.2.2.2.2.2.2.1 0=some (u,0,1,decide (CA u 4<3)) from rfl) (Tot.bind (xQ K w.2.2.2 _ (by omega) H) λv J=>Tot.ret (h.put ?_ h.radio (by omega)));have:=dR.new u.toNat (decide (CA u 4<3)) I
 rwa [CO y.1]at this
theorem Ax {n:aa}(h:UpN n):(lI n).length<=8/\∀ x∈lI n,hZ x:=by
 unfold lI;refine⟨?_,λx u=>?_⟩
 ·rw[B5];exact BO (CB _ _) (iU h.x.table.2 λf r=>(h.x.table.1 f r).1)
 ·obtain⟨f,r,rfl⟩:=BS.1 u;exact⟨(h.x.table.1 f (B6.1 r).1).1,cq h.x.table⟩
theorem Bn (K:Nat)(w:bX)(c:Nat)(h:WI w c)(hc:c<=1000000)(e:af)(h0:InP e.2.1 0 7)(O:1048577<K):Tot (Q213.f K (w,e,())) λr=>WI r.1.1 (c+4):=by
 have a0:=h.len;have hs:=h.sides;obtain⟨a2,a1,u,keep⟩:=e;obtain⟨e0,e1⟩:=h0;simp only at e0 e1;obtain⟨i,rfl⟩:=BV e0;have R:i<w.1.length:=by omega
 have M:=h.node i R;have y:=h.mono (show c<=c+4 by omega);simp only[Q213.f];refine Tot.vl (ag R) (Tot.vl (by rw[BJ];exact ag R) ?_);generalize w.1[i]=n at M ⊢;refine Tot.cnd (λ_=>?_) λ_=>Tot.cnd (λ_=>?_) λ_=>Tot.cnd (λ_=>?_) λ_=>?_
 ·
  rw[zL];simp only[BD];exact Tot.ix2 (by omega) (by omega) λ_ _ _=>Tot.ret ⟨y.len,y.node,y.radio,by show (w.2.2.1.set _ _).length=8;rw[BR];exact h.sides,y.born⟩
 ·
  simp only[Q210.f,BD];refine Tot.ix2 (by omega) (by omega) λ_ _ _=>Tot.ret (y.put (i:=i) (n:=jz n.1 n.2.2.2.1) ?_ y.radio y.born)
  exact⟨M.me,M.lt,λJ=>(by cases J),λ_=>rfl⟩
 ·
  exact Tot.cnd (λ_=>Tot.ret y) λ_=>Tot.bind (Bm K w c h hc (i:Int) ⟨by omega,by omega⟩ O) λv z=>Tot.ret z
 ·refine Tot.cnd (λ_=>Tot.ret y) λJ=>Tot.cnd (λ_=>Tot.ret y) λY=>?_
  have J:n.2.1=true:=by simpa using J
  have H:=M.up J;have set:=λ (m:aa) (Z:List aq) (I:UpN m) (em:m.1=n.1) (X:∀ x∈Z,hZ x) (hl:Z.length<=1000)=>Bl K w i m Z [] c ⟨h,M.lt,M.of I em,X,hl,BW _,hc⟩ O
  refine Tot.cnd (λ_=>?_) λ_=>Tot.cnd (λ_=>?_) λ_=>Tot.cnd (λ_=>?_) λ_=>Tot.ret y
  ·refine Tot.cnd (λ_=>Tot.ret y) λI=>?_
   have I:bd n<999999:=by have I:¬ n.2.2.2.2.2.1>=999999:=of_decide_eq_false I;show n.2.2.2.2.2.1<999999;omega
   obtain⟨t1,t2,_⟩:=lM H I;obtain⟨w1,w2⟩:=Bk H I u;exact Tot.vl (xO K n u H Y I O) (Tot.bind (set _ _ t1 t2 w2 (BO w1 (by omega))) λv z=>Tot.ret z)
  ·obtain⟨t1,t2⟩:=zb H Y;obtain⟨w1,w2⟩:=Ax t1;exact Tot.vl (Ac K n H.nb H.ok J Y O) (Tot.bind (set _ _ t1 t2 w2 (BO w1 (by omega))) λv z=>Tot.ret z)
  ·refine Tot.bind (cB K u 0 7).tot λv z=>Tot.cnd (λ_=>Tot.ret y) λh1=>Tot.cnd (λ_=>Tot.ret y) λ_=>?_
   have hd:InP u 0 7:=z.1 (by simpa using h1);rw[eG K,eG K];simp only[BD];refine Tot.cnd (λ_=>Tot.ret y) λ_=>?_
   refine Tot.vl (nS K n 4 u (cq H.x.table)) (Tot.bind (set n _ H rfl (λx hx=>?_) (by simp)) λv z=>Tot.ret z);rw[BH.1 hx];exact⟨hd,cq H.x.table⟩
theorem do_t (K:Nat)(w:bX)(c:Nat)(h:WI w c)(R:c<=1000000)(e:af)(O:1048577<K):Tot (Q215.f K (w,e,())) λr=>WI r.1.1 (c+4):=by
 have z:=h.mono (show c<=c+4 by omega);have hr:=h.radio.1;simp only[Q215.f];rw[aE (n:=(BF w.2.1:Int)-1) (by omega) (by omega)];have u:Tot ((Q12.f K (e.2.1,0,(BF w.2.1:Int)-1,())).bind λX=>bif !X.1.1 then (some ((w,false,()),())) else (bif e.1==2 then ((Q191.f K (w,e.2.1,e.2.2.2,())).bind λZ=>some ((Z.1.1,true,()),())) else (bif e.1==4 then ((Q192.f K (w,e.2.1,e.2.2.1,())).bind λM=>some ((M.1.1,M.1.2.1,()),())) else ((Q151.f K (w.2.1,e.2.1,())).bind λY=>some (((w.1,(Y.1.1,w.2.2)),true,()),()))))) λr=>WI r.1.1 (c+4):=by
  refine Tot.bind (cB K _ _ _).tot λv y=>Tot.cnd (λ_=>Tot.ret z) λJ=>?_
  obtain⟨I,H⟩:InP e.2.1 0 ((BF w.2.1:Int)-1):=y.1 (by simpa using J);have H:e.2.1<(w.2.1.length:Int):=by omega
  refine Tot.cnd (λ_=>Tot.bind (Au K w c h R e.2.1 e.2.2.2 I H O) λv y=>Tot.ret y) λ_=>Tot.cnd (λ_=>Tot.bind (Av K w c h e.2.1 e.2.2.1 I H) λv y=>Tot.ret (WI.mono y (by omega))) λ_=>?_
  exact Tot.bind (rm K w.2.1 e.2.1 I H h.radio) λv y=>Tot.ret ⟨z.len,z.node,y,z.sides,z.born⟩
 refine Tot.cnd (λ_=>u) λ_=>Tot.cnd (λ_=>u) λ_=>Tot.cnd (λ_=>u) λ_=>?_
 exact Tot.bind (cB K _ _ _).tot λv y=>Tot.cnd (λ_=>Tot.ret z) λJ=>Tot.bind (Bn K w c h R e (y.1 (by simpa using J)) O) λv y=>Tot.ret y
theorem zj (K:Nat)(w:bX)(X:w.1.length<=1048576)(I:∀ n∈w.1,NB n)(O:w.2.1.length<=1048576)(R:w.2.2.1.length<=1048576)(Y:w.2.2.2.length<=1048576)(H:1048577<K):Q216.f K (w,())=some ((w,()),()):=by
 simp only[Q216.f,Q216.pre];rw[szb _ _ _ (by omega) (by show (BF ([]:List lK))+w.2.1.length<=_;simp;omega)];simp only[cond_true];rw[szb _ _ _ (by omega) (by show (BF ([]:List Int))+w.2.2.1.length<=_;simp;omega)];simp only[cond_true];rw[szb _ _ _ (by omega) (by show (BF ([]:List af))+w.2.2.2.length<=_;simp;omega)];simp only[cond_true];have:∀ (d i k:Nat),i+d=w.1.length->d<k->ae (λrec a=>Q216.s0 K (w,()) rec a) k ((i:Int),w.1.take i)=some ((w,()),()):=by
  intro d;induction d with
  |zero =>
   intro i k y z;obtain⟨k,rfl⟩:∃ u,k=u+1:=⟨k-1,by omega⟩;have:i=w.1.length:=by omega
   subst this;show Q216.s0 K (w,()) _ _=_;simp only[Q216.s0,aQ,CC];rfl
  |succ d M =>
   intro i k y z;obtain⟨k,rfl⟩:∃ u,k=u+1:=⟨k-1,by omega⟩;have r:i<w.1.length:=by omega
   show Q216.s0 K (w,()) _ _=_;simp only[Q216.s0];rw[bq (by omega:(i:Int)<(BF w.1:Int)),ag r,ar i (by omega)];simp only[cond_true,BD];refine (congrArg (λo=>BG o _) (jH K w.1[i] (I _ (BN r)) H)).trans ?_;simp only[BD];have J:decide (((w.1.take i).length+[w.1[i]].length)*232<=ak)=true:=decide_eq_true (by
    rw[BU];simp only[CV,B7,ak];omega)
   refine (congrArg (λb=>bif b then _ else _) J).trans ?_;have e:w.1.take i++[w.1[i]]=w.1.take (i+1):=by rw[CG,B4 r];rfl
   rw[<- M (i+1) k (by omega) (by omega),<- e];rfl
 exact this w.1.length 0 K (by omega) (by omega)
theorem WI.copy {w:bX}{c:Nat}(h:WI w c)(M:c<=1000000)(K:Nat)(r:1048577<K):Q216.f K (w,())=some ((w,()),()):=by
 have I:=h.len;have H:=h.radio.1;have J:=h.sides;have z:=h.born;refine zj K w (by omega) (λn u=>?_) (by omega) (by omega) (by omega) r;obtain⟨i,y,rfl⟩:=B3 u;exact (h.node i y).nb
theorem Bo (K:Nat)(w:bX)(c:Nat)(y:List af)(h:WI w c)(Z:y.length<=1000)(hc:c<=900000)(M:1048577<K):Tot (Q217.f K (w,y,())) λr=>WI r.1.1 (c+4*y.length)/\r.2.1=y:=by
 simp only[Q217.f,Q217.pre];refine Tot.iter (step:=λrec a=>Q217.s0 K (w,y,()) rec a) (λa=>0<=a.1/\a.1<=y.length/\WI a.2 (c+4*a.1.toNat)) (λa=>y.length-a.1.toNat) ?_ K _ (by show y.length-BI 0<K;omega) ⟨by show (0:Int)<=0;omega,by show (0:Int)<=_;omega,h⟩;rintro rec ⟨i,v⟩ ⟨O,Y,H⟩ R;simp only at O Y H R ⊢;simp only[Q217.s0];refine Tot.cnd (λz=>?_) λ_=>Tot.ret ⟨WI.mono H (by omega),rfl⟩
 have z:i<(y.length:Int):=of_decide_eq_true z;rw[aE (n:=i+1) (by omega) (by omega)];refine Tot.vl (H.copy (by omega) K M) (Tot.ix2 O z λe _ _=>Tot.bind (do_t K v _ H (by omega) e M) ?_);rintro⟨⟨v',ok,⟨⟩⟩,⟨⟩⟩ I;have I:WI v' (c+4*i.toNat+4):=I;have J:∀ u:bX,WI u (c+4*i.toNat+4)->Tot (rec (i+1,u)) λr=>WI r.1.1 (c+4*y.length)/\r.2.1=y:=λu X=>R (i+1,u) ⟨by show 0<=i+1;omega,by show i+1<=_;omega,X.mono (by show _<=c+4*(i+1).toNat;omega)⟩ (by show y.length-BI (i+1)<y.length-BI i;omega)
 exact Tot.cnd (λ_=>J v' I) λ_=>J v (H.mono (by omega))
theorem wb (K:Nat)(hK:1048577<K):Tot (Q132.f K ()) λr=>WI r.1.1 8:=by
 simp only[Q132.f,Q132.pre];refine Tot.iter (step:=λrec a=>Q132.s0 K () rec a) (λa=>0<=a.1/\a.1<=8/\a.2.1.length=a.1.toNat/\(∀ (j:Nat) (y:j<a.2.1.length),dR j a.2.1[j])/\a.2.2.1.length=a.1.toNat/\a.2.2.2.length=a.1.toNat) (λa=>8-a.1.toNat) ?_ K _ (by show 8-BI 0<K;omega) ⟨by show (0:Int)<=0;omega,by show (0:Int)<=8;omega,rfl,λj y=>(by cases y),rfl,rfl⟩;rintro rec ⟨i,z,O,R⟩ ⟨M,h1,Z,H,h4,h5⟩ X;simp only at M h1 Z H h4 h5 X ⊢;simp only[Q132.s0];refine Tot.cnd (λu=>?_) λu=>?_
 ·have u:i<=7:=of_decide_eq_true u;rw[aE (n:=i+1) (by omega) (by omega)];simp only[Q120.f,BD];refine Tot.vl (rr K i _ ⟨M,u⟩) (Tot.fit (Tot.fit (Tot.vl (show idx (mq i (decide (CA i 4<3))).2.2.2.2.2.2.2.2.1 0=some (i,0,1,decide (CA i 4<3)) from rfl) (Tot.fit (X _ ⟨by show 0<=i+1;omega,by show i+1<=8;omega,?_,λj y=>?_,?_,?_⟩ (by show 8-BI (i+1)<8-BI i;omega)) (by omega) ?_)) (by omega) ?_) (by omega) ?_)
  ·show (z++[mq i _]).length=(i+1).toNat;simp;omega
  ·show dR j ((z++[mq i (decide (CA i 4<3))])[j]'y);rw[List.getElem_append];split
   ·exact H j _
   ·rename_i I;have y:j<(z++[mq i (decide (CA i 4<3))]).length:=y;have J:j=i.toNat:=by simp at y;omega
    subst J;have:=dR.new i.toNat (decide (CA i 4<3)) (by omega);rw[CO M]at this;simpa using this
  ·show (O++[0]).length=(i+1).toNat;simp;omega
  ·show (R++[_]).length=(i+1).toNat;simp;omega
  ·simp;omega
  ·simp;omega
  ·simp;omega
 ·have I:=of_decide_eq_false u;refine Tot.ret ⟨?_,H,⟨BW _,λf Y=>(nomatch Y)⟩,?_,?_⟩
  ·show z.length=8;omega
  ·show O.length=8;omega
  ·show R.length<=8;omega
abbrev LtP (v n:Int):Prop:=0<=v/\v<n
def bj (b:List Int)(m:Nat)(s:List Int×Int):Prop:=∃ q:Nat,q<=m/\s=(b,(q:Int))
theorem bj.up {b:List Int}{m:Nat}{s:List Int×Int}(h:bj b m s){m':Nat}(u:m<=m'):bj b m' s:=by obtain⟨q,y,r⟩:=h;exact⟨q,by omega,r⟩
section
variable {K:Nat} {b:List Int} {m:Nat} {s:List Int×Int}
theorem aH (h:fW b)(y:bj b m s)(n:Int)(u:1<=n)(I:m<=99000):Tot (Q117.f K (s,n,())) λr=>LtP r.1.1 n/\bj b (m+1) r.2.1:=by
 obtain⟨q,J,rfl⟩:=y;obtain⟨v,e,z,H⟩:=Ag K b q n h (by omega) u;exact⟨_,e,⟨z,H⟩,q+1,by omega,rfl⟩
theorem Bp (r:List Int)(z:∀ y∈r,0<=y/\y<=255)(I:r.length<=9223372036854775807):∃ u:List Int,fW u/\Q116.f K (r,())=some (((u,(0:Int)),()),()):=by
 simp only[Q116.f];by_cases h:(r.length:Int)>2000
 ·rw[decide_eq_true h,decide_eq_true (by omega:(2000:Int)<=(r.length:Int))];exact⟨(r.take 2000).drop 0,⟨λy H=>z y (BZ (by simpa using H)),by simp;omega⟩,rfl⟩
 ·rw[decide_eq_false h];exact⟨r,⟨z,by omega⟩,rfl⟩
theorem xR (h:fW b)(Y:bj b m s)(u:Int)(h0:0<=u)(h1:u<=1)(hm:m<=98000):Tot (Q121.f K (s,u,())) λr=>(bA r.1.1/\ao r.1.1.1=u)/\bj b (m+5) r.2.1:=by
 simp only[Q121.f];refine Tot.bind (aH h Y 4 (by decide) (by omega)) λH ⟨⟨a1,b1⟩,J⟩=>Tot.bind (aH h J 3 (by decide) (by omega)) λv2 ⟨⟨a2,b2⟩,s2⟩=>Tot.bind (aH h s2 12 (by decide) (by omega)) λv3 ⟨⟨a3,b3⟩,Z⟩=>Tot.bind (aH h Z 3 (by decide) (by omega)) λv4 ⟨⟨O,X⟩,M⟩=>Tot.ix2 O X λy z _=>Tot.bind (aH h M 4 (by decide) (by omega)) λI ⟨⟨a5,b5⟩,R⟩=>?_
 simp only[Q120.f,BD];have z:InP y 0 999:=by
  simp only[CY,CW,or_false]at z;rcases z with rfl|rfl|rfl <;> constructor <;> omega
 rw[aE (n:=u*4) (by omega) (by omega),aE (n:=u*4+H.1.1) (by omega) (by omega),aE (n:=1+I.1.1) (by omega) (by omega)];refine Tot.ret ⟨⟨⟨⟨?_,?_⟩,z,?_,?_⟩,?_⟩,R⟩
 ·show (0:Int)<=u*4+H.1.1;omega
 ·show u*4+H.1.1<=7;omega
 ·show (1:Int)<=1+I.1.1;omega
 ·show (1:Int)+I.1.1<=4;omega
 ·show ao (u*4+H.1.1)=u;rw[kz ⟨by omega,by omega⟩];omega
theorem ru (h:fW b)(X:bj b m s)(hm:m<=97000):Tot (Q123.f K (s,())) λr=>bj b (m+8) r.2.1:=by
 simp only[Q123.f];refine Tot.bind (aH h X 2 (by decide) (by omega)) λY ⟨⟨R,b1⟩,I⟩=>Tot.bind (xR h I Y.1.1 R (by omega) (by omega)) λf ⟨_,Z⟩=>Tot.bind (aH h Z 12 (by decide) (by omega)) λJ ⟨_,H⟩=>?_
 have u:∀ {x y:Int} {G:(Int×Unit)×(List Int×Int)×Unit->Int->Option ((af×Unit)×(List Int×Int)×Unit)},(∀ v z,Tot (G v z) λr=>r.2.1=v.2.1)->Tot ((Q117.f K (J.2.1,2,())).bind λv=>(idx [x,y] v.1.1).bind λ_=>(idx [x,y] (BI v.1.1:Nat)).bind (G v)) λr=>bj b (m+8) r.2.1:=λO=>Tot.bind (aH h H 2 (by decide) (by omega)) λv ⟨⟨a,b⟩,M⟩=>Tot.ix2 a b λz _ _=>(O v z).mono λr e=>by rw[e];exact M.up (by omega)
 refine Tot.cnd (λ_=>u λ_ _=>Tot.ret rfl) λ_=>Tot.cnd (λ_=>u λ_ _=>Tot.ret rfl) λ_=>Tot.cnd (λ_=>u λ_ _=>Tot.ret rfl) λ_=>Tot.cnd (λ_=>Tot.ret (H.up (by omega))) λ_=>Tot.ret (H.up (by omega))
theorem xS (t:List af)(f:af):(bS t f).1.length<=t.length+1:=by
 rcases gX t f with e|e
 ·rw[e];omega
 ·rw[e];exact yJ
theorem wc {t:List af}{f:af}{z:Int}(h:ce t z)(u:ao f.1=z):ce (bS t f).1 z:=by
 rcases gX t f with e|e <;> rw[e]
 ·exact h
 ·intro g r;rcases aX.1 r with rfl|⟨r,_⟩
  ·exact u
  ·exact h g r
theorem ve (h:fW b)(hs:bj b m s)(u:Int)(h0:-1<=u)(h1:u<=1)(hm:m<=96000)(hK:1048577<K):Tot (Q122.f K (s,u,())) λr=>(ax r.1.1/\(0<=u->ce r.1.1 u)/\r.1.1.length<=5)/\bj b (m+31) r.2.1:=by
 simp only[Q122.f,Q122.pre];refine Tot.bind (aH h hs 6 (by decide) (by omega)) λv ⟨⟨v0,v1⟩,s1⟩=>?_
 refine Tot.iter (step:=λrec a=>Q122.s0 K (s,u,()) rec a) (λa=>∃ q:Nat,0<=a.2.1/\ax a.1/\(0<=u->ce a.1 u)/\(a.1.length:Int)+a.2.1<=5/\bj b q a.2.2/\q+6*a.2.1.toNat<=m+31) (λa=>a.2.1.toNat) ?_ K _ (by show v.1.1.toNat<K;omega) ⟨m+1,v0,⟨by simp,List.Pairwise.nil⟩,λ_ f X=>(nomatch X),by show ((0:Nat):Int)+v.1.1<=5;omega,s1,by show m+1+6*v.1.1.toNat<=m+31;omega⟩;rintro rec ⟨t,n,s2⟩ ⟨q,n0,O,hS,hl,I,hq⟩ ih;simp only at n0 O hS hl I hq ih ⊢;simp only[Q122.s0];refine Tot.cnd (λhn=>?_) λ_=>Tot.ret ⟨⟨O,hS,by show t.length<=5;omega⟩,I.up (by omega)⟩
 have hn:n>0:=of_decide_eq_true hn;rw[aE (n:=n-1) (by omega) (by omega)];have go:∀ (z:Int) (J:Nat) (M:List Int×Int),0<=z->z<=1->(0<=u->z=u)->bj b J M->J<=q+1->Tot ((Q121.f K (M,z,())).bind λR=>(Q119.f K (t,R.1.1,())).bind λy4=>rec (y4.1.1,n-1,R.2.1.1,R.2.1.2)) λr=>(ax r.1.1/\(0<=u->ce r.1.1 u)/\r.1.1.length<=5)/\bj b (m+31) r.2.1:=λz J M z0 z1 hz Y a1=>by
  refine Tot.bind (xR h Y z z0 z1 (by omega)) λy ⟨⟨X,a0⟩,Z⟩=>Tot.vl (vR K t y.1.1 (by omega) O.2 hK) (ih (_,_,y.2.1) ⟨J+5,by show 0<=n-1;omega,kw O X,λh9=>wc (hS h9) (by rw[a0];exact hz h9),?_,Z,by show J+5+6*(n-1).toNat<=m+31;omega⟩ (by show (n-1).toNat<n.toNat;omega))
  have:=xS t y.1.1;show ((bS t y.1.1).1.length:Int)+(n-1)<=5;omega
 refine Tot.cnd (λH=>?_) λH=>?_
 ·have H:u<0:=of_decide_eq_true H;exact Tot.bind (aH h I 2 (by decide) (by omega)) λv ⟨⟨a,b⟩,M⟩=>go v.1.1 (q+1) v.2.1 a (by omega) (λh9=>by omega) M (CD _)
 ·have H:¬ u<0:=of_decide_eq_false H;exact go u q s2 (by omega) h1 (λ_=>rfl) I (by omega)
theorem pX (h:fW b)(X:bj b m s)(hm:m<=95000)(R:1048577<K):Tot (Q124.f K (s,())) λr=>r.1.1.length<=6/\bj b (m+42) r.2.1:=by
 simp only[Q124.f];refine Tot.bind (ve h X (-1) (by decide) (by decide) (by omega) R) λt ⟨⟨hT,_,Z⟩,I⟩=>?_
 refine Tot.cnd (λJ=>?_) λ_=>Tot.ret ⟨by show t.1.1.length<=6;omega,I.up (by omega)⟩
 have J:(t.1.1.length:Int)>0:=of_decide_eq_true J;refine Tot.bind (aH h I 12 (by decide) (by omega)) λv2 ⟨_,M⟩=>Tot.cnd (λ_=>?_) λ_=>Tot.ret ⟨by show t.1.1.length<=6;omega,M.up (by omega)⟩
 refine Tot.bind (aH h M (t.1.1.length:Int) (by omega) (by omega)) λv3 ⟨⟨H,z⟩,Y⟩=>Tot.bind (aH h Y 3 (by decide) (by omega)) λv4 ⟨_,u⟩=>?_
 refine Tot.cnd (λ_=>Tot.bind (ru h u (by omega)) λf O=>Tot.ix2 H z λ_ _ _=>Tot.ret ⟨by show (t.1.1.set _ _).length<=6;rw[BR];omega,O.up (by omega)⟩) λ_=>?_
 refine Tot.cnd (λ_=>Tot.ix2 H z λy _ _=>Tot.fit (Tot.ret ⟨by show (t.1.1++[y]).length<=6;simp;omega,u.up (by omega)⟩) (by omega) (by simp;omega)) λ_=>Tot.ix2 H z λy _ _=>Tot.ret ⟨by show (t.1.1.set _ _).length<=6;rw[BR];omega,u.up (by omega)⟩
theorem Ay (h:fW b)(hs:bj b m s)(u:Int)(h0:-1<=u)(Y:u<=1)(hm:m<=95000)(Z:1048577<K):Tot (Q125.f K (s,u,())) λr=>r.1.1.length<=5/\bj b (m+36) r.2.1:=by
 simp only[Q125.f,Q125.pre];refine Tot.bind (ve h hs u h0 Y (by omega) Z) λt ⟨⟨hT,_,hl⟩,R⟩=>?_
 refine Tot.iter (step:=λrec a=>Q125.s0 K (s,u,()) rec a) (λa=>a.2.1=t.1.1/\0<=a.2.2.1/\a.2.2.1<=t.1.1.length/\(a.1.length:Int)=a.2.2.1/\bj b (m+31+a.2.2.1.toNat) a.2.2.2) (λa=>t.1.1.length-a.2.2.1.toNat) ?_ K _ (by show t.1.1.length-BI 0<K;omega) ⟨rfl,by show (0:Int)<=0;omega,by show (0:Int)<=_;omega,rfl,R⟩;rintro rec ⟨H,t',i,s2⟩ ⟨e,M,X,J,z⟩ O;simp only at e M X J z O ⊢;subst e;simp only[Q125.s0];refine Tot.cnd (λI=>?_) λ_=>Tot.ret ⟨by show H.length<=5;omega,z.up (by omega)⟩
 have I:i<(t.1.1.length:Int):=of_decide_eq_true I;rw[aE (n:=i+1) (by omega) (by omega)];refine Tot.ix2 M I λy _ _=>Tot.bind (aH h z 4 (by decide) (by omega)) λv ⟨_,s3⟩=>Tot.fit (O (_,_,_,v.2.1) ⟨rfl,by show 0<=i+1;omega,by show i+1<=_;omega,?_,s3.up (by show _<=m+31+(i+1).toNat;omega)⟩ (by show t.1.1.length-(i+1).toNat<t.1.1.length-i.toNat;omega)) (by omega) (by simp;omega)
 show ((H++[_]).length:Int)=i+1;simp;omega
theorem wd (h:fW b)(Z:bj b m s)(hm:m<=94000)(Y:1048577<K):Tot (Q126.f K (s,())) λr=>r.1.1.length<=6/\bj b (m+50) r.2.1:=by
 simp only[Q126.f];refine Tot.bind (Ay h Z (-1) (by decide) (by decide) (by omega) Y) λt ⟨hl,J⟩=>?_
 refine Tot.cnd (λM=>?_) λ_=>Tot.ret ⟨by show t.1.1.length<=6;omega,J.up (by omega)⟩
 have M:(t.1.1.length:Int)>0:=of_decide_eq_true M;refine Tot.bind (aH h J 10 (by decide) (by omega)) λv2 ⟨_,O⟩=>Tot.cnd (λ_=>?_) λ_=>Tot.ret ⟨by show t.1.1.length<=6;omega,O.up (by omega)⟩
 refine Tot.bind (aH h O (t.1.1.length:Int) (by omega) (by omega)) λv3 ⟨⟨I,H⟩,s3⟩=>Tot.bind (aH h s3 3 (by decide) (by omega)) λv4 ⟨_,u⟩=>?_
 refine Tot.cnd (λ_=>Tot.bind (aH h u 2 (by decide) (by omega)) λv5 ⟨⟨X,R⟩,z⟩=>Tot.ix2 X R λ_ _ _=>Tot.ix2 I H λ_ _ _=>Tot.ret ⟨by show (t.1.1.set _ _).length<=6;rw[BR];omega,z.up (by omega)⟩) λ_=>?_
 refine Tot.cnd (λ_=>Tot.bind (ru h u (by omega)) λf z=>Tot.ix2 I H λ_ _ _=>Tot.ret ⟨by show (t.1.1.set _ _).length<=6;rw[BR];omega,z.up (by omega)⟩) λ_=>?_
 exact Tot.ix2 I H λy _ _=>Tot.fit (Tot.ret ⟨by show (t.1.1++[y]).length<=6;simp;omega,u.up (by omega)⟩) (by omega) (by simp;omega)
theorem xT (h:fW b)(R:bj b m s)(hm:m<=95000):Tot (Q128.f K (s,())) λr=>bj b (m+6) r.2.1:=by
 simp only[Q128.f,Q127.f];refine Tot.bind (aH h R 6 (by decide) (by omega)) λv1 ⟨_,z⟩=>Tot.cnd (λ_=>Tot.ret (z.up (by omega))) λ_=>Tot.bind (aH h z 3 (by decide) (by omega)) λv3 ⟨⟨M,J⟩,Y⟩=>Tot.ix2 M J λy u _=>?_
 have u:InP y 10 100000:=by
  simp only[CY,CW,or_false]at u;rcases u with rfl|rfl|rfl <;> constructor <;> omega
 rw[aE (n:=2*y) (by omega) (by omega),aE (n:=2*y+1) (by omega) (by omega),aE (n:=y+1) (by omega) (by omega)];exact Tot.bind (aH h Y _ (by omega) (by omega)) λv6 ⟨_,O⟩=>Tot.bind (aH h O _ (by omega) (by omega)) λv7 ⟨_,H⟩=>Tot.bind (aH h H _ (by omega) (by omega)) λv8 ⟨_,X⟩=>Tot.bind (aH h X _ (by decide) (by omega)) λZ ⟨_,I⟩=>Tot.ret I
theorem pY (h:fW b)(H:bj b m s)(I:m<=94000):Tot (Q129.f K (s,())) λr=>bj b (m+8) r.2.1:=by
 simp only[Q129.f];exact Tot.bind (xT h H (by omega)) λc z=>Tot.bind (aH h z 16 (by decide) (by omega)) λJ ⟨_,y⟩=>Tot.cnd (λ_=>Tot.bind (aH h y 3 (by decide) (by omega)) λv ⟨⟨a,b⟩,u⟩=>Tot.ix2 a b λ_ _ _=>Tot.ret u) λ_=>Tot.cnd (λ_=>Tot.bind (aH h y 2 (by decide) (by omega)) λv ⟨⟨a,b⟩,u⟩=>Tot.ix2 a b λ_ _ _=>Tot.ret u) λ_=>Tot.cnd (λ_=>Tot.bind (aH h y 2 (by decide) (by omega)) λv ⟨⟨a,b⟩,u⟩=>Tot.ix2 a b λ_ _ _=>Tot.ret u) λ_=>Tot.ret (y.up (by omega))
theorem xU (h:fW b)(z:bj b m s)(w:bX)(I:m<=95000):Tot (Q218.f K (s,w,())) λr=>bj b (m+2) r.2.1:=by
 simp only[Q218.f];refine Tot.cnd (λ_=>Tot.ret (z.up (by omega))) λH=>?_
 have H:¬ (w.2.1.length:Int)=0:=by simpa using H
 refine Tot.bind (aH h z 3 (by decide) (by omega)) λJ ⟨_,y⟩=>Tot.cnd (λ_=>Tot.cnd (λ_=>Tot.bind (aH h y 4 (by decide) (by omega)) λv ⟨_,u⟩=>Tot.ret u) λ_=>?_) λ_=>?_ <;>
 exact Tot.bind (aH h y _ (by show (1:Int)<=(w.2.1.length:Int);omega) (by omega)) λv ⟨_,u⟩=>Tot.ret u
theorem Az (h:fW b)(hs:bj b m s)(w:bX)(hm:m<=94000):Tot (Q219.f K (s,w,())) λr=>bj b (m+8) r.2.1:=by
 simp only[Q219.f];refine Tot.bind (aH h hs 8 (by decide) (by omega)) λv1 ⟨_,Y⟩=>Tot.bind (aH h Y 256 (by decide) (by omega)) λv2 ⟨_,s2⟩=>Tot.bind (aH h s2 16 (by decide) (by omega)) λv3 ⟨_,s3⟩=>Tot.bind (aH h s3 40 (by decide) (by omega)) λR ⟨_,y⟩=>?_
 have y:bj b (m+4) R.2.1:=y.up (by omega);generalize R.2.1=z at y ⊢;have X:bj b (m+8) z:=y.up (by omega);have M:=xU (K:=K) h y w (by omega);have O:∀ n:Int,1<=n->Tot (Q117.f K (z,n,())) λr=>bj b (m+8) r.2.1:=λn J=>(aH h y n J (by omega)).mono λr H=>H.2.up (by omega)
 have Z:∀ (I:List Int×Int) (n:Int),bj b (m+4+2) I->1<=n->Tot (Q117.f K (I,n,())) λr=>bj b (m+8) r.2.1:=λI n h1 J=>(aH h h1 n J (by omega)).mono λr H=>H.2.up (by omega)
 repeat' first
  |exact Tot.ret X
  |exact Tot.bind M λv u=>Tot.ret (bj.up u (by omega))
  |exact Tot.bind M λv u=>Tot.bind (Z _ _ u (by decide)) λv u=>Tot.ret u
  |exact Tot.bind (O _ (by decide)) λv u=>Tot.ret u
  |exact Tot.bind (O _ (by decide)) λv u=>Tot.cnd (λ_=>Tot.ret u) λ_=>Tot.ret u
  |refine Tot.cnd (λ_=>?_) λ_=>?_
theorem AA (h:fW b)(hs:bj b m s)(y:Int)(h1:1<=y)(h2:y<=200)(hm:m<=90000)(Z:1048577<K):Tot (Q220.f K (s,y,())) λr=>(WI r.1.2.1 2000/\r.1.1.length<=300)/\bj b (m+8*y.toNat+2) r.2.1:=by
 simp only[Q220.f,Q220.pre];have O:∀ (H:List af) (n:Int) (z:List Int×Int) (w:bX) (q c:Nat),0<=n->n<y->H.length<=24->bj b q z->q<=m+2->WI w c->c<=200->Tot (Q220.l1 K (s,y,()) (H,n,z.1,z.2,w)) λr=>(WI r.1.2.1 2000/\r.1.1.length<=300)/\bj b (m+8*y.toNat+2) r.2.1:=λH n z w q c n0 n1 X M hq I hc=>by
  refine Tot.iter (step:=λrec a=>Q220.s1 K (s,y,()) rec a) (λa=>∃ q c:Nat,0<=a.2.1/\a.2.1<y/\(a.1.length:Int)+a.2.1<=24+y/\bj b q (a.2.2.1,a.2.2.2.1)/\q+8*a.2.1.toNat<=m+8*y.toNat+2/\WI a.2.2.2.2 c/\c+4*a.2.1.toNat<=2000) (λa=>a.2.1.toNat) ?_ K _ (by show n.toNat<K;omega) ⟨q,c,n0,n1,by show (H.length:Int)+n<=_;omega,M,by show q+8*n.toNat<=_;omega,I,by show c+4*n.toNat<=2000;omega⟩;clear M hq I hc n0 n1 X;rintro rec ⟨H,n,z1,z2,w⟩ ⟨q,c,n0,n1,X,M,hq,I,hc⟩ R;simp only at n0 n1 X M hq I hc R ⊢;simp only[Q220.s1];refine Tot.cnd (λhn=>?_) λ_=>Tot.vl (I.copy (by omega) K Z) (Tot.ret ⟨⟨I.mono (by omega),by show H.length<=300;omega⟩,M.up (by omega)⟩)
  have hn:n>0:=of_decide_eq_true hn;rw[aE (n:=n-1) (by omega) (by omega)];refine Tot.bind (Az h M w (by omega)) λe he=>Tot.fit (Tot.vl (I.copy (by omega) K Z) (Tot.bind (do_t K w c I (by omega) e.1.1 Z) ?_)) (by omega) (by simp;omega)
  rintro⟨⟨v',ok,⟨⟩⟩,⟨⟩⟩ hv;have Y:∀ u:bX,WI u (c+4)->Tot (rec (H++[e.1.1],n-1,e.2.1.1,e.2.1.2,u)) λr=>(WI r.1.2.1 2000/\r.1.1.length<=300)/\bj b (m+8*y.toNat+2) r.2.1:=λu hu=>R _ ⟨q+8,c+4,by show 0<=n-1;omega,by show n-1<y;omega,by show ((H++[e.1.1]).length:Int)+(n-1)<=_;simp;omega,he,by show q+8+8*(n-1).toNat<=_;omega,hu,by show c+4+4*(n-1).toNat<=2000;omega⟩ (by show (n-1).toNat<n.toNat;omega)
  exact Tot.cnd (λ_=>Y v' hv) λ_=>Y w (I.mono (by omega))
 refine Tot.bind (wb K Z) λw0 a0=>Tot.bind (aH h hs 3 (by decide) (by omega)) λv2 ⟨_,s2⟩=>Tot.cnd (λ_=>?_) λ_=>Tot.bind (aH h s2 y h1 (by omega)) λv9 ⟨⟨a9,b9⟩,s9⟩=>O [] v9.1.1 v9.2.1 w0.1.1 (m+2) 8 a9 b9 (by simp) s9 (CD _) a0 (by omega)
 refine Tot.iter (step:=λrec a=>Q220.s0 K (s,y,()) (Q220.l1 K (s,y,())) rec a) (λa=>0<=a.2.1/\a.2.1<=8/\(a.1.length:Int)<=3*a.2.1/\bj b (m+1) (a.2.2.1,a.2.2.2.1)/\WI a.2.2.2.2 8) (λa=>8-a.2.1.toNat) ?_ K _ (by show 8-BI 0<K;omega) ⟨by show (0:Int)<=0;omega,by show (0:Int)<=8;omega,by show ((0:Nat):Int)<=3*0;omega,s2,a0⟩;rintro rec ⟨H,i,z1,z2,w⟩ ⟨i0,i1,X,M,I⟩ R;simp only at i0 i1 X M I R ⊢;simp only[Q220.s0];refine Tot.cnd (λhi=>?_) λ_=>?_
 ·have hi:i<=7:=of_decide_eq_true hi;rw[aE (n:=i+1) (by omega) (by omega)];have Y:∀ J:List af,(J.length:Int)<=3*(i+1)->Tot (rec (J,i+1,z1,z2,w)) λr=>(WI r.1.2.1 2000/\r.1.1.length<=300)/\bj b (m+8*y.toNat+2) r.2.1:=λJ a1=>R _ ⟨by show 0<=i+1;omega,by show i+1<=8;omega,a1,M,I⟩ (by show 8-(i+1).toNat<8-i.toNat;omega)
  exact Tot.cnd (λ_=>Tot.fit (Tot.fit (Y _ (by simp;omega)) (by omega) (by simp;omega)) (by omega) (by simp;omega)) λ_=>Y H (by omega)
 ·refine Tot.bind (Bo K w 8 H I (by omega) (by omega) Z) λv ⟨hv,ev⟩=>Tot.bind (aH h M y h1 (by omega)) λv4 ⟨⟨a4,b4⟩,s4⟩=>?_
  exact O v.2.1 v4.1.1 v4.2.1 v.1.1 (m+1+1) _ a4 b4 (by rw[ev];omega) s4 (by omega) hv (by omega)
theorem AB (h:fW b)(H:bj b m s)(z:m<=90000)(y:1048577<K):Tot (Q221.f K (s,())) λr=>WI r.1.1 2000/\bj b (m+802) r.2.1:=by
 simp only[Q221.f];exact Tot.bind (AA h H 100 (by decide) (by decide) z y) λv u=>Tot.ret ⟨u.1.1,u.2⟩
theorem zk (h:fW b)(M:bj b m s)(I:m<=90000)(z:1048577<K):Tot (Q222.f K (s,())) λr=>(∃ i,dR i r.1.1)/\bj b (m+803) r.2.1:=by
 simp only[Q222.f];refine Tot.bind (AB h M I z) λw ⟨u,J⟩=>Tot.bind (aH h J _ (by have:=u.len;show (1:Int)<=(w.1.1.1.length:Int);omega) (by omega)) λv ⟨⟨a,b⟩,R⟩=>Tot.ix a b λy H _=>Tot.ret ⟨?_,R⟩
 obtain⟨i,O,rfl⟩:=B3 H;exact⟨i,u.node i O⟩
structure NS (c:Nat) (n:aa):Prop where
 nb:NB n
 table:(aa.table n).length<=c
 cast:(aa.cast n).length<=c
 doubts:(aa.doubts n).length<=c
 places:(aa.places n).length<=c
 others:(aa.others n).length<=c
theorem dR.ns {i:Nat}{n:aa}(h:dR i n):NS 8 n:=by
 cases y:n.2.1 with
 |true =>
  have r:=h.up y;refine⟨h.nb,by have:=h.short;omega,by have:=clen r.x.say;omega,?_,?_,?_⟩
  ·exact BO (iU r.x.say.asc r.x.say.inp) (by decide)
  ·exact BO (iU r.x.places.2 λx u=>(r.x.places.1 x u).1) (by decide)
  ·exact BO (iU r.x.others.2 λx u=>⟨(r.x.others.1 x u).1.1,Int.le_trans (r.x.others.1 x u).1.2 (by decide)⟩) (by decide)
 |false =>
  have e:=h.down y;refine⟨h.nb,?_,?_,?_,?_,?_⟩ <;> rw[e] <;> exact BW _
theorem xV (h:fW b)(hs:bj b m s)(n:aa){c:Nat}(hn:NS c n)(h8:8<=c)(hc:c<=1000)(hm:m<=90000)(hK:1048577<K):Tot (Q130.f K (s,n,())) λr=>NS (c+1) r.1.1/\bj b (m+60) r.2.1:=by
 simp only[Q130.f,zcp4,zcp8];rw[jH K n hn.nb hK];simp only[BD];obtain⟨⟨n1,n2,n3,O,n5,R,Z,X⟩,l1,l2,l3,Y,l5⟩:=hn;refine Tot.bind (aH h hs 12 (by decide) (by omega)) λv2 ⟨_,I⟩=>?_
 have y:∀ (n':aa) (z:List Int×Int),n'.2.2.2.2.2.2.2.2=n.2.2.2.2.2.2.2.2->bj b (m+60) z->NS (c+1) n'/\bj b (m+60) z:=λn' z e hz=>by
  refine⟨⟨⟨?_,?_,?_,?_,?_,?_,?_,?_⟩,?_,?_,?_,?_,?_⟩,hz⟩ <;> simp only[aa.table,aa.cast,aa.doubts,aa.places,aa.others] <;> rw[e] <;> first|assumption|(refine BO ?_ (CM c);assumption)
 have u2:bj b (m+60) v2.2.1:=I.up (by omega);refine Tot.cnd (λ_=>Tot.bind (pX h I (by omega) hK) λt ⟨tl,J⟩=>Tot.ret ⟨⟨⟨by show t.1.1.length<=_;omega,n2,n3,O,n5,R,Z,X⟩,by show t.1.1.length<=_;omega,BE l2,BE l3,BE Y,BE l5⟩,J.up (by omega)⟩) λ_=>?_
 refine Tot.cnd (λ_=>Tot.bind (wd h I (by omega) hK) λt ⟨tl,J⟩=>Tot.ret ⟨⟨⟨n1,by show t.1.1.length<=_;omega,n3,O,n5,R,Z,X⟩,BE l1,by show t.1.1.length<=_;omega,BE l3,BE Y,BE l5⟩,J.up (by omega)⟩) λ_=>?_
 refine Tot.cnd (λ_=>Tot.ret (y _ _ rfl u2)) λ_=>?_
 refine Tot.cnd (λ_=>Tot.bind (aH h I 9 (by decide) (by omega)) λv5 ⟨_,s5⟩=>Tot.bind (aH h s5 3 (by decide) (by omega)) λv6 ⟨_,s6⟩=>Tot.bind (aH h s6 3 (by decide) (by omega)) λv7 ⟨_,s7⟩=>Tot.bind (aH h s7 2 (by decide) (by omega)) λv8 ⟨_,s8⟩=>Tot.ret ⟨⟨⟨n1,n2,n3,O,n5,R,Z,X⟩,BE l1,BE l2,BE l3,BE Y,BE l5⟩,s8.up (by omega)⟩) λ_=>?_
 refine Tot.cnd (λ_=>Tot.bind (aH h I 8 (by decide) (by omega)) λv9 ⟨_,M⟩=>Tot.bind (aH h M 8 (by decide) (by omega)) λa1 ⟨_,H⟩=>Tot.fit (Tot.ret ⟨⟨⟨n1,n2,?_,?_,n5,R,Z,X⟩,BE l1,BE l2,?_,BE Y,BE l5⟩,H.up (by omega)⟩) (by omega) ?_) λ_=>?_
 ·show (aa.doubts n++[_]).length<=_;simp;omega
 ·intro d u;rcases BM.1 u with u|u
  ·exact O d u
  ·rw[BH.1 u];show ([a1.1.1]:List Int).length<=_;simp
 ·show (aa.doubts n++[_]).length<=_;simp;omega
 ·show (aa.doubts n).length+_<=_;simp;omega
 refine Tot.cnd (λ_=>Tot.bind (pY h I (by omega)) λc J=>Tot.ret ⟨⟨⟨n1,n2,n3,O,n5,R,Z,X⟩,BE l1,BE l2,BE l3,BE Y,BE l5⟩,J.up (by omega)⟩) λ_=>?_
 refine Tot.cnd (λ_=>Tot.bind (aH h I 9 (by decide) (by omega)) λv9 ⟨_,M⟩=>Tot.bind (pY h M (by omega)) λc H=>Tot.bind (aH h H 3 (by decide) (by omega)) λa0 ⟨_,a2⟩=>Tot.fit (Tot.ret ⟨⟨⟨n1,n2,n3,O,?_,?_,Z,X⟩,BE l1,BE l2,BE l3,?_,BE l5⟩,a2.up (by omega)⟩) (by omega) ?_) λ_=>?_
 ·show (aa.places n++[_]).length<=_;simp;omega
 ·intro d u;rcases BM.1 u with u|u
  ·exact R d u
  ·rw[BH.1 u];show ([a0.1.1]:List Int).length<=_;simp
 ·show (aa.places n++[_]).length<=_;simp;omega
 ·show (aa.places n).length+_<=_;simp;omega
 refine Tot.cnd (λ_=>Tot.bind (aH h I 3 (by decide) (by omega)) λv9 ⟨_,M⟩=>Tot.bind (pX h M (by omega) hK) λt ⟨tl,H⟩=>Tot.fit (Tot.ret ⟨⟨⟨n1,n2,n3,O,n5,R,?_,?_⟩,BE l1,BE l2,BE l3,BE Y,?_⟩,H.up (by omega)⟩) (by omega) ?_) λ_=>?_
 ·show (aa.others n++[_]).length<=_;simp;omega
 ·intro d u;rcases BM.1 u with u|u
  ·exact X d u
  ·rw[BH.1 u];show t.1.1.length<=_;omega
 ·show (aa.others n++[_]).length<=_;simp;omega
 ·show (aa.others n).length+_<=_;simp;omega
 refine Tot.cnd (λ_=>Tot.ret (y _ _ rfl u2)) λ_=>Tot.cnd (λ_=>Tot.ret (y _ _ rfl u2)) λ_=>?_
 refine Tot.cnd (λ_=>Tot.bind (aH h I 3 (by decide) (by omega)) λv ⟨⟨a,b⟩,J⟩=>Tot.ix2 a b λ_ _ _=>Tot.ret (y _ _ rfl (J.up (by omega)))) λ_=>?_
 exact Tot.bind (aH h I 8 (by decide) (by omega)) λv9 ⟨_,M⟩=>Tot.bind (aH h M 3 (by decide) (by omega)) λv ⟨⟨a,b⟩,J⟩=>Tot.ix2 a b λ_ _ _=>Tot.ret (y _ _ rfl (J.up (by omega)))
end
section
variable {K:Nat} {b:List Int} {m:Nat} {s:List Int×Int}
theorem xW (h:fW b)(Z:bj b m s)(hm:m<=89000)(u:1048577<K):Tot (Q223.f K (s,())) λr=>NS 9 r.1.1/\bj b (m+864) r.2.1:=by
 simp only[Q223.f];refine Tot.bind (zk h Z (by omega) u) λn ⟨⟨i,y⟩,H⟩=>Tot.bind (aH h H 20 (by decide) (by omega)) λv ⟨_,z⟩=>Tot.cnd (λ_=>Tot.bind (xV h z n.1.1 y.ns (CD _) (by omega) (by omega) u) λr I=>Tot.ret I) λ_=>Tot.ret ⟨?_,z.up (by omega)⟩
 obtain⟨X,M,O,Y,R,J⟩:=y.ns;exact⟨X,BE M,BE O,BE Y,BE R,BE J⟩
end
theorem bj.zero (b:List Int):bj b 0 (b,0):=⟨0,CD _,rfl⟩
structure xX (code:List Int):Prop where
 byte:∀ y∈code,0<=y/\y<=255
 len:code.length<=9223372036854775807
theorem ot (K:Nat)(xs:List Int)(y:xs.length<=1048576)(z:1048577<K):Q228.f K (xs,xs,())=rb true:=by
 have r:Q228.l0 K (xs,xs,()) 0=rb true:=by
  refine eV (step:=λrec a=>Q228.s0 K (xs,xs,()) rec a) xs.length (λi=>(i:Int)) (rb true) ?_ ?_ (by omega)
  ·intro rec i u;simp only[Q228.s0];rw[decide_eq_true (by omega:(i:Int)<(BF xs:Int)),ag u,ar i (by omega)];simp only[cond_true,BD,bne_self_eq_false,cond_false]
  ·intro rec;simp only[Q228.s0,aQ];rfl
 simp only[Q228.f,Q228.pre,bne_self_eq_false,cond_false];exact r
theorem tv (K:Nat)(xs:List aM)(y:xs.length<=1048576)(z:1048577<K):Q227.f K (xs,xs,())=rb true:=by
 have r:Q227.l0 K (xs,xs,()) 0=rb true:=by
  refine eV (step:=λrec a=>Q227.s0 K (xs,xs,()) rec a) xs.length (λi=>(i:Int)) (rb true) ?_ ?_ (by omega)
  ·intro rec i u;simp only[Q227.s0];rw[decide_eq_true (by omega:(i:Int)<(BF xs:Int)),ag u,ar i (by omega)];simp only[cond_true,BD];rw[show Ty.eqv t3 xs[i] xs[i]=true by
    show (Ty.eqv t2 xs[i].1 xs[i].1&&decide (xs[i].2=xs[i].2))=true;rw[show Ty.eqv t2 xs[i].1 xs[i].1=decide (xs[i].1=xs[i].1) from gW _ _,decide_eq_true rfl,decide_eq_true rfl];rfl]
   rfl
  ·intro rec;simp only[Q227.s0,aQ];rfl
 simp only[Q227.f,Q227.pre,bne_self_eq_false,cond_false];exact r
theorem uy (K:Nat)(n:aa)(r:NB n)(y:1048577<K):Q229.f K (n,n,())=rb true:=by
 have H:Q229.l2 K (n,n,()) 0=rb true:=by
  have z:=r.others;refine eV (step:=λrec a=>Q229.s2 K (n,n,()) rec a) (aa.others n).length (λi=>(i:Int)) (rb true) ?_ ?_ (by omega)
  ·intro rec i u;simp only[Q229.s2];rw[bq (by omega:(i:Int)<(BF (aa.others n):Int)),ag u,ar i (by omega)];simp only[cond_true,BD,bne_self_eq_false,cond_false];refine (congrArg (λo=>BG o _) (ky K _ (r.facts _ (BN u)) y)).trans rfl
  ·intro rec;simp only[Q229.s2,aQ];rfl
 have I:Q229.l1 K (n,n,()) 0=rb true:=by
  have z:=r.places;refine eV (step:=λrec a=>Q229.s1 K (n,n,()) (Q229.l2 K (n,n,())) rec a) (aa.places n).length (λi=>(i:Int)) (rb true) ?_ ?_ (by omega)
  ·intro rec i u;simp only[Q229.s1];rw[bq (by omega:(i:Int)<(BF (aa.places n):Int)),ag u,ar i (by omega)];simp only[cond_true,BD,bne_self_eq_false,cond_false];rw[show Ty.eqv t9 (aa.places n)[i].2.1 (aa.places n)[i].2.1=decide ((aa.places n)[i].2.1=(aa.places n)[i].2.1) from pB _ _,decide_eq_true rfl];simp only[BK,cond_false];refine (congrArg (λo=>BG o _) (ot K _ (r.trips _ (BN u)) y)).trans rfl
  ·intro rec;simp only[Q229.s1,aQ];exact H
 have J:Q229.l0 K (n,n,()) 0=rb true:=by
  have z:=r.doubts;refine eV (step:=λrec a=>Q229.s0 K (n,n,()) (Q229.l1 K (n,n,())) rec a) (aa.doubts n).length (λi=>(i:Int)) (rb true) ?_ ?_ (by omega)
  ·intro rec i u;simp only[Q229.s0];rw[bq (by omega:(i:Int)<(BF (aa.doubts n):Int)),ag u,ar i (by omega)];simp only[cond_true,BD,bne_self_eq_false,cond_false];refine (congrArg (λo=>BG o _) (ot K _ (r.by_ _ (BN u)) y)).trans rfl
  ·intro rec;simp only[Q229.s0,aQ];exact I
 simp only[Q229.f,Q229.pre,bne_self_eq_false,cond_false];refine (congrArg (λo=>BG o _) (ky K (aa.table n) r.table y)).trans ?_;simp only[rb,BD,BK,cond_false];refine (congrArg (λo=>BG o _) (tv K (aa.cast n) r.cast y)).trans ?_;simp only[rb,BD,BK,cond_false];rw[show Ty.eqv t2 n.2.2.2.2.2.2.2.2.2.2.1 n.2.2.2.2.2.2.2.2.2.2.1=decide (aa.probe n=aa.probe n) from gW _ _,show Ty.eqv t9 n.2.2.2.2.2.2.2.2.2.2.2.2.1 n.2.2.2.2.2.2.2.2.2.2.2.2.1=decide (aa.coord n=aa.coord n) from pB _ _,decide_eq_true rfl,decide_eq_true rfl];exact J
theorem pZ (K:Nat){t:List af}{f:af}(r:ax t)(u:f∈t)(z:1048577<K):Q37.f K (t,f.1,())=some ((f,true,()),()):=by
 rcases gr K t f.1 (cq r) z with ⟨h,_⟩|⟨_,⟨g,y,e,h⟩|⟨h,_⟩⟩
 ·exact absurd r h
 ·rw[h,gR r.2 y u e]
 ·exact absurd rfl (h f u)
structure gS (n m:aa):Prop where
 ok:b7 m
 me:m.1=n.1
 now_:m.2.2.2.2.2.1=n.2.2.2.2.2.1
 seq:m.2.2.2.2.2.2.1=n.2.2.2.2.2.2.1
 turn:m.2.2.2.2.2.2.2.1=n.2.2.2.2.2.2.2.1
 rest:m.2.2.2.2.2.2.2.2.2.2.2.2=n.2.2.2.2.2.2.2.2.2.2.2.2
 by_:∀ d∈aa.doubts m,d.2.2.2.length<=1048576
theorem gS.say {n m:aa}(h:gS n m){f:af}(b:Int)(z:bA f):gS n (sayOf m f b):=by
 obtain⟨H,_,_,_,_,y,u,I,_,r⟩:=dO m f b;exact⟨ji h.ok z,H.trans h.me,y.trans h.now_,u.trans h.seq,I.trans h.turn,r.trans h.rest,yL h.by_⟩
theorem gS.setP {n m:aa}(h:gS n m)(p:af):gS n (setP m p):=⟨h.ok.setP p,h.me,h.now_,h.seq,h.turn,h.rest,h.by_⟩
theorem gS.nb {n m:aa}(h:gS n m)(u:NB n):NB m:=by
 have y:aa.places m=aa.places n:=congrArg (λr=>r.2.1) h.rest;have z:aa.others m=aa.others n:=congrArg (λr=>r.2.2) h.rest;exact⟨h.ok.lt,h.ok.lc,h.ok.ld,h.by_,by rw[y];exact u.places,by rw[y];exact u.trips,by rw[z];exact u.others,by rw[z];exact u.facts⟩
theorem gS.far {n m:aa}(h:gS n m)(u:hY n):hY m:=by
 have y:aa.others m=aa.others n:=congrArg (λr=>r.2.2) h.rest;exact⟨by rw[y];exact u.short,by rw[y];exact u.table⟩
theorem xY {n:aa}(h:gS n n)(y:∀ d∈aa.doubts n,∃ f∈aa.table n,f.1=d.1):gS n (c9 n)/\aa.probe (c9 n)=aa.probe n:=by
 have:=jj (st:=cP) (Inv:=λm=>jK (aa.doubts n) n.2.2.2.2.2.1 m/\gS n m/\aa.probe m=aa.probe n) (ds:=aa.doubts n) (n:=n) ⟨⟨h.ok,y,rfl⟩,h,rfl⟩ (λm d u r=>by
  refine⟨lg r.1 u,?_⟩;unfold cP;cases jS m.2.2.2.2.2.1 d.2.2.1 d.2.2.2.length with
  |false=>exact r.2
  |true =>
   have z:=lJ (cD r.1.ok.table (r.1.key d u)).1;exact⟨r.2.1.say _ z,(dO m _ _).2.2.2.2.2.2.2.2.1.trans r.2.2⟩)
 exact this.2
theorem uz {n m:aa}(h:gS n m):gS n (a7 m).1/\((aa.probe (a7 m).1).1=-1\/(aa.probe (a7 m).1).1=(aa.probe m).1)/\(a7 m).2.length<=2/\∀ w∈(a7 m).2,(aq.table w).length<=1048576:=by
 unfold a7;cases z:(aa.probe m).1==-1 with
 |true=>exact⟨h,.inr rfl,by simp,by simp⟩
 |false =>
  simp only[cond_false];cases u:cN (aB (aa.table m) (aa.probe m).1) with
  |false=>exact⟨h.setP _,.inl rfl,by simp,by simp⟩
  |true =>
   have y:=cD h.ok.table (el u);simp only[BK,cond_false];cases decide (m.2.2.2.2.2.1-(aa.probe m).2.1>=4) with
   |true =>
    simp only[cond_true];cases (aB (aa.table m) (aa.probe m).1).2.2.1==1 with
    |true=>exact⟨(h.setP noP).say _ (qx y.1),.inl (congrArg (·.1) (dO (setP m noP) _ _).2.2.2.2.2.2.2.2.1),by simp,by simp⟩
    |false=>exact⟨h.setP _,.inl rfl,by simp,by simp⟩
   |false =>
    simp only[cond_false];cases decide (m.2.2.2.2.2.1-(aa.probe m).2.1>=2) with
    |false=>exact⟨h,.inr rfl,by simp,by simp⟩
    |true =>
     simp only[cond_true];cases (aa.probe m).2.2.2 with
     |true=>exact⟨h,.inr rfl,by simp,by simp⟩
     |false =>
      refine⟨h.setP _,.inr rfl,?_,λw r=>?_⟩
      ·show ((cE m).map (askW m)).length<=2;rw[B5];exact CN _ _
      ·obtain⟨to,_,rfl⟩:=BS.1 r;exact BW _
theorem zl {n:aa}(z:hY n)(y:(aa.table n).length<=1048576)(r:Int):(eX n r).length<=2/\∀ w∈eX n r,(aq.table w).length<=1048576:=by
 unfold eX;cases aR .i64 r 3==1 with
 |true =>
  simp only[cond_true,ir];cases iL n with
  |false=>exact⟨by simp,by simp⟩
  |true =>
   refine⟨?_,λw u=>?_⟩
   ·show ((([0,1]:List Int).filter (λs=>s != ao n.1)).map _).length<=2;rw[B5];exact CB _ _
   ·obtain⟨s,_,rfl⟩:=BS.1 u;exact y
 |false =>
  simp only[cond_false];cases (aR .i64 r 3==3||decide (cd n=[])) with
  |true=>exact⟨by simp,by simp⟩
  |false =>
   simp only[cond_false];cases aR .i64 r 3==0 with
   |true =>
    refine⟨by simp,λw u=>?_⟩;rw[cond_true,BH]at u;subst u;exact y
   |false =>
    simp only[cond_false,m8]
    match H:aa.others n with
    |[]=>exact⟨by simp,by simp⟩
    |x::_ =>
     refine⟨by simp,λw u=>?_⟩;rw[BH]at u;subst u;exact (z.table x (by rw[H];simp)).2
def d7 (n:aa):aa:=(n.1,n.2.1,n.2.2.1,n.2.2.2.1,n.2.2.2.2.1,n.2.2.2.2.2.1+1,n.2.2.2.2.2.2)
theorem xZ (K:Nat)(n:aa)(z:Int)(Z:NB n)(hP:hX n)(hu:n.2.1=true)(hg:n.2.2.1=false)(a6:¬ n.2.2.2.2.2.1>=999999)(hK:1048577<K) :
  ∃ (y:aa) (O:List aq),NB y/\O.length<=1048576/\(∀ w∈O,(aq.table w).length<=1048576)/\Q208.f K (n,z,())=some ((y,O,()),())/\Q110.f K (n,z,())=some ((O,()),(y,())):=by
 have hU:=hP.up hu;have hs:=hU.say;obtain⟨hT,_,_,_,a1,hD,_,_,hO⟩:=hU;obtain⟨⟨cp,cy⟩,⟨e4,e3⟩,⟨c0,e0⟩,⟨b0,b5⟩,_⟩:=hP;have cu:=mZ ⟨cp,cy⟩ hO;have a9:hY n:=⟨by rcases cu with e|⟨x,e⟩ <;> rw[e] <;> simp,λx hx=>⟨(hO.1 x hx).2.2.2.1,Z.facts x hx⟩⟩;have c2:gS (d7 n) (d7 n):=⟨⟨hs.table,hs.cast,hs.asc,hs.inp,hs.lt,hs.lc,hs.ld⟩,rfl,rfl,rfl,rfl,rfl,Z.by_⟩;have dd:NB (d7 n):=⟨Z.table,Z.cast,Z.doubts,Z.by_,Z.places,Z.trips,Z.others,Z.facts⟩;have d2:hY (d7 n):=⟨a9.short,a9.table⟩;have a3:∀ d∈aa.doubts (d7 n),∃ f∈aa.table (d7 n),f.1=d.1:=λd hd=>by
  obtain⟨f,hf,e,_⟩:=(hD.1 d hd).1;exact⟨f,hf,e⟩
 have bn:∀ d∈aa.doubts (d7 n),0<=d.2.2.1/\d.2.2.1<=(d7 n).2.2.2.2.2.1/\d.2.2.2.length<=1048576:=λd hd=>by
  obtain⟨s0,s1⟩:=(hD.1 d hd).2.1;refine⟨s0,?_,Z.by_ d hd⟩;show d.2.2.1<=n.2.2.2.2.2.1+1;omega
 have bb:jK (aa.doubts (d7 n)) (d7 n).2.2.2.2.2.1 (d7 n):=⟨c2.ok,a3,rfl⟩;have ad:(d7 n).2.2.2.2.2.1<=1000000:=by show n.2.2.2.2.2.1+1<=1000000;omega
 have eD:=xh K (d7 n) bb bn ad hK;have eB:=AW K (d7 n) bb bn ad hK;obtain⟨R,a0⟩:=xY c2 a3;generalize c9 (d7 n)=m at eD eB R a0;have a0:aa.probe m=aa.probe n:=a0;have u:((aa.probe m).1=-1\/0<=(aa.probe m).1)/\0<=(aa.probe m).2.1/\(aa.probe m).2.1<=1000000:=by
  rw[a0];unfold cW at a1;split at a1
  ·rename_i h1;rw[a1];exact⟨.inl rfl,by show (0:Int)<=0;omega,by show (0:Int)<=1000000;omega⟩
  ·obtain⟨_,⟨f,hf,e⟩,⟨s0,s1⟩,_⟩:=a1;have:=(hT.1 f hf).1.1;exact⟨.inr (e ▸ this),s0,by omega⟩
 have cb:m.2.2.2.2.2.1=n.2.2.2.2.2.1+1:=R.now_;have eF:=yM K m R.ok u.2.1 u.2.2 (by omega) (by omega) hK;have eW:=λdc=>xk K m R.ok dc u.2.1 u.2.2 (by omega) (by omega) hK
 obtain⟨r,b2,c1,b3⟩:=uz R;have X:(aa.probe m).1=-1->a7 m=(m,[]):=λh=>by unfold a7;rw[show ((aa.probe m).1==-1)=true by simpa using h];rfl
 generalize Y:a7 m=fo at eF eW r b2 c1 b3 X;obtain⟨H,cc⟩:=fo;simp only at eF eW r b2 c1 b3;have c4:∃ (y:aa) (O:List aq),Q100.f K (H,())=some ((O,()),(y,()))/\((aa.probe H).1=-1->Q201.f K (H,())=some ((y,O,()),()))/\((aa.probe H).1≠-1->y=H/\O=[])/\NB y/\hY y/\ax (aa.table y)/\O.length<=1/\∀ w∈O,(aq.table w).length<=1048576:=by
  have J:=r.nb dd;have Y:=r.far d2;by_cases I:(aa.probe H).1=-1
  ·obtain⟨y,O,e1,e2,h3⟩:=yW K H r.ok I (by rw[r.seq];exact c0) (by rw[r.seq];show n.2.2.2.2.2.2.1<=1000000;omega) (by rw[r.turn];exact b0) (by rw[r.turn];exact b5) hK;refine⟨y,O,e2,λ_=>e1,λh=>absurd I h,?_⟩;rcases h3 with ⟨rfl,rfl⟩|⟨to,rfl,rfl⟩
   ·exact⟨J,Y,r.ok.table,by simp,by simp⟩
   ·have M:=Bb r.ok;refine⟨⟨M.lt,M.lc,M.ld,J.by_,J.places,J.trips,J.others,J.facts⟩,⟨Y.short,Y.table⟩,M.table,by simp,λw ba=>?_⟩;rw[BH]at ba;subst ba;exact cq (kl r.ok to)
  ·refine⟨H,[],?_,λh=>absurd h I,λ_=>⟨rfl,rfl⟩,J,Y,r.ok.table,by simp,by simp⟩;simp only[Q100.f,Q100.pre];rw[show (H.2.2.2.2.2.2.2.2.2.2.1.1 != -1)=true by show ((aa.probe H).1 != -1)=true;simpa using I];rfl
 obtain⟨y,d3,eA,bx,b4,a2,b1,c3,e5,cx⟩:=c4;have b9:=Ai K y z a2 b1 c3 hK;have eM:=xz K y z b1 c3 a2.table hK;obtain⟨cw,bl⟩:=zl b1 a2.table z;generalize eX y z=d1 at b9 eM cw bl;have a5:(n.1,n.2.1,n.2.2.1,n.2.2.2.1,n.2.2.2.2.1,wr .i64 (n.2.2.2.2.2.1+1),n.2.2.2.2.2.2)=d7 n:=by
  rw[aE (by omega) (by omega)];rfl
 refine⟨y,(cc++d3)++d1,a2,by simp only[BL];omega,λw M=>?_,?_,?_⟩
 ·simp only[BM]at M;rcases M with (M|M)|M
  ·exact b3 w M
  ·exact cx w M
  ·exact bl w M
 ·simp only[Q208.f,zcp4];rw[a5,hu,hg,decide_eq_false a6];simp only[BK,cond_false];rw[eD];simp only[BD];by_cases I:(aa.probe m).1=-1
  ·obtain⟨rfl,rfl⟩:=Prod.mk.inj (X I);rw[show decide (H.2.2.2.2.2.2.2.2.2.2.1.1>=0)=false from decide_eq_false (by show ¬ (aa.probe H).1>=0;omega),show decide (H.2.2.2.2.2.2.2.2.2.2.1.1<0)=true from decide_eq_true (by show (aa.probe H).1<0;omega)];simp only[cond_true,cond_false];rw[bx I];simp only[BD];rw[szw _ _ _ (by omega) (by simp only[B7];omega)];simp only[cond_true];rw[eM];simp only[BD];rw[szw _ _ _ (by omega) (by simp only[BL,B7];omega)];rfl
  ·rw[show decide (m.2.2.2.2.2.2.2.2.2.2.1.1>=0)=true from decide_eq_true (by show (aa.probe m).1>=0;omega)];simp only[cond_true];rw[eW I];simp only[BD];by_cases a4:(aa.probe H).1=-1
   ·rw[show decide (H.2.2.2.2.2.2.2.2.2.2.1.1<0)=true from decide_eq_true (by show (aa.probe H).1<0;omega)];simp only[cond_true];rw[bx a4];simp only[BD];rw[szw _ _ _ (by omega) (by omega)];simp only[cond_true];rw[eM];simp only[BD];rw[szw _ _ _ (by omega) (by simp only[BL];omega)];rfl
   ·rw[show decide (H.2.2.2.2.2.2.2.2.2.2.1.1<0)=false from decide_eq_false (by show ¬ (aa.probe H).1<0;rcases b2 with h|h <;> omega)];obtain⟨rfl,rfl⟩:=b4 a4;simp only[cond_false];rw[eM];simp only[BD];rw[szw _ _ _ (by omega) (by omega),CE];rfl
 ·simp only[Q110.f,zcp4,Q65.f];rw[a5,hu,hg,decide_eq_false a6];simp only[cond_true,BD,B8,BK,cond_false];rw[eB];simp only[BD];rw[eF];simp only[BD];rw[eA];simp only[BD];rw[szw _ _ _ (by omega) (by omega)];simp only[cond_true];rw[b9];simp only[BD];rw[szw _ _ _ (by omega) (by simp only[BL];omega)];rfl
theorem x3 (K:Nat)(n y:aa)(z:List aq)(r:Int)(I:NB n)(u:Q64.f K (n,())=rb true)(J:Q110.f K (n,r,())=some ((z,()),(y,())))(H:1048577<K):Q115.f K (n,r,())=some ((y,z,()),()):=by
 simp only[Q115.f,Q114.f];rw[u];simp only[BD,BK,cond_false];rw[yK K n I H];simp only[BD,Q111.f];rw[J];simp only[BD,Q113.f];simp
theorem rW (K:Nat)(n:aa)(r:Int)(J:NB n)(I:1048577<K):∃ y:aa,∃ u:List aq,NB y/\u.length<=1048576/\(∀ w∈u,(aq.table w).length<=1048576)/\Q225.f K (n,r,())=some ((y,u,()),())/\Q115.f K (n,r,())=some ((y,u,()),()):=by
 obtain⟨b,h1,Z,h3⟩:=jx K n J I;cases b with
 |false =>
  refine⟨sQ,[],uj,by simp,by simp,?_,?_⟩
  ·simp only[Q225.f];rw[h1];rfl
  ·simp only[Q115.f,Q114.f];rw[Z];rfl
 |true =>
  have hP:=h3.1 rfl;have z:=jH K n J I;have hb:∃ (y:aa) (u:List aq),NB y/\u.length<=1048576/\(∀ w∈u,(aq.table w).length<=1048576)/\Q208.f K (n,r,())=some ((y,u,()),())/\Q110.f K (n,r,())=some ((u,()),(y,())):=by
   by_cases H:n.2.1=true/\n.2.2.1=false/\¬ n.2.2.2.2.2.1>=999999
   ·exact xZ K n r J hP H.1 H.2.1 H.2.2 I
   ·refine⟨n,[],J,by simp,by simp,?_,?_⟩
    ·simp only[Q208.f,zcp4];cases O:n.2.1 with
     |false=>rfl
     |true =>
      cases X:n.2.2.1 with
      |true=>rfl
      |false =>
       have:n.2.2.2.2.2.1>=999999:=by by_cases h:n.2.2.2.2.2.1>=999999;exact h;exact absurd ⟨O,X,h⟩ H
       rw[decide_eq_true this];rfl
    ·simp only[Q110.f,zcp4,Q65.f];cases O:n.2.1 with
     |false=>rfl
     |true =>
      cases X:n.2.2.1 with
      |true=>rfl
      |false =>
       have:n.2.2.2.2.2.1>=999999:=by by_cases h:n.2.2.2.2.2.1>=999999;exact h;exact absurd ⟨O,X,h⟩ H
       rw[decide_eq_true this];rfl
  obtain⟨y,u,Y,M,R,H,hi⟩:=hb;refine⟨y,u,Y,M,R,?_,x3 K n y u r J Z hi I⟩;simp only[Q225.f];rw[h1];simp only[BD,BK,cond_false];rw[z];simp only[BD];rw[H];simp only[BD];rw[jH K y Y I];rfl
theorem we (K:Nat)(u:List Int)(z:xX u)(H:1048577<K):Tot (Q224.f K (u,())) λr=>NS 9 r.1.1:=by
 obtain⟨M,y,e⟩:=Bp (K:=K) u z.byte z.len;simp only[Q224.f];exact Tot.vl e (Tot.bind (xW y (bj.zero M) (by omega) H) λn ⟨I,J⟩=>Tot.bind (aH y J 4096 (by decide) (by omega)) λv ⟨_,O⟩=>Tot.bind (aH y O 4 (by decide) (by omega)) λ_ _=>Tot.ret I)
theorem uA (K:Nat)(w:aq)(r:(aq.table w).length<=1048576)(u:1048577<K):Q230.f K (w,w,())=rb true:=by
 simp only[Q230.f,beq_self_eq_true,cond_true];rw[show Ty.eqv t9 w.2.2.2.2.2.2.1 w.2.2.2.2.2.2.1=decide (w.2.2.2.2.2.2.1=w.2.2.2.2.2.2.1) from pB _ _,decide_eq_true rfl];simp only[cond_true];exact (congrArg (λo=>BG o _) (ky K (aq.table w) r u)).trans rfl
theorem tw (K:Nat)(xs:List aq)(H:xs.length<=1048576)(u:∀ w∈xs,(aq.table w).length<=1048576)(y:1048577<K):Q231.f K (xs,xs,())=rb true:=by
 have z:Q231.l0 K (xs,xs,()) 0=rb true:=by
  refine eV (step:=λrec a=>Q231.s0 K (xs,xs,()) rec a) xs.length (λi=>(i:Int)) (rb true) ?_ ?_ (by omega)
  ·intro rec i r;simp only[Q231.s0];rw[bq (by omega:(i:Int)<(BF xs:Int)),ag r,ar i (by omega)];simp only[cond_true,BD];exact (congrArg (λo=>BG o _) (uA K _ (u _ (BN r)) y)).trans rfl
  ·intro rec;simp only[Q231.s0,aQ];rfl
 simp only[Q231.f,Q231.pre,bne_self_eq_false,cond_false];exact z
theorem wg (K:Nat)(n:aa)(r:Int)(y:NB n)(h:UpN n)(H:n.2.2.1=false)(z:bd n<999999)(u:1048577<K):Q225.f K (n,r,())=some ((f9 n,mn n r,()),()):=by
 obtain⟨b,J,_,M⟩:=jx K n y u;have I:=M.2 h.ok;subst I;simp only[Q225.f];rw[J];simp only[rb,BD,BK,cond_false];rw[jH K n y u];simp only[BD];rw[xO K n r h H z u];simp only[BD];rw[jH K _ (lM h z).1.nb u];rfl
theorem uB (K:Nat)(n:aa)(r:Int)(I:NB n)(H:1048577<K):∃ y:aa,∃ u:List aq,NB y/\u.length<=1048576/\(∀ w∈u,(aq.table w).length<=1048576)/\Q225.f K (n,r,())=some ((y,u,()),())/\Q115.f K (n,r,())=some ((y,u,()),()) /\
  (hX n->((n.2.1=true/\n.2.2.1=false/\bd n<999999)/\y=f9 n/\u=mn n r)\/(¬ (n.2.1=true/\n.2.2.1=false/\bd n<999999)/\y=n/\u=[])):=by
 obtain⟨y,u,h1,X,Y,M,h5⟩:=rW K n r I H;refine⟨y,u,h1,X,Y,M,h5,λO=>?_⟩;by_cases z:n.2.1=true/\n.2.2.1=false/\bd n<999999
 ·have:=wg K n r I (UpN.of O z.1) z.2.1 z.2.2 H;rw[M]at this;simp only[CS,CZ,and_true]at this;exact .inl ⟨z,this⟩
 ·right;refine⟨z,?_⟩;obtain⟨b,o1,_,Z⟩:=jx K n I H;have hb:=Z.2 O;subst hb;have J:Q208.f K (n,r,())=some ((n,[],()),()):=by
   simp only[Q208.f,zcp4];cases R:n.2.1 with
   |false=>rfl
   |true =>
    cases hg:n.2.2.1 with
    |true=>rfl
    |false =>
     have:n.2.2.2.2.2.1>=999999:=by by_cases h:n.2.2.2.2.2.1>=999999;exact h;exact absurd ⟨R,hg,by have e:bd n=n.2.2.2.2.2.1:=rfl;omega⟩ z
     rw[decide_eq_true this];rfl
  have:Q225.f K (n,r,())=some ((n,[],()),()):=by
   simp only[Q225.f];rw[o1];simp only[rb,BD,BK,cond_false];rw[jH K n I H];simp only[BD];rw[J];simp only[BD];rw[jH K n I H];rfl
  rw[M]at this;simp only[CS,CZ,and_true]at this;exact this
theorem x4 (n:aa):aa.probe (c9 n)=aa.probe n/\bd (c9 n)=bd n:=by
 unfold c9;generalize aa.doubts n=y;induction y generalizing n with
 |nil=>exact⟨rfl,rfl⟩
 |cons d y r =>
  rw[List.foldl_cons];have u:aa.probe (cP n d)=aa.probe n/\bd (cP n d)=bd n:=by
   unfold cP;cases jS n.2.2.2.2.2.1 d.2.2.1 d.2.2.2.length with
   |false=>exact⟨rfl,rfl⟩
   |true =>
    obtain⟨_,_,_,_,_,z,_,_,H,_⟩:=dO n (fZ (aB (aa.table n) d.1)) n.1;exact⟨H,z⟩
  exact⟨(r _).1.trans u.1,(r _).2.trans u.2⟩
theorem vf {n:aa}{f g:af}{b:Int}(u:Asc (λg:af=>g.1) (aa.table n))(r:g∈aa.table (sayOf n f b)):g=f\/g∈aa.table n:=by
 rcases li u f b with h|⟨h,_⟩
 ·rw[h]at r;exact .inr r
 ·rw[h]at r;have r:g∈bD (λg:af=>g.1) f (aa.table n):=r;exact (aX.1 r).imp id (·.1)
theorem tx {n:aa}(h:UpX n)(hs:cL n):∀ g∈aa.table (c9 n),g.2.2.1≠3->g∈aa.table n:=by
 have:=jj (st:=cP) (Inv:=λm=>(UpX m/\cL m/\OnN n m/\∀ g∈aa.table m,g.2.2.1≠3->g∈aa.table n)/\∀ g∈aa.table n,∃ H∈aa.table m,H.1=g.1) (ds:=aa.doubts n) (n:=n) ⟨⟨h,hs,OnN.refl n,λg r _=>r⟩,λg r=>⟨g,r,rfl⟩⟩ ?_
 ·exact this.1.2.2.2
 ·rintro m d hd ⟨⟨u,y,Z,hi⟩,X⟩;have Y:=tf h hs hd;unfold cP;cases jS m.2.2.2.2.2.1 d.2.2.1 d.2.2.2.length with
  |false=>exact⟨⟨u,y,Z,hi⟩,X⟩
  |true =>
   obtain⟨⟨g,r,e,_⟩,_⟩:=h.doubts.1 d hd;obtain⟨H,I,e'⟩:=X g r;obtain⟨h1,h2,z⟩:=cD u.table ⟨H,I,e'.trans e⟩;have R:ao (fZ (aB (aa.table m) d.1)).1=ao m.1:=by
    show ao (aB (aa.table m) d.1).1=ao m.1;exact u.site _ z
   have J:(fZ (aB (aa.table m) d.1)).1≠n.1:=by rw[show (fZ (aB (aa.table m) d.1)).1=_ from h2];exact Y
   refine⟨⟨u.said (lJ h1) R (ff.me u.me),mm u.table.2 Z J y,Z.say _ _,λg r z=>?_⟩,λg r=>?_⟩
   ·rcases vf u.table.2 r with rfl|r
    ·exact absurd rfl z
    ·exact hi g r z
   ·obtain⟨g1,O,e1⟩:=X g r;obtain⟨g2,M,e2⟩:=iI (f:=fZ (aB (aa.table m) d.1)) (b:=m.1) O;exact⟨g2,M,e2.trans e1⟩
theorem wh (m:aa):aa.table (dQ m).1=aa.table m/\bd (dQ m).1=bd m:=by
 unfold dQ;cases (aa.probe m).1==-1 with
 |false=>exact⟨rfl,rfl⟩
 |true =>
  simp only[cond_true,dL];cases decide (jm m>=999999) with
  |true=>exact⟨rfl,rfl⟩
  |false =>
   simp only[cond_false];cases gY m with
   |none=>exact⟨rfl,rfl⟩
   |some to=>exact⟨rfl,rfl⟩
theorem wj {m:aa}(z:ax (aa.table m)):bd (a7 m).1=bd m/\∀ f∈aa.table (a7 m).1,f∈aa.table m \/
  ∃ g∈aa.table m,f=mf g/\g.2.2.1=1/\g.1=(aa.probe m).1/\4<=bd m-(aa.probe m).2.1:=by
 unfold a7;cases O:(aa.probe m).1==-1 with
 |true=>exact⟨rfl,λf r=>.inl r⟩
 |false =>
  simp only[cond_false];cases I:cN (aB (aa.table m) (aa.probe m).1) with
  |false=>exact⟨rfl,λf r=>.inl r⟩
  |true =>
   simp only[BK,cond_false];by_cases u:m.2.2.2.2.2.1-(aa.probe m).2.1>=4
   ·rw[decide_eq_true u];simp only[cond_true];obtain⟨R,H,M⟩:=cD z (el I);cases J:(aB (aa.table m) (aa.probe m).1).2.2.1==1 with
    |false=>exact⟨rfl,λf r=>.inl r⟩
    |true =>
     simp only[cond_true];refine⟨(dO (setP m noP) _ _).2.2.2.2.2.1,λf r=>?_⟩;rcases vf (n:=setP m noP) z.2 r with rfl|r
     ·exact .inr ⟨_,M,rfl,by simpa using J,H,u⟩
     ·exact .inl r
   ·rw[decide_eq_false u];simp only[cond_false];by_cases y:m.2.2.2.2.2.1-(aa.probe m).2.1>=2
    ·rw[decide_eq_true y];cases (aa.probe m).2.2.2 with
     |true=>exact⟨rfl,λf r=>.inl r⟩
     |false=>exact⟨rfl,λf r=>.inl r⟩
    ·rw[decide_eq_false y];exact⟨rfl,λf r=>.inl r⟩
theorem uC {n:aa}(r:NS 9 n)(y:hX n):ax (aa.table n):=by
 cases z:n.2.1 with
 |true=>exact (UpN.of y z).x.table
 |false =>
  have u:=y.2.2.2.2.2;rw[if_neg (by rw[z];decide)]at u;have H:=u.2.2.2.2.2.1;have I:=r.table;have O:=r.cast;have R:=r.doubts;have J:=r.places;have M:=r.others;rw[aE (n:=(BF (aa.table n):Int)+(BF (aa.cast n):Int)) (by omega) (by omega),aE (n:=(BF (aa.table n):Int)+(BF (aa.cast n):Int)+(BF (aa.doubts n):Int)) (by omega) (by omega),
   aE (n:=(BF (aa.table n):Int)+(BF (aa.cast n):Int)+(BF (aa.doubts n):Int)+(BF (aa.places n):Int)) (by omega) (by omega),aE (by omega) (by omega)]at H
  rw[List.eq_nil_of_length_eq_zero (show (aa.table n).length=0 by omega)];exact⟨by simp,by simp[Asc]⟩
end Go.Proofs.YtaegajachoklkaaGreatEv
