/- What a node hears, by the specification: what it comes to. -/
import Derived.Test.YtaegajachoklkaaGreatP2
set_option linter.unusedVariables false
set_option linter.unusedSimpArgs false
open Bool renaming not_true->BK,not_false->B8,not_eq_true'->CR,and_eq_true->CT,not_eq_true->CU
open Classical renaming not_not->CH
open Int renaming toNat->BI,toNat_natCast->BJ,eq_ofNat_of_zero_le->BV,toNat_zero->B9,tmod->CA,le_refl->CI,fdiv->CK,toNat_of_nonneg->CO,tmod_lt_of_pos->CQ,tmod_nonneg->CX
open List renaming length->BF,mem_singleton->BH,length_append->BL,mem_append->BM,getElem_mem->BN,drop_eq_getElem_cons->BP,nil_append->BQ,length_set->BR,mem_map->BS,filter_eq_self->BT,length_take->BU,filter_eq_nil_iff->BX,drop_zero->BY,mem_of_mem_take->BZ,getElem_of_mem->B3,getElem?_eq_getElem->B4,length_map->B5,mem_filter->B6,length_nil->B7,length_filter_le->CB,take_length->CC,append_nil->CE,pairwise_cons->CF,take_add_one->CG,filter_cons->CJ,length_drop->CL,length_take_le->CN,filter_append->CP,length_cons->CV,not_mem_nil->CW,mem_cons->CY
open Nat renaming le_succ_of_le->BE,le_trans->BO,zero_le->BW,le_refl->CD,le_succ->CM
open Option renaming bind_some->BD,bind->BG
open Option.some renaming injEq->CS
open Prod.mk renaming injEq->CZ
namespace Go.Proofs.YtaegajachoklkaaGreatEv
open Go
theorem rl {α A R:Type}(k:α->Int)(x:α)(t:List α)(hA:Asc k t)(Z S1:List α->Nat->A)(I:List α->Option R){step:(A->Option R)->A->Option R}
  (h0:∀ (rec:A->Option R) (r:List α) (i:Nat) (O:i<t.length),r.length=i->(∀ y∈t.take i,k y<k x)->step rec (Z r i)=if k t[i]<k x then rec (Z (r++[t[i]]) (i+1)) else if k t[i]=k x then rec (S1 (r++[x]) (i+1)) else rec (S1 (r++[x]++[t[i]]) (i+1)))
  (h1:∀ (rec:A->Option R) (r:List α) (i:Nat) (O:i<t.length),r.length<=i+1->k x<k t[i]->step rec (S1 r i)=rec (S1 (r++[t[i]]) (i+1)))
  (e0:∀ (rec:A->Option R) (r:List α),r.length=t.length->(∀ y∈t,k y<k x)->step rec (Z r t.length)=I (r++[x]))
  (e1:∀ (rec:A->Option R) (r:List α),r.length<=t.length+1->step rec (S1 r t.length)=I r) {K:Nat} (Y:t.length<K):ae step K (Z [] 0)=I (bI k x t):=by
 have r1:∀ (n i K:Nat) (r:List α),i+n=t.length->n<K->r.length<=i+1->(∀ y∈t.drop i,k x<k y)->ae step K (S1 r i)=I (r++t.drop i):=by
  intro n;induction n with
  |zero =>
   intro i K r O Y M _;obtain⟨K,rfl⟩:∃ X,K=X+1:=⟨K-1,by omega⟩;have:i=t.length:=by omega
   subst this;show step (ae step K) _=_;rw[e1 _ _ M,List.drop_length,CE]
  |succ n ih =>
   intro i K r O Y M hg;obtain⟨K,rfl⟩:∃ X,K=X+1:=⟨K-1,by omega⟩;have u:i<t.length:=by omega
   rw[BP u]at hg;show step (ae step K) _=_;rw[h1 _ _ _ u M (hg _ (.head _)),ih (i+1) K _ (by omega) (by omega) (by simp;omega) (λy z=>hg y (.tail _ z)),BP u];simp
 have H:∀ i (O:i<t.length),∀ y∈t.drop (i+1),k t[i]<k y:=λi O y z=>by
  have:=List.Pairwise.drop (i:=i) hA;rw[BP O]at this;exact (CF.1 this).1 y z
 have r0:∀ (n i K:Nat) (r:List α),i+n=t.length->n<K->r=t.take i->(∀ y∈t.take i,k y<k x)->ae step K (Z r i)=I (bI k x t):=by
  intro n;induction n with
  |zero =>
   intro i K r O Y M J;obtain⟨K,rfl⟩:∃ X,K=X+1:=⟨K-1,by omega⟩;have:i=t.length:=by omega
   subst this;rw[CC]at M J;subst M;show step (ae step K) _=_;rw[e0 _ _ rfl J];unfold bI;rw[BT.2 (by simpa using J),BX.2 (λy z=>by have:=J y z;simp;omega)]
  |succ n ih =>
   intro i K r O Y M J;obtain⟨K,rfl⟩:∃ X,K=X+1:=⟨K-1,by omega⟩;have u:i<t.length:=by omega
   subst M;have a1:(t.take i).length=i:=by rw[BU];omega
   show step (ae step K) _=_;rw[h0 _ _ _ u a1 J];have a0:k x<=k t[i]->bI k x t=t.take i++x::(t.drop i).filter (λy=>decide (k x<k y)):=λhc=>by
    unfold bI;conv=>lhs;rw[<- List.take_append_drop i t]
    rw[CP,CP,BT.2 (by simpa using J),(BX (l:=t.take i)).2 (λy z=>by have:=J y z;simp;omega),BQ];rw[BP u,CJ,if_neg (by simp;omega),BX.2 (λy z=>by have:=H i u y z;simp;omega),CE]
   by_cases hc:k t[i]<k x
   ·rw[if_pos hc];refine ih (i+1) K _ (by omega) (by omega) (by rw[CG,B4 u];rfl) λy z=>?_
    rw[CG,B4 u]at z;rcases BM.1 z with z|z
    ·exact J y z
    ·simp at z;rw[z];exact hc
   ·rw[if_neg hc,a0 (by omega),BP u];by_cases he:k t[i]=k x
    ·rw[if_pos he,r1 n (i+1) K _ (by omega) (by omega) (by simp;omega) (λy z=>by have:=H i u y z;omega),CJ,if_neg (by simp;omega),BT.2 (λy z=>by have:=H i u y z;simp;omega)];simp
    ·rw[if_neg he,r1 n (i+1) K _ (by omega) (by omega) (by simp;omega) (λy z=>by have:=H i u y z;omega),CJ,if_pos (by simp;omega),BT.2 (λy z=>by have:=H i u y z;simp;omega)];simp
 exact r0 t.length 0 K [] (by omega) Y rfl (by simp)
theorem xH {t:List af}{f:af}(h:∀ g∈t,g.1<f.1):(bT t f).1=t++[f]:=by
 rw[ij (λg r e=>by have:=h g r;omega)];unfold bI;rw[BT.2 (by simpa using h),BX.2 (λy u=>by have:=h y u;simp;omega)]
theorem pR:∀ {fs t:List af},Asc (λf:af=>f.1) fs->(∀ g∈t,∀ f∈fs,g.1<f.1)->fE t fs=t++fs
 |[],t,_,_=>by simp[fE]
 |f::fs,t,y,h=>by
  show fE (bT t f).1 fs=_;rw[xH (λg r=>h g r f (by simp)),pR (CF.1 y).2 ?_]
  ·simp
  ·intro g r e u;rcases BM.1 r with r|r
   ·exact h g r e (by simp[u])
   ·rw[BH.1 r];exact (CF.1 y).1 e u
theorem vY {fs:List af}(h:az fs):fE [] fs=fs:=by
 rw[pR h.2 (by simp)];rfl
theorem Ao (K:Nat)(a b:List af)(r:az a)(u:az b)(y:1048577<K):Q161.f K (a,b,())=some ((fE a b,()),()):=by
 simp only[Q161.f,Q161.pre];obtain⟨R,M,I⟩:=gq K a (cL r) y;obtain⟨X,O,H⟩:=gq K b (cL u) y;have:=cL r;have:=cL u;rw[M,O,I.2 r,H.2 u];simp only[BD,BK,cond_false];rw[szb _ _ _ (by omega) (by show (BF ([]:List af))+a.length<=_;simp;omega)];simp only[cond_true,BQ];refine ur a b r u.1 (step:=λrec x=>Q161.s0 K (a,b,()) rec x) (λt=>some ((t,()),())) ?_ ?_ (by omega)
 ·intro rec t i J z;simp only[Q161.s0];rw[bq (by omega:(i:Int)<(BF b:Int)),ag J,ar i (by omega)];simp only[cond_true,BD];rw[vQ K t _ (cL z) z.2 y];rfl
 ·intro rec t;simp only[Q161.s0,aT];rfl
theorem tr {u:Int}{l:List cV}(h:c9 u l)(s:Int):az (dm l s):=by
 rcases mP (l:=l) (s:=s) with e|⟨x,r,_,e⟩ <;> rw[e]
 ·exact⟨by simp,List.Pairwise.nil⟩
 ·exact (h.1 x r).2.2.2.1
theorem olen {u:Int}{l:List cV}(h:c9 u l):l.length<=1048576:=BO (iS h.2 λx r=>⟨(h.1 x r).1.1,Int.le_trans (h.1 x r).1.2 (by decide)⟩) (by decide)
theorem xI (K:Nat)(n:aa)(s:Int)(t:List af)(h:c9 n.1 (aa.others n))(r:az t)(y:1048577<K):Q162.f K (n,s,t,())=some ((fE (dm (aa.others n) s) t,()),()):=by
 have z:=olen h;refine pD (step:=λrec a=>Q162.s0 K (n,s,t,()) rec a) (aa.others n) s (λl=>some ((fE l t,()),())) ?_ ?_ (aa.others n).length 0 K (by omega) (by omega)
 ·intro rec i u;simp only[Q162.s0];rw[bq (by omega:(i:Int)<(BF (aa.others n):Int)),ag u,ar i (by omega)];simp only[cond_true,BD];cases (aa.others n)[i].1==s with
  |false=>rfl
  |true=>exact (congrArg (λo=>BG o _) (Ao K _ t (h.1 _ (BN u)).2.2.2.1 r y)).trans rfl
 ·intro rec;simp only[Q162.s0,aT,cond_false];rw[vY r];refine (congrArg (λb=>bif b then _ else _) (szb (BF ([]:List af)) t.length 32 (by omega) ?_)).trans rfl;have:=cL r;simp;omega
theorem sum_s (K:Nat)(n:aa)(s:Int)(t:List af)(h:c9 n.1 (aa.others n))(R:1048577<K):Q163.f K (n,s,t,())=some ((setO n (bI (λx:cV=>x.1) (s,t) (aa.others n)),()),()):=by
 have X:=olen h;refine rl (step:=λrec a=>Q163.s0 K (n,s,t,()) rec a) (λx:cV=>x.1) (s,t) (aa.others n) h.2 (λr i=>(r,false,(i:Int))) (λr i=>(r,true,(i:Int))) (λo=>some ((setO n o,()),())) ?_ ?_ ?_ ?_ (by omega)
 ·intro rec r i I H _;simp only[Q163.s0,zcp4,zcp8];rw[bq (by omega:(i:Int)<(BF (aa.others n):Int)),ag I,ar i (by omega)];simp only[cond_true,BD,B8];have z:=szb r.length 1 32 (by omega) (by omega);have O:=szb (r++[(s,t)]).length 1 32 (by omega) (by simp;omega);generalize (aa.others n)[i]=y at *;by_cases J:y.1<s
  ·rw[if_pos J,show decide (y.1>=s)=false from decide_eq_false (by omega),show (y.1 != s)=true by simp;omega];exact (congrArg (λb=>bif b then _ else _) z).trans rfl
  ·rw[if_neg J,show decide (y.1>=s)=true from decide_eq_true (by omega)];refine (congrArg (λb=>bif b then _ else _) z).trans ?_;by_cases u:y.1=s
   ·rw[if_pos u,show (y.1 != s)=false by simpa using u];rfl
   ·rw[if_neg u,show (y.1 != s)=true by simpa using u];exact (congrArg (λb=>bif b then _ else _) O).trans rfl
 ·intro rec r i I H M;simp only[Q163.s0,zcp4,zcp8];rw[bq (by omega:(i:Int)<(BF (aa.others n):Int)),ag I,ar i (by omega)];simp only[cond_true,BD,BK,cond_false];have z:=szb r.length 1 32 (by omega) (by omega);rw[show ((aa.others n)[i].1 != s)=true by simp;have:s<_:=M;omega];exact (congrArg (λb=>bif b then _ else _) z).trans rfl
 ·intro rec r H _;simp only[Q163.s0,zcp4,zcp8,aT,cond_false,B8,cond_true];exact (congrArg (λb=>bif b then _ else _) (szb r.length 1 32 (by omega) (by omega))).trans rfl
 ·intro rec r H;simp only[Q163.s0,zcp4,zcp8,aT,cond_false,BK];rfl
theorem ze (K:Nat)(a b:List af)(X:a.length<=1048576)(Y:1048577<K):Q164.f K (a,b,())=rb (decide (a≠b)):=by
 simp only[Q164.f,Q164.pre];by_cases I:a.length=b.length
 ·rw[show ((BF a:Int) != (BF b:Int))=false by simp;omega];have:=ci (step:=λrec x=>Q164.s0 K (a,b,()) rec x) a.length (λi=>(i:Int)) (λj=>∃ (h:j<a.length) (Z:j<b.length),a[j]≠b[j]) (rb false) (λ_=>rb true) ?_ ?_ a.length K 0 (by omega) (by omega)
  ·rcases this with ⟨M,y⟩|⟨j,_,M,⟨u,H,O⟩,_,y⟩
   ·refine (y:Q164.l0 K (a,b,()) 0=_).trans ?_;rw[decide_eq_false];rintro z;exact z (List.ext_getElem I λi u H=>CH.1 λR=>M i (BW _) u ⟨u,H,R⟩)
   ·refine (y:Q164.l0 K (a,b,()) 0=_).trans ?_;rw[decide_eq_true];rintro rfl;exact O rfl
  ·intro rec i J;simp only[Q164.s0];rw[bq (by omega:(i:Int)<(BF a:Int)),ag J,ar i (by omega),ag (show i<b.length by omega)];simp only[cond_true,BD];rw[show Ty.eqv t2 a[i] (b[i]'(by omega))=decide (a[i]=b[i]'(by omega)) from jF _ _];by_cases r:a[i]=b[i]'(by omega)
   ·exact .inl ⟨λ⟨_,_,h⟩=>h r,by rw[decide_eq_true r];rfl⟩
   ·exact .inr ⟨⟨J,by omega,r⟩,by rw[decide_eq_false r];rfl⟩
  ·intro rec;simp only[Q164.s0,aT];rfl
 ·rw[show ((BF a:Int) != (BF b:Int))=true by simp;omega,decide_eq_true (show a≠b from λe=>I (by rw[e]))];rfl
theorem qC (K:Nat)(l:List Int)(t:Int)(u:l.length<=1048576):Q170.f K (l,t,())=some ((gX l t,()),()):=by
 simp only[Q170.f];rw[szb _ _ _ (by omega) (by show (BF ([]:List Int))+l.length<=_;simp;omega)];simp only[cond_true,BQ];rw[szb _ _ _ (by omega) (by show l.length+[t].length<=_;simp;omega)];simp only[cond_true];have r:(l++[t]).length=l.length+1:=by simp
 show (bif decide (((l++[t]).length:Int)>3) then (bif decide (0<=wr .i64 (((l++[t]).length:Int)-3))&&decide (wr .i64 (((l++[t]).length:Int)-3)<=((l++[t]).length:Int))&&decide (((l++[t]).length:Int)<=((l++[t]).length:Int))&&true then some ((((l++[t]).take (BI ((l++[t]).length:Int))).drop (BI (wr .i64 (((l++[t]).length:Int)-3))),()),()) else none) else some ((l++[t],()),()))=_;by_cases h:l.length+1>3
 ·rw[aG (by omega) (by omega),decide_eq_true (by omega:((l++[t]).length:Int)>3),decide_eq_true (by omega:(0:Int)<=((l++[t]).length:Int)-3),decide_eq_true (by omega:((l++[t]).length:Int)-3<=((l++[t]).length:Int)),decide_eq_true (CI _)];simp only[Bool.and_self,cond_true,gX];rw[show BI (((l++[t]).length:Int)-3)=(l++[t]).length-3 by omega,BJ,CC]
 ·rw[decide_eq_false (by omega:¬ ((l++[t]).length:Int)>3)];simp only[cond_false,gX];rw[show (l++[t]).length-3=0 by omega,BY]
theorem plen {u:Int}{l:List dM}(h:ez u l):l.length<=1048576:=BO (iS h.2 λx r=>(h.1 x r).1) (by decide)
theorem uv {y:Int}{l:List dM}(h:ez y l)(r:Int):(dI l r).length<=3:=by
 unfold dI;cases u:l.find? λp=>p.1==r with
 |none=>simp
 |some p =>
  have:=(h.1 p (List.mem_of_find?_eq_some u)).2.2.2.2.1.2;show p.2.2.length<=3;omega
theorem Ap (K:Nat)(l:List dM)(r:Int)(c:dB)(t:Int)(me:Int)(h:ez me l)(hK:1048577<K):Q171.f K (l,r,c,t,())=some ((o8 l r c t,()),()):=by
 have hl:=plen h;have h3:=uv h r;refine rl (step:=λrec a=>Q171.s0 K (l,r,c,t,()) rec a) (λx:dM=>x.1) (r,c,gX (dI l r) t) l h.2 (λu i=>(u,false,(i:Int),[])) (λu i=>(u,true,(i:Int),gX (dI l r) t)) (λo=>some ((o,()),())) ?_ ?_ ?_ ?_ (by omega)
 ·intro rec u i I J z;simp only[Q171.s0];rw[bq (by omega:(i:Int)<(BF l:Int)),ag I,ar i (by omega)];simp only[cond_true,BD,B8];have O:=szb u.length 1 64 (by omega) (by omega);have z2:=szb (u++[(r,c,gX (dI l r) t)]).length 1 64 (by omega) (by simp;omega);have M:l[i].1=r->dI l r=l[i].2.2:=λe=>by unfold dI;rw[oX h.2 I e];rfl
  have R:r<l[i].1->dI l r=[]:=λe=>by
   unfold dI;rw[nN (k:=λp:dM=>p.1)]
   ·rfl
   intro y X;obtain⟨j,hj,rfl⟩:=B3 X;by_cases a0:j<i
   ·have:=z l[j] (by rw[List.mem_take_iff_getElem];exact⟨j,by omega,rfl⟩);show l[j].1≠r;have:l[j].1<r:=this;omega
   ·have:l[i].1<=l[j].1:=by
     by_cases e:i=j
     ·subst e;exact CI _
     ·exact Int.le_of_lt (dt.1 h.2 i j I hj (by omega))
    show l[j].1≠r;omega
  have a1:=(h.1 _ (BN I)).2.2.2.2.1.2;generalize l[i]=y at *;by_cases Y:y.1<r
  ·rw[if_pos Y,show decide (y.1>=r)=false from decide_eq_false (by omega),show (y.1 != r)=true by simp;omega,show (y.1==r)=false by simp;omega];exact (congrArg (λb=>bif b then _ else _) O).trans rfl
  ·rw[if_neg Y,show decide (y.1>=r)=true from decide_eq_true (by omega)];by_cases H:y.1=r
   ·rw[if_pos H,show (y.1 != r)=false by simpa using H,show (y.1==r)=true by simpa using H];simp only[cond_true,cond_false];rw[<- M H];refine (congrArg (λo=>BG o _) (qC K _ t (by omega))).trans ?_;exact (congrArg (λb=>bif b then _ else _) O).trans rfl
   ·rw[if_neg H,show (y.1 != r)=true by simpa using H,show (y.1==r)=false by simpa using H];simp only[cond_true,cond_false];have e:=R (by omega);rw[e]at z2 ⊢;refine (congrArg (λo=>BG o _) (qC K [] t (by simp))).trans ?_;refine (congrArg (λb=>bif b then _ else _) O).trans ?_;exact (congrArg (λb=>bif b then _ else _) z2).trans rfl
 ·intro rec u i I J Z;simp only[Q171.s0];rw[bq (by omega:(i:Int)<(BF l:Int)),ag I,ar i (by omega)];have Z:r<l[i].1:=Z;simp only[cond_true,BD,BK,cond_false];rw[show (l[i].1 != r)=true by simp;omega,show (l[i].1==r)=false by simp;omega];exact (congrArg (λb=>bif b then _ else _) (szb u.length 1 64 (by omega) (by omega))).trans rfl
 ·intro rec u J z;simp only[Q171.s0,aT,cond_false,B8,cond_true];have e:dI l r=[]:=by
   unfold dI;rw[nN (k:=λp:dM=>p.1) (λy X=>by have:y.1<r:=z y X;show y.1≠r;omega)];rfl
  rw[e];refine (congrArg (λo=>BG o _) (qC K [] t (by simp))).trans ?_;exact (congrArg (λb=>bif b then _ else _) (szb u.length 1 64 (by omega) (by omega))).trans rfl
 ·intro rec u J;simp only[Q171.s0,aT,cond_false,BK]
def tt (n u r:Int):Int:=if n<u then u else if n>r then r else n
theorem zL (K:Nat)(n y z:Int):Q169.f K (n,y,z,())=some ((tt n y z,()),()):=by
 simp only[Q169.f,tt];by_cases u:n<y
 ·rw[decide_eq_true u,if_pos u];rfl
 ·rw[decide_eq_false u,if_neg u];by_cases r:n>z
  ·rw[decide_eq_true r,if_pos r];rfl
  ·rw[decide_eq_false r,if_neg r];rfl
theorem Aq {n u r:Int}(h:u<=r):InP (tt n u r) u r:=by
 unfold tt;split
 ·exact⟨CI _,h⟩
 ·split
  ·exact⟨h,CI _⟩
  ·exact⟨by omega,by omega⟩
def xJ (n:aa):Int:=tt ((aQ n-(aa.probe n).2.1)*1000+500) 1 60000
noncomputable def qD (K:Nat)(w:aq)(c:dB)(p:dM):dB:=bif p.1==w.2.2.1 then pQ K c (aq.coord w) (sl K p.2.2) w.2.2.2.2.1 else c
def kE (n:aa)(w:aq):List dM:=o8 (aa.places n) w.2.2.1 (aq.coord w) (xJ n)
def qE (n:aa)(w:aq):Bool:=!decide ((aa.probe n).1<0)&&(aa.probe n).1==w.2.2.1&&(aa.probe n).2.2.1==w.2.2.2.2.1&&w.2.2.2.2.2.1==w.2.2.1
noncomputable def fq (K:Nat)(n:aa)(w:aq):aa:=bif qE n w then pN n ((kE n w).foldl (qD K w) (aa.coord n)) (kE n w) else n
theorem u6 {K:Nat}{w:aq}{c:dB}{p:dM}(r:cD c)(u:1048577<K):cD (qD K w c p):=by
 unfold qD;cases p.1==w.2.2.1 with
 |false=>exact r
 |true=>exact (xG K c _ _ _ r u).2
theorem tu {n:aa}(h:UpX n)(H:¬ (aa.probe n).1<0):(aa.probe n).1≠n.1/\InP (aa.probe n).1 0 7/\ao (aa.probe n).1=ao n.1/\InP (aa.probe n).2.1 0 (aQ n):=by
 have r:=h.probe;unfold cC at r;rw[if_neg (by omega)]at r;obtain⟨z,⟨f,u,e⟩,y,_⟩:=r;exact⟨z,e ▸ (h.table.1 f u).1,e ▸ h.site f u,y⟩
theorem u7 {n:aa}{w:aq}(h:UpX n)(I:cD (aq.coord w))(u:qE n w=true):ez n.1 (kE n w):=by
 simp only[qE,CT,CR,decide_eq_false_iff_not,beq_iff_eq]at u;obtain⟨⟨⟨J,H⟩,M⟩,O⟩:=u;obtain⟨y,z,r,_⟩:=tu h J;rw[H]at y z r;exact vW h.places z r y I (Aq (by decide))
theorem ack_s (K:Nat)(n:aa)(w:aq)(h:UpN n)(Z:cD (aq.coord w))(J:1048577<K):Q182.f K (n,w,())=some ((fq K n w,()),()):=by
 simp only[Q182.f,Q182.pre,zc00556];have H:qE n w=(!decide ((aa.probe n).1<0)&&(aa.probe n).1==w.2.2.1&&(aa.probe n).2.2.1==w.2.2.2.2.1&&w.2.2.2.2.2.1==w.2.2.1):=rfl;by_cases r:(aa.probe n).1<0
 ·rw[show decide (n.2.2.2.2.2.2.2.2.2.2.1.1<0)=true from decide_eq_true r];rw[show fq K n w=n by unfold fq;rw[H,decide_eq_true r];rfl];rfl
 ·rw[show decide (n.2.2.2.2.2.2.2.2.2.2.1.1<0)=false from decide_eq_false r];cases u:(aa.probe n).1==w.2.2.1 with
  |false =>
   rw[show fq K n w=n by unfold fq;rw[H,decide_eq_false r,u];rfl];rw[show (n.2.2.2.2.2.2.2.2.2.2.1.1 != w.2.2.1)=true by unfold bne;rw[show (n.2.2.2.2.2.2.2.2.2.2.1.1==w.2.2.1)=false from u];rfl];rfl
  |true =>
   rw[show (n.2.2.2.2.2.2.2.2.2.2.1.1 != w.2.2.1)=false by unfold bne;rw[show (n.2.2.2.2.2.2.2.2.2.2.1.1==w.2.2.1)=true from u];rfl];cases z:(aa.probe n).2.2.1==w.2.2.2.2.1 with
   |false =>
    rw[show fq K n w=n by unfold fq;rw[H,decide_eq_false r,u,z];rfl];rw[show (n.2.2.2.2.2.2.2.2.2.2.1.2.2.1 != w.2.2.2.2.1)=true by unfold bne;rw[show (n.2.2.2.2.2.2.2.2.2.2.1.2.2.1==w.2.2.2.2.1)=false from z];rfl];rfl
   |true =>
    rw[show (n.2.2.2.2.2.2.2.2.2.2.1.2.2.1 != w.2.2.2.2.1)=false by unfold bne;rw[show (n.2.2.2.2.2.2.2.2.2.2.1.2.2.1==w.2.2.2.2.1)=true from z];rfl];cases I:w.2.2.2.2.2.1==w.2.2.1 with
    |false =>
     rw[show fq K n w=n by unfold fq;rw[H,decide_eq_false r,u,z,I];rfl];rw[show (w.2.2.2.2.2.1 != w.2.2.1)=true by unfold bne;rw[I];rfl];rfl
    |true =>
     have R:qE n w=true:=by rw[H,decide_eq_false r,u,z,I];rfl
     rw[show (w.2.2.2.2.2.1 != w.2.2.1)=false by unfold bne;rw[I];rfl];have Y:=(tu h.x r).2.2.2;have hn:=h.now1;have O:=u7 h.x Z R;simp only[cond_false];rw[show wr .i64 (wr .i64 (wr .i64 (n.2.2.2.2.2.1-n.2.2.2.2.2.2.2.2.2.2.1.2.1)*1000)+500)=(aQ n-(aa.probe n).2.1)*1000+500 by
      obtain⟨p1,p2⟩:=Y;show wr .i64 (wr .i64 (wr .i64 (aQ n-(aa.probe n).2.1)*1000)+500)=_;rw[aG (n:=aQ n-_) (by omega) (by omega),aG (n:=_*1000) (by omega) (by omega),aG (by omega) (by omega)]]
     rw[zL];simp only[BD];refine (congrArg (λo=>BG o _) (Ap K (aa.places n) w.2.2.1 (aq.coord w) (xJ n) n.1 h.x.places J)).trans ?_;simp only[BD];rw[show fq K n w=pN n ((kE n w).foldl (qD K w) (aa.coord n)) (kE n w) by unfold fq;rw[R];rfl];show Q182.l0 K (n,w,()) (0,(aa.coord n).1,(aa.coord n).2.1,(aa.coord n).2.2.1,(aa.coord n).2.2.2,kE n w)=_;have hl:=plen O;refine kS (step:=λrec a=>Q182.s0 K (n,w,()) rec a) (kE n w) (qD K w) cD (λc i=>((i:Int),c.1,c.2.1,c.2.2.1,c.2.2.2,kE n w)) (λc=>some ((pN n c (kE n w),()),())) (aa.coord n) h.x.coord ?_ ?_ (by omega)
     ·intro rec c i X M;refine⟨?_,u6 M J⟩;simp only[Q182.s0,zc00556,zcp8];rw[bq (by omega:(i:Int)<(BF (kE n w):Int)),BJ,ag X,ar i (by omega)];simp only[cond_true,BD];have a0:=(O.1 _ (BN X)).2.2.2.2.1.2;generalize (kE n w)[i]=y at *;unfold qD;cases y.1==w.2.2.1 with
      |false=>rfl
      |true =>
       simp only[cond_true];refine (congrArg (λo=>BG o _) (med_s K y.2.2 (by omega) J)).trans ?_;refine (congrArg (λo=>BG o _) (xG K c (aq.coord w) (sl K y.2.2) w.2.2.2.2.1 M J).1).trans ?_;rfl
     ·intro rec c M;simp only[Q182.s0,zc00556,zcp8,aT,cond_false];rfl
theorem Bh {K:Nat}{n:aa}{w:aq}(h:UpN n)(z:cD (aq.coord w))(u:1048577<K):UpN (fq K n w)/\(fq K n w).1=n.1/\(fq K n w).2.2.1=n.2.2.1:=by
 unfold fq;cases r:qE n w with
 |false=>exact⟨h,rfl,rfl⟩
 |true=>exact⟨h.heard (kz (Inv:=cD) h.x.coord λc p _ y=>u6 y u) (u7 h.x z r),rfl,rfl⟩
def pS (n:aa)(w:aq):Prop:=n.2.1=true/\n.2.2.1=false/\w.2.2.2.1=n.1/\w.2.2.1≠n.1 /\
 (if w.1=2 then w.2.1=6/\ao w.2.2.1≠ao n.1/\(cf (aq.table w) (ao n.1)\/cf (aq.table w) (ao w.2.2.1)) else ao w.2.2.1=ao n.1/\(w.2.1≠6\/¬ cf (aq.table w) (ao n.1)))
theorem Ar (K:Nat)(n:aa)(w:aq)(J:(aq.table w).length<=1048576)(I:1048577<K):Ret (Q152.f K (n,w,())) (pS n w):=by
 refine (Ret.cndN (P:=¬ n.2.1=true) (b:=!n.2.1) (by simp) λ_=>Ret.cndN (P:=n.2.2.1=true) (b:=n.2.2.1) Iff.rfl λ_=>Ret.cndN (P:=w.2.2.2.1≠n.1) (b:=w.2.2.2.1 != n.1) (by simp) λ_=>Ret.cndN (P:=w.2.2.1=n.1) (b:=w.2.2.1==n.1) (by simp) λ_ =>
  (?_:Ret _ (if w.1=2 then w.2.1=6/\ao w.2.2.1≠ao n.1/\(cf (aq.table w) (ao n.1)\/cf (aq.table w) (ao w.2.2.1)) else ao w.2.2.1=ao n.1/\(w.2.1≠6\/¬ cf (aq.table w) (ao n.1))))).iff ?_
 ·refine Ret.vl (eJ K n.1) ?_;obtain⟨H,z,y⟩:=gr K (aq.table w) (ao n.1) J I;obtain⟨M,O,R⟩:=gr K (aq.table w) (ao w.2.2.1) J I;by_cases r:w.1=2
  ·rw[show (w.1==2)=true by simpa using r,if_pos r];refine Ret.cnd (P:=w.2.1=6) (b:=w.2.1==6) (by simp) λ_=>?_
   refine Ret.cnd (P:=ao w.2.2.1≠ao n.1) (b:=ao w.2.2.1 != ao n.1) (by simp) λ_=>Ret.vl z ?_
   cases H with
   |true=>exact Ret.yes (.inl (y.1 rfl))
   |false =>
    refine Ret.vl O ?_;exact Ret.of (b:=M) (R.trans ⟨.inr,λh=>h.resolve_left λh=>by have:=y.2 h;cases this⟩)
  ·rw[show (w.1==2)=false by simpa using r,if_neg r];refine Ret.cnd (P:=ao w.2.2.1=ao n.1) (b:=ao w.2.2.1==ao n.1) (by simp) λ_=>?_
   by_cases u:w.2.1=6
   ·show Ret (bif w.2.1 != 6 then _ else _) _;rw[show (w.2.1 != 6)=false by simpa using u];refine Ret.vl z (Ret.of (b:=!H) ?_);rw[CR,<- CU,y];exact⟨.inr,λh=>h.resolve_left λh=>h u⟩
   ·show Ret (bif w.2.1 != 6 then _ else _) _;rw[show (w.2.1 != 6)=true by simpa using u];exact Ret.yes (.inl u)
 ·unfold pS;rw[CH,CU,CH]
def sm (u:Int)(n:aa)(to y r:Int)(t:List af):aq:=(1,u,n.1,to,y,r,aa.coord n,t)
theorem pT (K:Nat)(n:aa)(u to y r:Int)(t:List af)(z:t.length<=1048576):Q153.f K (n,u,to,y,r,t,())=some ((sm u n to y r t,()),()):=by
 simp only[Q153.f];rw[szb _ _ _ (by omega) (by show (BF ([]:List af))+t.length<=_;simp;omega)];rfl
def nR (t:List af)(s:Int):Bool:=t.all λf=>ao f.1==s
theorem m8 {t:List af}{s:Int}:nR t s=true<->cf t s:=by simp[nR,cf]
def ju (t:List af):af:=(t.head?).getD (0,0,0,false)
def fQ (n:aa)(w:aq):List af:=fE (dm (aa.others n) (ao (ju (aq.table w)).1)) (aq.table w)
def backW (n:aa)(w:aq):aq:=(2,6,n.1,w.2.2.1,0,n.1,aa.coord n,fQ n w)
def sumN (n:aa)(w:aq):aa:=setO n (bI (λx:cV=>x.1) (ao (ju (aq.table w)).1,fQ n w) (aa.others n))
def gL (n:aa)(w:aq):aa×List aq:=bif nR (aq.table w) (ao n.1) then (ji n (aq.table w) n.1,[]) else
 (sumN n w,bif w.1==2&&decide (aq.table w≠fQ n w) then [backW n w] else [])
theorem pU:∀ {fs t:List af} {g:af},g∈fE t fs->g∈t\/g∈fs
 |[],_,_,h=>.inl h
 |f::fs,t,g,h=>by
  rcases pU (fs:=fs) h with h|h
  ·have h:g∈(bT t f).1:=h;rcases gV t f with e|e
   ·rw[e]at h;exact .inl h
   ·rw[e]at h;rcases a8.1 h with rfl|⟨h,_⟩
    ·exact .inr (by simp)
    ·exact .inl h
  ·exact .inr (by simp[h])
theorem pV:∀ {fs t:List af} {g:af},g∈t->∃ r∈fE t fs,r.1=g.1
 |[],_,g,h=>⟨g,h,rfl⟩
 |f::fs,t,g,h=>by
  obtain⟨J,I,u⟩:=mS (f:=f) h;obtain⟨y,H,z⟩:=pV (fs:=fs) I;exact⟨y,H,z.trans u⟩
theorem uw {t:List af}(H:Asc (λg:af=>g.1) t)(f:af):∃ g∈(bT t f).1,g.1=f.1:=by
 by_cases h:∃ g∈t,g.1=f.1
 ·obtain⟨g,r,e⟩:=h;obtain⟨u,z,y⟩:=mS (f:=f) r;exact⟨u,z,y.trans e⟩
 ·rw[ij λg r e=>h ⟨g,r,e⟩];exact⟨f,a8.2 (.inl rfl),rfl⟩
theorem m9 {n:aa}{w:aq}(h:c9 n.1 (aa.others n))(I:az (aq.table w))(u:pF (aq.table w)):az (fQ n w)/\fQ n w≠[]/\cf (fQ n w) (ao (ju (aq.table w)).1):=by
 have z:=tr h (ao (ju (aq.table w)).1);refine⟨ra z I.1,?_,?_⟩
 ·unfold fQ;cases y:aq.table w with
  |nil=>rw[y]at u;exact u.elim
  |cons f l =>
   obtain⟨g,O,_⟩:=uw (f:=f) (t:=dm (aa.others n) (ao (ju (f::l)).1)) (by rw[y]at z;exact z.2);obtain⟨R,H,_⟩:=pV (fs:=l) O;exact List.ne_nil_of_mem H
 ·intro g r;rcases pU r with r|r
  ·rcases mP (l:=aa.others n) (s:=ao (ju (aq.table w)).1) with e|⟨x,J,M,e⟩
   ·rw[e]at r;cases r
   ·rw[e]at r;rw[<- M];exact (h.1 x J).2.2.2.2 g r
  ·cases y:aq.table w with
   |nil=>rw[y]at u;exact u.elim
   |cons f l =>
    rw[y]at u r;exact u g r
theorem At {x:Int}(h:InP x 0 7):InP (ao x) 0 1:=by
 rw[kD h];obtain⟨u,r⟩:=h;constructor <;> omega
theorem zf {t:List af}(u:pF t)(r:az t):InP (ju t).1 0 7:=by
 cases t with
 |nil=>exact u.elim
 |cons f l=>exact (r.1 f (by simp)).1
theorem xK (K:Nat)(n:aa)(w:aq)(h:UpN n)(r:az (aq.table w))(z:pF (aq.table w))(y:1048577<K):Q165.f K (n,w,())=some (((gL n w).1,(gL n w).2,()),()):=by
 simp only[Q165.f];rw[eJ K n.1];simp only[BD];obtain⟨H,M,R⟩:=gr K (aq.table w) (ao n.1) (cL r) y;have O:nR (aq.table w) (ao n.1)=H:=by rw[Bool.eq_iff_iff,m8,R]
 unfold gL;rw[O];refine (congrArg (λo=>BG o _) M).trans ?_;simp only[rb,BD];cases H with
 |true =>
  simp only[cond_true];refine (congrArg (λo=>BG o _) (uW K n (aq.table w) n.1 h.learns r.1 (cL r) h.x.me y)).trans rfl
 |false =>
  simp only[cond_false];obtain⟨I,X,Y⟩:=m9 (n:=n) h.x.others r z;have u:idx (aq.table w) 0=some (ju (aq.table w)):=by
   cases J:aq.table w with
   |nil=>rw[J]at z;exact z.elim
   |cons f l=>rfl
  refine (congrArg (λo=>BG o _) u).trans ?_;simp only[BD];rw[eJ K];simp only[BD];refine (congrArg (λo=>BG o _) (xI K n (ao (ju (aq.table w)).1) (aq.table w) h.x.others r y)).trans ?_;simp only[BD];refine (congrArg (λo=>BG o _) (sum_s K n (ao (ju (aq.table w)).1) (fQ n w) h.x.others y)).trans ?_;simp only[BD];cases w.1==2 with
  |false=>rfl
  |true =>
   simp only[cond_true,Bool.true_and];refine (congrArg (λo=>BG o _) (ze K (aq.table w) (fQ n w) (cL r) y)).trans ?_;simp only[rb,BD];cases decide (aq.table w≠fQ n w) with
   |false=>rfl
   |true =>
    simp only[cond_true];refine (congrArg (λo=>BG o _) (pT K (sumN n w) 6 w.2.2.1 0 n.1 (fQ n w) (cL I))).trans rfl
theorem vZ {n:aa}{w:aq}(h:UpN n)(H:n.2.2.1=false)(y:az (aq.table w))(r:pF (aq.table w)):UpN (gL n w).1/\(gL n w).1.1=n.1/\(gL n w).1.2.2.1=false:=by
 unfold gL;cases u:nR (aq.table w) (ao n.1) with
 |true=>exact ml h H y (m8.1 u) (fF.me h.x.me)
 |false =>
  obtain⟨M,I,J⟩:=m9 (n:=n) h.x.others y r;refine⟨h.setOthers (vV h.x.others (At (zf r y)) (λe=>?_) I M J),rfl,H⟩;have:cf (aq.table w) (ao n.1):=by
   cases z:aq.table w with
   |nil=>rw[z]at r;exact r.elim
   |cons f l=>rw[z]at r e;rw[<- e];exact r
  rw[m8.2 this]at u;cases u
noncomputable def fP (K:Nat)(n:aa)(w:aq):aa×List aq :=
 bif w.2.1==1 then (bif ao w.2.2.2.2.2.1 != ao n.1 then (n,[]) else bif w.2.2.2.2.2.1==n.1 then (n,[]) else (im n,[sm 2 (im n) w.2.2.2.2.2.1 w.2.2.2.2.1 n.1 (iV n w.2.2.2.2.2.1)]))
 else bif w.2.1==3 then (bif ao w.2.2.2.2.2.1 != ao n.1 then (n,[]) else bif w.2.2.2.2.2.1==n.1 then (n,[]) else bif w.2.2.2.2.2.1==w.2.2.1 then (n,[]) else (im n,[sm 1 (im n) w.2.2.2.2.2.1 w.2.2.2.2.1 w.2.2.1 (iV n w.2.2.2.2.2.1)]))
 else bif w.2.1==4 then (n,[sm 5 n w.2.2.1 0 n.1 (aa.table n)]) else bif w.2.1==2 then (fq K n w,[]) else (n,[])
theorem zg (K:Nat)(n:aa)(w:aq)(h:UpN n)(z:cD (aq.coord w))(y:1048577<K):Q183.f K (n,w,())=some (((fP K n w).1,(fP K n w).2,()),()):=by
 simp only[Q183.f];rw[eJ K n.1];simp only[BD];have u:=qy K n w.2.2.2.2.2.1 h.x.say y;have r:=cL (kl h.x.say w.2.2.2.2.2.1);unfold fP;cases w.2.1==1 with
 |true =>
  simp only[cond_true];rw[eJ K];simp only[BD];cases ao w.2.2.2.2.2.1 != ao n.1 with
  |true=>rfl
  |false =>
   simp only[cond_false];cases w.2.2.2.2.2.1==n.1 with
   |true=>rfl
   |false =>
    simp only[cond_false];refine (congrArg (λo=>BG o _) u).trans ?_;simp only[BD];refine (congrArg (λo=>BG o _) (pT K (im n) 2 w.2.2.2.2.2.1 w.2.2.2.2.1 n.1 _ r)).trans rfl
 |false =>
  simp only[cond_false];cases w.2.1==3 with
  |true =>
   simp only[cond_true];rw[eJ K];simp only[BD];cases ao w.2.2.2.2.2.1 != ao n.1 with
   |true=>rfl
   |false =>
    simp only[cond_false];cases w.2.2.2.2.2.1==n.1 with
    |true=>rfl
    |false =>
     simp only[cond_false];cases w.2.2.2.2.2.1==w.2.2.1 with
     |true=>rfl
     |false =>
      simp only[cond_false];refine (congrArg (λo=>BG o _) u).trans ?_;simp only[BD];refine (congrArg (λo=>BG o _) (pT K (im n) 1 w.2.2.2.2.2.1 w.2.2.2.2.1 w.2.2.1 _ r)).trans rfl
  |false =>
   simp only[cond_false];cases w.2.1==4 with
   |true=>exact (congrArg (λo=>BG o _) (pT K n 5 w.2.2.1 0 n.1 (aa.table n) (cL h.x.table))).trans rfl
   |false =>
    simp only[cond_false];cases w.2.1==2 with
    |true=>exact (congrArg (λo=>BG o _) (ack_s K n w h z y)).trans rfl
    |false=>rfl
theorem xL {K:Nat}{n:aa}{w:aq}(h:UpN n)(u:cD (aq.coord w))(r:1048577<K):UpN (fP K n w).1/\(fP K n w).1.1=n.1/\(fP K n w).1.2.2.1=n.2.2.1:=by
 unfold fP;cases w.2.1==1 <;> cases w.2.1==3 <;> cases w.2.1==4 <;> cases w.2.1==2 <;> cases ao w.2.2.2.2.2.1 != ao n.1 <;> cases w.2.2.2.2.2.1==n.1 <;> cases w.2.2.2.2.2.1==w.2.2.1 <;> first|exact⟨h,rfl,rfl⟩|exact⟨h.way,rfl,rfl⟩|exact Bh h u r
open Classical in
noncomputable def dF (K:Nat)(n:aa)(w:aq):aa×List aq :=
 if iQ w/\pS n w then (if w.2.1=6 then gL n w else fP K (ji n (aq.table w) w.2.2.1) w) else (n,[])
theorem mm {n:aa}{w:aq}(H:iQ w)(h:pS n w)(z:w.2.1≠6):cf (aq.table w) (ao n.1)/\fF n w.2.2.1:=by
 obtain⟨_,_,w3,_,_,_,_,_,u⟩:=H;rw[if_neg z]at u;obtain⟨_,_,_,_,r⟩:=h;by_cases y:w.1=2
 ·rw[if_pos y]at r;exact absurd r.1 z
 ·rw[if_neg y]at r;exact⟨r.1 ▸ u,w3,r.1⟩
theorem Bi (K:Nat)(n:aa)(w:aq)(h:n.2.1=true->UpN n)(I:(aq.table w).length<=1048576)(z:1048577<K):Q184.f K (n,w,())=some (((dF K n w).1,(dF K n w).2,()),()):=by
 simp only[Q184.f];obtain⟨Y,e1,X⟩:=sP K w I z;obtain⟨Z,e2,O⟩:=Ar K n w I z;rw[e1];cases Y with
 |false =>
  unfold dF;rw[if_neg λh=>by have:=X.2 h.1;cases this];rfl
 |true =>
  have y:=X.1 rfl;simp only[rb,BD,BK,cond_false];refine (congrArg (λo=>BG o _) e2).trans ?_;cases Z with
  |false =>
   unfold dF;rw[if_neg λh=>by have:=O.2 h.2;cases this];rfl
  |true =>
   have H:=O.1 rfl;have J:=h H.1;simp only[rb,BD,BK,cond_false];unfold dF;rw[if_pos ⟨y,H⟩];have r:=y.2.2.2.2.2.2.2.1;by_cases u:w.2.1=6
   ·rw[if_pos u,show (w.2.1==6)=true by simpa using u];have M:=y.2.2.2.2.2.2.2.2;rw[if_pos u]at M;exact (congrArg (λo=>BG o _) (xK K n w J r M z)).trans rfl
   ·rw[if_neg u,show (w.2.1==6)=false by simpa using u];obtain⟨hs,R⟩:=mm y H u;have hl:=(ml J H.2.1 r hs R).1;refine (congrArg (λo=>BG o _) (uW K n (aq.table w) w.2.2.1 J.learns r.1 I R.1 z)).trans ?_;exact (congrArg (λo=>BG o _) (zg K _ w hl y.2.2.2.2.2.2.1 z)).trans rfl
theorem u9 {K:Nat}{n:aa}{w:aq}(h:UpN n)(R:1048577<K):UpN (dF K n w).1/\(dF K n w).1.1=n.1/\(dF K n w).1.2.2.1=n.2.2.1:=by
 unfold dF;split
 ·rename_i X;obtain⟨y,u⟩:=X;have r:=y.2.2.2.2.2.2.2.1;split
  ·rename_i I;have J:=y.2.2.2.2.2.2.2.2;rw[if_pos I]at J;rw[u.2.1];exact vZ h u.2.1 r J
  ·rename_i I;obtain⟨M,O⟩:=mm y u I;have z:=ml h u.2.1 r M O;have H:=xL (w:=w) z.1 y.2.2.2.2.2.2.1 R;exact⟨H.1,H.2.1.trans z.2.1,H.2.2.trans (z.2.2.trans u.2.1.symm)⟩
 ·exact⟨h,rfl,rfl⟩
theorem pW {K:Nat}{n:aa}{w:aq}(h:UpN n)(hK:1048577<K):(dF K n w).2.length<=1/\∀ x∈(dF K n w).2,InP x.2.2.2.1 0 7/\(aq.table x).length<=1048576:=by
 unfold dF;split
 ·rename_i R;obtain⟨u,J⟩:=R;have y:=u.2.2.2.2.2.2.2.1;split
  ·rename_i H;have I:=u.2.2.2.2.2.2.2.2;rw[if_pos H]at I;obtain⟨O,a2,a3⟩:=m9 (n:=n) h.x.others y I;unfold gL;cases nR (aq.table w) (ao n.1) with
   |true=>exact⟨by simp,by simp⟩
   |false =>
    simp only[cond_false];cases w.1==2&&decide (aq.table w≠fQ n w) with
    |false=>exact⟨by simp,by simp⟩
    |true=>exact⟨by simp,λx r=>by rw[BH.1 r];exact⟨u.2.2.1,cL O⟩⟩
  ·rename_i H;obtain⟨Z,hb⟩:=mm u J H;have M:=ml h J.2.1 y Z hb;have Y:=cL (kl M.1.x.say w.2.2.2.2.2.1);have z:=cL M.1.x.table;have w3:=u.2.2.1;have X:=u.2.2.2.2.2.1;generalize ji n (aq.table w) w.2.2.1=m at *;unfold fP;cases w.2.1==1 <;> cases w.2.1==3 <;> cases w.2.1==4 <;> cases w.2.1==2 <;> cases ao w.2.2.2.2.2.1 != ao m.1 <;> cases w.2.2.2.2.2.1==m.1 <;> cases w.2.2.2.2.2.1==w.2.2.1 <;>
    first|exact⟨CD _,λx r=>by rw[BH.1 r];exact⟨X,Y⟩⟩|exact⟨CD _,λx r=>by rw[BH.1 r];exact⟨w3,z⟩⟩|exact⟨BW _,λx r=>nomatch r⟩
 ·exact⟨by simp,by simp⟩
theorem ux {n:aa}(h:∀ k,k<8->¬ gJ n k):gW n=none:=by
 unfold gW;rw[List.find?_eq_none];intro x r;obtain⟨k,u,rfl⟩:=BS.1 r;have:=h k (by simpa using u);unfold gJ at this;simpa using this
theorem uy {n:aa}{k:Nat}(y:k<8)(r:gJ n k)(h:∀ j,j<k->¬ gJ n j):gW n=some (bh n k):=by
 unfold gW;rw[List.find?_map,List.find?_range_eq_some.2 ⟨?_,by simpa using y,λj u=>?_⟩]
 ·rfl
 ·unfold gJ at r;simpa using r
 ·have:=h j u;unfold gJ at this;simpa[Classical.or_iff_not_imp_left]using this
theorem va (K:Nat)(n:aa)(h:b8 n)(M:tj n)(J:1048577<K):Q201.f K (n,())=some (((dQ n).1,(dQ n).2,()),()):=by
 obtain⟨⟨Y,Z⟩,⟨t0,t1⟩⟩:=M;obtain⟨to,X,y⟩:=uZ K n h t0 t1 J;simp only[Q201.f,zcp4];rw[X];simp only[BD,dQ];by_cases r:di n>=999999
 ·rw[decide_eq_true r,show decide (n.2.2.2.2.2.2.1>=999999)=true from decide_eq_true r];cases decide (to<0) <;> rfl
 ·rw[decide_eq_false r,show decide (n.2.2.2.2.2.2.1>=999999)=false from decide_eq_false r];simp only[cond_false];rcases y with ⟨rfl,H⟩|⟨k,O,z,I,rfl⟩
  ·rw[ux H];rfl
  ·rw[uy O z I];have R:0<=bh n k/\bh n k<8:=⟨CX _ (by omega),CQ _ (by omega)⟩;rw[decide_eq_false (by omega:¬ bh n k<0)];simp only[cond_false];rw[qy K n _ h J];simp only[BD];have u:wr .i64 (di n+1)=di n+1:=aG (by omega) (by omega);rw[show wr .i64 ((im n).2.2.2.2.2.2.1+1)=n.2.2.2.2.2.2.1+1 from u,aG (n:=bh n k+1) (by omega) (by omega)];simp only[Q153.f];rw[szb _ _ _ (by omega) (by have:=cL (kl h (bh n k));simp;omega)];rfl
def hI (w:aq):Prop:=InP w.2.2.2.1 0 7/\(aq.table w).length<=1048576
theorem tv {n:aa}(y:az (aa.table n)):(aW n).2.length<=2/\∀ w∈(aW n).2,hI w:=by
 have r:([]:List aq).length<=2/\∀ w∈([]:List aq),hI w:=⟨by simp,by simp⟩;unfold aW;cases (aa.probe n).1==-1 with
 |true=>exact r
 |false =>
  cases !cN (aD (aa.table n) (aa.probe n).1) with
  |true=>exact r
  |false =>
   cases decide (n.2.2.2.2.2.1-(aa.probe n).2.1>=4) with
   |true=>exact r
   |false =>
    cases decide (n.2.2.2.2.2.1-(aa.probe n).2.1>=2) with
    |false=>exact r
    |true =>
     cases !(aa.probe n).2.2.2 with
     |false=>exact r
     |true =>
      simp only[cond_true,cond_false];refine⟨by rw[B5];exact CN _ _,λw H=>?_⟩;obtain⟨to,u,rfl⟩:=BS.1 H;obtain⟨f,z,rfl⟩:=BS.1 (BZ u);exact⟨(y.1 f (B6.1 z).1).1,BW _⟩
theorem zM {n:aa}(h:b8 n):(dQ n).2.length<=1/\∀ w∈(dQ n).2,hI w:=by
 have r:([]:List aq).length<=1/\∀ w∈([]:List aq),hI w:=⟨by simp,by simp⟩;unfold dQ;cases decide (di n>=999999) with
 |true=>exact r
 |false =>
  simp only[cond_false];cases u:gW n with
  |none=>exact r
  |some to =>
   refine⟨by simp,λw z=>?_⟩;rw[BH.1 z];obtain⟨H,y,I⟩:=da h.table (fm (rh u).2);exact⟨y ▸ H.1,cL (kl h to)⟩
theorem Bj {n:aa}(I:c9 n.1 (aa.others n)){s d:Int}(z:InP s 0 1):InP (iW n s d) 0 7:=by
 unfold iW;cases y:decide (dN (dm (aa.others n) s)≠[])&&aR .i64 d 4==0 with
 |true =>
  rw[CT,decide_eq_true_eq]at y;have:=(eL (d:=CK d (2 ^ 3)) y.1).2.2;unfold dN at this;obtain⟨f,H,e⟩:=BS.1 (BZ this);simp only[cond_true];show InP (gK (dN (dm (aa.others n) s)) (CK d (2 ^ 3))) 0 7;unfold dN;rw[<- e];exact ((tr I s).1 f (B6.1 H).1).1
 |false =>
  obtain⟨r,u⟩:=lK (a:=CK d (2 ^ 3)) (m:=3) (by omega);have r:0<=aR .i64 (CK d (2 ^ 3)) 3:=r;have u:aR .i64 (CK d (2 ^ 3)) 3<=3:=u;obtain⟨J,M⟩:=z;simp only[cond_false];exact⟨by omega,by omega⟩
theorem vd {n:aa}(I:az (aa.table n))(J:c9 n.1 (aa.others n))(r:Int):(e8 n r).length<=2/\∀ w∈e8 n r,hI w:=by
 have u:([]:List aq).length<=2/\∀ w∈([]:List aq),hI w:=⟨by simp,by simp⟩;unfold e8;cases aR .i64 r 3==1 with
 |true =>
  simp only[cond_true,ip];cases iI n with
  |false=>exact u
  |true =>
   refine⟨?_,λw z=>?_⟩
   ·show ((([0,1]:List Int).filter (λs=>s != ao n.1)).map _).length<=2;rw[B5];exact CB _ _
   ·obtain⟨s,M,rfl⟩:=BS.1 z;refine⟨Bj J ?_,cL I⟩;have:=(B6.1 M).1;simp at this;rcases this with rfl|rfl <;> exact⟨by decide,by decide⟩
 |false =>
  simp only[cond_false];by_cases y:ce n=[]
  ·rw[decide_eq_true y,Bool.or_true];exact u
  ·rw[decide_eq_false y,Bool.or_false];obtain⟨f,O,e⟩:=BS.1 (eL (d:=CK r (2 ^ 2)) y).2.2;have H:InP (gK (ce n) (CK r (2 ^ 2))) 0 7:=by
    rw[<- e];exact (I.1 f (B6.1 O).1).1
   cases aR .i64 r 3==3 with
   |true=>exact u
   |false =>
    simp only[cond_false];cases aR .i64 r 3==0 with
    |true=>exact⟨by simp,λw z=>by rw[BH.1 z];exact⟨H,cL I⟩⟩
    |false =>
     simp only[cond_false,mY]
     match R:aa.others n with
     |[]=>exact u
     |x::_=>exact⟨by simp,λw z=>by rw[BH.1 z];exact⟨H,cL (J.1 x (by rw[R];simp)).2.2.2.1⟩⟩
theorem UpX.far {n:aa}(h:UpX n):hH n:=⟨by rcases mW h.me h.others with e|⟨x,e⟩ <;> rw[e] <;> simp,λx r=>⟨(h.others.1 x r).2.2.2.1,cL (h.others.1 x r).2.2.2.1⟩⟩
theorem rm {n:aa}(h:UpX n)(I:aQ n<=1000000):((aa.probe n).1=-1\/0<=(aa.probe n).1)/\0<=(aa.probe n).2.1/\(aa.probe n).2.1<=1000000:=by
 have r:=h.probe;have u:aQ n=n.2.2.2.2.2.1:=rfl;unfold cC at r;split at r
 ·rename_i J;rw[r];exact⟨.inl rfl,by show (0:Int)<=0;omega,by show (0:Int)<=1000000;omega⟩
 ·obtain⟨_,⟨f,z,e⟩,⟨y,H⟩,_⟩:=r;have:=(h.table.1 f z).1.1;exact⟨.inr (e ▸ this),y,by omega⟩
theorem Bk {n:aa}(h:UpN n)(y:aQ n<999999)(r:Int):(mj n r).length<=5/\∀ w∈mj n r,hI w:=by
 have M:=(mZ h.x.later (show dh (cF n) from h.self)).1.table;obtain⟨H,R⟩:=tv M;obtain⟨O,_,_⟩:=pM h y;have z:=(km h y).1;obtain⟨X,I⟩:=vd z.x.table z.x.others r;have J:(dv (eN n).1).2.length<=1/\∀ w∈(dv (eN n).1).2,hI w:=by
  unfold dv;cases (aa.probe (eN n).1).1==-1 with
  |true=>exact zM O.x.say
  |false=>exact⟨by simp,by simp⟩
 unfold mj;have H:(eN n).2.length<=2:=H;refine⟨by rw[BL,BL];omega,λw u=>?_⟩;rcases BM.1 u with u|u
 ·rcases BM.1 u with u|u
  ·exact R w u
  ·exact J.2 w u
 ·exact I w u
theorem xM (K:Nat)(n:aa)(H:Int)(h:UpN n)(hg:n.2.2.1=false)(hm:aQ n<999999)(Y:1048577<K):Q208.f K (n,H,())=some ((cS n,mj n H,()),()):=by
 have a3:=h.x.now0;simp only[Q208.f,zcp4];refine (congrArg (λb=>bif !b then _ else _) h.up).trans ?_;refine (congrArg (λb=>bif b then _ else _) hg).trans ?_;refine (congrArg (λb=>bif b then _ else _) (decide_eq_false (show ¬ n.2.2.2.2.2.1>=999999 by have:aQ n=n.2.2.2.2.2.1:=rfl;omega))).trans ?_;simp only[cond_false];rw[show wr .i64 (n.2.2.2.2.2.1+1)=n.2.2.2.2.2.1+1 from aG (by have:aQ n=n.2.2.2.2.2.1:=rfl;omega) (by have:aQ n=n.2.2.2.2.2.1:=rfl;omega)];have hl:UpX (cF n):=h.x.later;have a1:∀ d∈aa.doubts (cF n),0<=d.2.2.1/\d.2.2.1<=(cF n).2.2.2.2.2.1/\d.2.2.2.length<=1048576:=λd hd=>by
  obtain⟨_,⟨s0,s1⟩,_,h4⟩:=hl.doubts.1 d hd;exact⟨s0,s1,BO (iS (k:=λx=>x) h4.2 λx hx=>(h4.1 x hx).1) (by decide)⟩
 have Z:∀ d∈aa.doubts (cF n),∃ f∈aa.table (cF n),f.1=d.1:=λd hd=>by
  obtain⟨⟨f,hf,e,_⟩,_⟩:=hl.doubts.1 d hd;exact⟨f,hf,e⟩
 have X:(cF n).2.2.2.2.2.1<=1000000:=by show aQ n+1<=1000000;omega
 refine (congrArg (λo=>BG o _) (xf K (cF n) ⟨hl.say,Z,rfl⟩ a1 X Y)).trans ?_;simp only[BD];obtain⟨b1,b2,t,c,ds,eb⟩:=mZ hl (show dh (cF n) from h.self);have z:tj (eN n).1:=(pM h hm).1.seq;have a0:aQ (cW (cF n))=aQ n+1:=by rw[eb];rfl
 have hp:=rm b1 (by omega);obtain⟨a2,_⟩:=tv b1.table;have R:=(km h hm).1;have r:=xx K (cS n) H R.x.far R.x.table (cL R.x.table) Y;have u:=(pM h hm).1;obtain⟨M,_⟩:=zM u.x.say;obtain⟨y,_⟩:=vd R.x.table R.x.others H;unfold cS dv eN at r R y;unfold eN at z u M;unfold mj cS dv eN;generalize cW (cF n)=m at *;rcases hp.1 with O|O
 ·have e0:aW m=(m,[]):=by unfold aW;rw[show ((aa.probe m).1==-1)=true by simpa using O];rfl
  rw[e0]at r z u M y ⊢;refine (congrArg (λb=>bif b then _ else _) (decide_eq_false (show ¬ m.2.2.2.2.2.2.2.2.2.2.1.1>=0 by have:(aa.probe m).1=m.2.2.2.2.2.2.2.2.2.2.1.1:=rfl;omega))).trans ?_;refine (congrArg (λb=>bif b then _ else _) (decide_eq_true (show m.2.2.2.2.2.2.2.2.2.2.1.1<0 by have:(aa.probe m).1=m.2.2.2.2.2.2.2.2.2.2.1.1:=rfl;omega))).trans ?_;refine (congrArg (λo=>BG o _) (va K m u.x.say z Y)).trans ?_;simp only[BD];rw[show ((aa.probe m).1==-1)=true by simpa using O]at r y ⊢;simp only[cond_true]at r y M ⊢;rw[szw _ _ _ (by omega) (by simp;omega)];simp only[cond_true];refine (congrArg (λo=>BG o _) r).trans ?_;simp only[BD];rw[szw _ _ _ (by omega) (by simp;omega)];rfl
 ·refine (congrArg (λb=>bif b then _ else _) (decide_eq_true (show m.2.2.2.2.2.2.2.2.2.2.1.1>=0 from O))).trans ?_;refine (congrArg (λo=>BG o _) (xi K m b1.say (by omega) hp.2.1 hp.2.2 b1.now0 (by have:aQ m=m.2.2.2.2.2.1:=rfl;omega) Y)).trans ?_;simp only[BD];generalize aW m=fo at *;obtain⟨J,ws⟩:=fo;simp only at r z u M y a2 ⊢;have I:=(rm u.x (by have:=u.now1;omega)).1;rcases I with I|I
  ·refine (congrArg (λb=>bif b then _ else _) (decide_eq_true (show J.2.2.2.2.2.2.2.2.2.2.1.1<0 by have:(aa.probe J).1=J.2.2.2.2.2.2.2.2.2.2.1.1:=rfl;omega))).trans ?_;refine (congrArg (λo=>BG o _) (va K J u.x.say z Y)).trans ?_;simp only[BD];rw[show ((aa.probe J).1==-1)=true by simpa using I]at r y ⊢;simp only[cond_true]at r y ⊢;rw[szw _ _ _ (by omega) (by omega)];simp only[cond_true];refine (congrArg (λo=>BG o _) r).trans ?_;simp only[BD];rw[szw _ _ _ (by omega) (by rw[BL];omega)];rfl
  ·refine (congrArg (λb=>bif b then _ else _) (decide_eq_false (show ¬ J.2.2.2.2.2.2.2.2.2.2.1.1<0 by have:(aa.probe J).1=J.2.2.2.2.2.2.2.2.2.2.1.1:=rfl;omega))).trans ?_;rw[show ((aa.probe J).1==-1)=false by simp;omega]at r y ⊢;simp only[cond_false]at r y ⊢;refine (congrArg (λo=>BG o _) r).trans ?_;simp only[BD,CE];rw[szw _ _ _ (by omega) (by omega)];rfl
theorem tw (K:Nat)(l:List af)(f:af)(M:l.length<=1048576)(J:1048577<K):Ret (Q188.f K (l,f,())) (f∈l):=by
 have:=ci (step:=λrec a=>Q188.s0 K (l,f,()) rec a) l.length (λi=>(i:Int)) (λj=>∃ h:j<l.length,l[j]=f) (rb false) (λ_=>rb true) ?_ ?_ l.length K 0 (by omega) (by omega)
 ·rcases this with ⟨I,r⟩|⟨j,_,_,⟨y,H⟩,_,r⟩
  ·refine⟨false,r,?_⟩;refine⟨λh=>absurd h (by decide),λz=>?_⟩;obtain⟨i,u,e⟩:=B3 z;exact absurd ⟨u,e⟩ (I i (BW _) u)
  ·exact⟨true,r,λ_=>H ▸ BN y,λ_=>rfl⟩
 ·intro rec i u;simp only[Q188.s0];rw[bq (by omega:(i:Int)<(BF l:Int)),ag u,ar i (by omega)];simp only[cond_true,BD];rw[jF];by_cases h:l[i]=f
  ·rw[decide_eq_true h];exact .inr ⟨⟨u,h⟩,rfl⟩
  ·rw[decide_eq_false h];exact .inl ⟨λ⟨_,r⟩=>h r,rfl⟩
 ·intro rec;simp only[Q188.s0,aT];rfl
theorem UpN.nb {n:aa}(h:UpN n):NB n where
 table:=cL h.x.table
 cast:=by have:=clen h.x.say;omega
 doubts:=h.x.say.ld
 by_:=λd u=>by have:=(h.learns.by_ d u).len;omega
 places:=plen h.x.places
 trips:=λp y=>by have:=(h.x.places.1 p y).2.2.2.2.1.2;omega
 others:=olen h.x.others
 facts:=λx r=>cL (h.x.others.1 x r).2.2.2.1
def jv (r:Int)(g:Bool):aa:=(r,false,false,g,0,0,0,0,[],[],(0,0,0,false),[],(0,0,0,0),[],[])
structure dV (i:Nat) (n:aa):Prop where
 me:n.1=(i:Int)
 lt:i<8
 up:n.2.1=true->UpN n
 down:n.2.1=false->n=jv n.1 n.2.2.2.1
theorem dV.nb {i:Nat}{n:aa}(h:dV i n):NB n:=by
 cases r:n.2.1 with
 |true=>exact (h.up r).nb
 |false =>
  rw[h.down r];exact⟨by simp[jv,aa.table],by simp[jv,aa.cast],by simp[jv,aa.doubts],by simp[jv,aa.doubts],by simp[jv,aa.places],by simp[jv,aa.places],by simp[jv,aa.others],by simp[jv,aa.others]⟩
theorem dV.short {i:Nat}{n:aa}(h:dV i n):(aa.table n).length<=4:=by
 cases r:n.2.1 with
 |true=>exact ut (h.up r).x.table (h.up r).x.site
 |false=>rw[h.down r];exact BW _
theorem dV.of {i:Nat}{n m:aa}(h:dV i n)(r:UpN m)(e:m.1=n.1):dV i m:=⟨e.trans h.me,h.lt,λ_=>r,λu=>by rw[r.up]at u;cases u⟩
def gM (l:List lJ):Prop:=l.length<=60/\∀ f∈l,InP f.1 0 7/\f.2.1.size<=2000
structure WI (w:bY) (c:Nat):Prop where
 len:w.1.length=8
 node:∀ (i:Nat) (h:i<w.1.length),dV i w.1[i]
 radio:gM w.2.1
 sides:w.2.2.1.length=8
 born:w.2.2.2.length<=c
theorem WI.mono {w:bY}{c d:Nat}(h:WI w c)(r:c<=d):WI w d:=⟨h.len,h.node,h.radio,h.sides,BO h.born r⟩
theorem WI.put {w:bY}{c:Nat}(h:WI w c){i:Nat}{n:aa}(z:dV i n){rd:List lJ}(u:gM rd){b:List af}{d:Nat}(y:b.length<=d):WI (w.1.set i n,rd,w.2.2.1,b) d:=by
 refine⟨by rw[BR];exact h.len,λj r=>?_,u,h.sides,y⟩;show dV j ((w.1.set i n)[j]'r);rw[List.getElem_set];split
 ·rename_i e;exact e ▸ z
 ·exact h.node j _
theorem xN (K:Nat)(w:bY)(Z:Int)(u:List aq)(hs:w.2.2.1.length=8)(y:InP Z 0 7)(M:∀ x∈u,hI x)(hr:gM w.2.1)(hl:u.length<=1000)(hK:1048577<K) :
  Tot (Q185.f K (w,Z,u,())) λr=>∃ rd,gM rd/\r.1.1=(w.1,rd,w.2.2):=by
 simp only[Q185.f,Q185.pre];obtain⟨f0,f1⟩:=y;refine Tot.iter (step:=λrec a=>Q185.s0 K (w,Z,u,()) rec a) (λa=>0<=a.1/\a.1<=u.length/\gM a.2) (λa=>u.length-a.1.toNat) ?_ K _ (by show u.length-BI 0<K;omega) ⟨by show (0:Int)<=0;omega,by show (0:Int)<=_;omega,hr⟩;rintro rec ⟨i,rd⟩ ⟨I,h1,H⟩ ih;simp only at I h1 H ih ⊢;simp only[Q185.s0];refine Tot.cnd (λh=>?_) λ_=>Tot.ret ⟨rd,H,rfl⟩
 have h:=of_decide_eq_true h;rw[aG (n:=i+1) (by omega) (by omega)];have O:∀ z,gM z->Tot (rec (i+1,z)) λr=>∃ rd,gM rd/\r.1.1=(w.1,rd,w.2.2):=λz Y=>ih _ ⟨by show 0<=i+1;omega,by show i+1<=_;omega,Y⟩ (by show u.length-BI (i+1)<u.length-BI i;omega)
 refine Tot.cnd (λh3=>?_) λ_=>O rd H
 have h3:=of_decide_eq_true h3;refine Tot.ix f0 (by omega) λ_ _ _=>Tot.ix I h λy2 J _=>?_
 obtain⟨⟨t0,t1⟩,_⟩:=M y2 J;refine Tot.ix t0 (by omega) λ_ _ _=>Tot.cnd (λ_=>Tot.fit (Tot.ix I h λy4 X _=>Tot.ix I h λy5 R _=>Tot.bind (ol K y5 (M y5 R).2 hK) λv hv=>Tot.fit (O _ ⟨?_,λf y=>?_⟩) (by omega) ?_) (by omega) ?_) λ_=>O rd H
 ·simp;omega
 ·rcases BM.1 y with y|y
  ·exact H.2 f (by simpa using y)
  ·rw[BH.1 y];exact⟨(M y4 X).1,by show v.1.1.size<=2000;have:=hv.1;omega⟩
 ·simp;omega
 ·simp;omega
theorem Tot.ins {α:Type}{l:List α}{x:α}{a:Int}{c:Nat}{Q:(List α×Unit)×Unit->Prop}(u:0<=a)(H:a<=l.length)(y:l.length<=1048576)(z:c<=64)(k:∀ r:List α,r.length=l.length+1->Q ((r,()),())) :
  Tot (bif decide ((0:Int)<=0)&&decide (0<=a)&&decide (a<=(BF l:Int))&&true then (bif decide ((BF ([]:List α)+BF ((l.take (BI a)).drop (BI 0)))*c<=ak) then (bif decide ((BF ([]++((l.take (BI a)).drop (BI 0)))+BF ([x]))*c<=ak) then (bif decide (0<=a)&&decide (a<=(BF l:Int))&&decide ((BF l:Int)<=(BF l:Int))&&true then (bif decide ((BF (([]++((l.take (BI a)).drop (BI 0)))++([x]))+BF ((l.take (BI (BF l:Int))).drop (BI a)))*c<=ak) then (some (((([]++((l.take (BI a)).drop (BI 0)))++([x]))++((l.take (BI (BF l:Int))).drop (BI a)),()),())) else none) else none) else none) else none) else none) Q:=by
 obtain⟨m,rfl⟩:=BV u;refine Tot.must (by simp;omega) (Tot.fit (Tot.fit (Tot.must (by simp;omega) (Tot.fit (Tot.ret (k _ ?_)) (by omega) ?_)) (by omega) ?_) (by omega) ?_) <;>
 simp only[BJ,B9,BY,BQ,BL,BU,CL,CV,B7] <;> omega
theorem zh (K:Nat)(f g:af):Tot (Q186.f K (f,g,())) λ_=>True:=by
 simp only[Q186.f];exact Tot.cnd (λ_=>Tot.ret trivial) λ_=>Tot.bind (sN K g f).tot λ_ _=>Tot.ret trivial
theorem xO (K:Nat)(l:List af)(f:af)(I:l.length<=1048576)(R:1048577<K):Tot (Q187.f K (l,f,())) λr=>r.1.1.length<=l.length+1:=by
 simp only[Q187.f,Q187.pre];refine Tot.iter (A:=Int) (step:=λrec a=>Q187.s0 K (l,f,()) rec a) (λa=>0<=a/\a<=l.length) (λa=>l.length-a.toNat) ?_ K _ (by show l.length-BI 0<K;omega) ⟨by show (0:Int)<=0;omega,by show (0:Int)<=_;omega⟩;rintro rec i ⟨H,z⟩ J;simp only[Q187.s0];have u:=λ (z:i<=l.length)=>Tot.ins (x:=f) (c:=32) (Q:=λr=>r.1.1.length<=l.length+1) H z I (by omega) λr O=>by show r.length<=_;omega
 have y:l.length<=l.length+1:=CM _;refine Tot.cnd (λh=>?_) λ_=>Tot.cnd (λh=>Tot.ix H (of_decide_eq_true h) λ_ _ _=>Tot.cnd (λ_=>Tot.ret y) λ_=>u z) λ_=>u z
 have h:i<(l.length:Int):=of_decide_eq_true h;rw[aG (n:=i+1) (by omega) (by omega)];refine Tot.ix H h λM _ _=>Tot.bind (zh K M f) λ_ _=>Tot.cnd (λ_=>J (i+1) ⟨by show 0<=i+1;omega,by show i+1<=(l.length:Int);omega⟩ (by show l.length-BI (i+1)<l.length-BI i;omega)) λ_=>Tot.cnd (λ_=>Tot.ix H h λ_ _ _=>Tot.cnd (λ_=>Tot.ret y) λ_=>u z) λ_=>u z
theorem zN (K:Nat)(w:bY)(z y u:List af)(h1:z.length<=1048576)(Z:y.length<=1048576)(h3:u.length<=100)(hb:w.2.2.2.length<=1000000)(M:1048577<K) :
  Tot (Q189.f K (w,z,y,u,())) λr=>∃ b,b.length<=w.2.2.2.length+u.length/\r.1.1=(w.1,w.2.1,w.2.2.1,b):=by
 simp only[Q189.f,Q189.pre];refine Tot.iter (step:=λrec a=>Q189.s0 K (w,z,y,u,()) rec a) (λa=>0<=a.1/\a.1<=u.length/\(a.2.length:Int)<=w.2.2.2.length+a.1) (λa=>u.length-a.1.toNat) ?_ K _ (by show u.length-BI 0<K;omega) ⟨by show (0:Int)<=0;omega,by show (0:Int)<=_;omega,by show (w.2.2.2.length:Int)<=w.2.2.2.length+0;omega⟩;rintro rec ⟨i,b⟩ ⟨I,i1,Y⟩ O;simp only at I i1 Y O ⊢;simp only[Q189.s0];refine Tot.cnd (λh=>?_) λ_=>Tot.ret ⟨b,by omega,rfl⟩
 have h:=of_decide_eq_true h;rw[aG (n:=i+1) (by omega) (by omega)];have J:∀ H:List af,H.length<=b.length+1->Tot (rec (i+1,H)) λr=>∃ b,b.length<=w.2.2.2.length+u.length/\r.1.1=(w.1,w.2.1,w.2.2.1,b):=λH R=>O _ ⟨by show 0<=i+1;omega,by show i+1<=_;omega,by show (H.length:Int)<=_+(i+1);omega⟩ (by show u.length-BI (i+1)<u.length-BI i;omega)
 refine Tot.ix I h λy1 _ _=>Tot.bind (tw K z y1 h1 M).tot λ_ _=>Tot.cnd (λ_=>?_) λ_=>J b (CM _)
 refine Tot.ix I h λX _ _=>Tot.bind (tw K y X Z M).tot λ_ _=>Tot.cnd (λ_=>?_) λ_=>J b (CM _)
 exact Tot.ix I h λy5 _ _=>Tot.bind (xO K b y5 (by omega) M) λv hv=>J v.1.1 hv
structure zO (w:bY) (i:Nat) (n:aa) (ws:List aq) (heard:List af) (c:Nat):Prop where
 wi:WI w c
 lt:i<8
 n:dV i n
 sent:∀ x∈ws,hI x
 wl:ws.length<=1000
 hl:heard.length<=1048576
 c:c<=1000000
theorem set_t (K:Nat)(w:bY)(i:Nat)(n:aa)(H:List aq)(u:List af)(c:Nat)(h:zO w i n H u c)(I:1048577<K):Tot (Q190.f K ((w,i),n,H,u,())) λr=>WI r.1.1 (c+4):=by
 simp only[Q190.f];have y:i<w.1.length:=by rw[h.wi.len];exact h.lt
 have O:=h.c;have M:=h.wi.born;have J:=h.n.short;rw[h.n.me];refine Tot.vl (ag y) (Tot.vl (by rw[BJ];exact ag y) (Tot.vl (ag y) (Tot.vl (by rw[BJ];exact ag y) ?_)));refine Tot.must (by simp) ?_;rw[BJ];refine Tot.bind (zN K (w.1.set i n,w.2) (aa.table w.1[i]) u (aa.table n) (h.wi.node i y).nb.table h.hl (by omega) (by show w.2.2.2.length<=_;omega) I) ?_;rintro⟨⟨v,⟨⟩⟩,⟨⟩⟩ ⟨b,z,rfl⟩;refine Tot.bind (xN K (w.1.set i n,w.2.1,w.2.2.1,b) (i:Int) H h.wi.sides ⟨by omega,by have:=h.lt;omega⟩ h.sent h.wi.radio h.wl I) ?_;rintro⟨⟨v,⟨⟩⟩,⟨⟩⟩ ⟨rd,hr,rfl⟩;have z:b.length<=w.2.2.2.length+(aa.table n).length:=z;exact Tot.ret (h.wi.put h.n hr (by omega))
theorem Bl (K:Nat)(w:bY)(i:Nat)(n:aa)(H:List aq)(u:List af)(c:Nat)(h:zO w i n H u c)(I:1048577<K):Tot (Q209.f K (w,n,H,u,())) λr=>WI r.1.1 (c+4):=by
 simp only[Q209.f];have y:i<w.1.length:=by rw[h.wi.len];exact h.lt
 have O:=h.c;have M:=h.wi.born;have J:=h.n.short;rw[h.n.me];refine Tot.vl (ag y) (Tot.vl (by rw[BJ];exact ag y) (Tot.vl (ag y) (Tot.vl (by rw[BJ];exact ag y) ?_)));rw[BJ];refine Tot.bind (zN K (w.1.set i n,w.2) (aa.table w.1[i]) u (aa.table n) (h.wi.node i y).nb.table h.hl (by omega) (by show w.2.2.2.length<=_;omega) I) ?_;rintro⟨⟨v,⟨⟩⟩,⟨⟩⟩ ⟨b,z,rfl⟩;refine Tot.bind (xN K (w.1.set i n,w.2.1,w.2.2.1,b) (i:Int) H h.wi.sides ⟨by omega,by have:=h.lt;omega⟩ h.sent h.wi.radio h.wl I) ?_;rintro⟨⟨v,⟨⟩⟩,⟨⟩⟩ ⟨rd,hr,rfl⟩;have z:b.length<=w.2.2.2.length+(aa.table n).length:=z;exact Tot.ret (h.wi.put h.n hr (by omega))
theorem rq (K:Nat)(l:List lJ)(at_:Int)(z:0<=at_)(I:at_<l.length)(y:gM l):Tot (Q151.f K (l,at_,())) λr=>gM r.1.1:=by
 have H:=y.1;obtain⟨m,rfl⟩:=BV z;simp only[Q151.f];rw[ar m (by omega)];refine Tot.must (by simp;omega) (Tot.fit (Tot.must (by simp;omega) (Tot.fit (Tot.ret ⟨?_,λf u=>y.2 f ?_⟩) (by omega) ?_)) (by omega) ?_)
 ·simp only[BJ,B9,BY,BQ,BL,BU,CL];omega
 ·simp only[BJ,B9,BY,BQ,CC]at u;rcases BM.1 u with u|u
  ·exact BZ u
  ·exact List.mem_of_mem_drop u
 ·simp only[BJ,B9,BY,BQ,BL,BU,CL];omega
 ·simp only[BJ,B9,BY,BQ,BU,B7];omega
theorem rr (K:Nat)(w:bY)(c:Nat)(h:WI w c)(Y:c<=1000000)(to:Int)(t0:0<=to)(t1:to<=7)(x:aq)(X:iQ x)(H:1048577<K){G:aa->aa->Option ((bY×Unit)×Unit)}
  (hG:∀ y:aa,G y y=(Q184.f K (y,x,())).bind λI=>(Q190.f K ((w,BI to),I.1.1,I.1.2.1,aq.table x,())).bind λR=>some ((R.1.1,()),())) :
  Tot ((idx w.1 to).bind λ_=>(idx w.1 (BI to:Nat)).bind λO=>(idx w.1 (BI to:Nat)).bind λM=>G O M) λr=>WI r.1.1 (c+4):=by
 obtain⟨i,rfl⟩:=BV t0;have J:i<w.1.length:=by rw[h.len];omega
 have z:=h.node i J;refine Tot.vl (ag J) (Tot.vl (by rw[BJ];exact ag J) (Tot.vl (by rw[BJ];exact ag J) ?_));rw[hG,Bi K w.1[i] x z.up (cL X.2.2.2.2.2.2.2.1) H];simp only[BD,BJ];refine Tot.bind (set_t K w i _ _ _ c ⟨h,z.lt,?_,?_,?_,cL X.2.2.2.2.2.2.2.1,Y⟩ H) λv Z=>Tot.ret Z
 ·cases u:w.1[i].2.1 with
  |true=>exact z.of (u9 (z.up u) H).1 (u9 (z.up u) H).2.1
  |false =>
   rw[show dF K w.1[i] x=(w.1[i],[]) by unfold dF;rw[if_neg λh=>by have:=h.2.1;rw[u]at this;cases this]];exact z
 ·cases u:w.1[i].2.1 with
  |true=>exact λy hy=>(pW (z.up u) H).2 y hy
  |false =>
   rw[show dF K w.1[i] x=(w.1[i],[]) by unfold dF;rw[if_neg λh=>by have:=h.2.1;rw[u]at this;cases this]];simp
 ·cases u:w.1[i].2.1 with
  |true=>have:=(pW (w:=x) (z.up u) H).1;omega
  |false =>
   rw[show dF K w.1[i] x=(w.1[i],[]) by unfold dF;rw[if_neg λh=>by have:=h.2.1;rw[u]at this;cases this]];simp
theorem Au (K:Nat)(w:bY)(c:Nat)(h:WI w c)(hc:c<=1000000)(at_:Int)(keep:Bool)(h0:0<=at_)(h1:at_<w.2.1.length)(X:1048577<K):Tot (Q191.f K (w,at_,keep,())) λr=>WI r.1.1 (c+4):=by
 simp only[Q191.f,zcp8];refine Tot.ix2 h0 h1 λf hf _=>?_
 obtain⟨⟨t0,t1⟩,a0⟩:=h.radio.2 f hf;have hs:=h.sides;refine Tot.cnd (λ_=>Tot.bind (rq K w.2.1 at_ h0 h1 h.radio) ?_) λ_=>Tot.bind (pP K f.2.1 (by omega) X) ?_
 ·rintro⟨⟨rd,⟨⟩⟩,⟨⟩⟩ hr;have J:WI (w.1,rd,w.2.2) (c+4):=⟨h.len,h.node,hr,h.sides,BO h.born (by omega)⟩;refine Tot.bind (pP K f.2.1 (by omega) X) ?_;rintro⟨⟨(x:aq),ok,⟨⟩⟩,⟨⟩⟩ H;refine Tot.cnd (λ_=>Tot.ret J) λY=>?_
  have H:iQ x:=H (by simpa using Y);obtain⟨M,Z⟩:=H.2.2.1;have R:x.2.2.1<(w.2.2.1.length:Int):=by rw[hs];omega
  refine Tot.ix2 M R λ_ _ _=>Tot.ix2 t0 (by omega) λ_ _ _=>Tot.cnd (λ_=>Tot.ret J) λ_=>Tot.cnd (λ_=>Tot.ret J) λ_=>?_
  exact rr K (w.1,rd,w.2.2) c ⟨h.len,h.node,hr,h.sides,h.born⟩ hc f.1 t0 t1 x H X (G:=λu I=>(Q184.f K ((u.1,(u.2.1,(u.2.2.1,(u.2.2.2.1,(u.2.2.2.2.1,(u.2.2.2.2.2.1,(u.2.2.2.2.2.2.1,(u.2.2.2.2.2.2.2.1,(u.2.2.2.2.2.2.2.2.1,(u.2.2.2.2.2.2.2.2.2.1,(u.2.2.2.2.2.2.2.2.2.2.1,(I.2.2.2.2.2.2.2.2.2.2.2.1,u.2.2.2.2.2.2.2.2.2.2.2.2)))))))))))),x,())).bind λz=>(Q190.f K (((w.1,rd,w.2.2),BI f.1),z.1.1,z.1.2.1,aq.table x,())).bind λO=>some ((O.1.1,()),())) λy=>rfl
 ·rintro⟨⟨(x:aq),ok,⟨⟩⟩,⟨⟩⟩ H;have J:WI w (c+4):=h.mono (by omega);refine Tot.cnd (λ_=>Tot.ret J) λY=>?_
  have H:iQ x:=H (by simpa using Y);obtain⟨M,Z⟩:=H.2.2.1;have R:x.2.2.1<(w.2.2.1.length:Int):=by rw[hs];omega
  refine Tot.ix2 M R λ_ _ _=>Tot.ix2 t0 (by omega) λ_ _ _=>Tot.cnd (λ_=>Tot.ret J) λ_=>Tot.cnd (λ_=>Tot.ret J) λ_=>?_
  exact rr K w c h hc f.1 t0 t1 x H X (G:=λu I=>(Q184.f K ((u.1,(u.2.1,(u.2.2.1,(u.2.2.2.1,(u.2.2.2.2.1,(u.2.2.2.2.2.1,(u.2.2.2.2.2.2.1,(u.2.2.2.2.2.2.2.1,(u.2.2.2.2.2.2.2.2.1,(u.2.2.2.2.2.2.2.2.2.1,(u.2.2.2.2.2.2.2.2.2.2.1,(I.2.2.2.2.2.2.2.2.2.2.2.1,u.2.2.2.2.2.2.2.2.2.2.2.2)))))))))))),x,())).bind λz=>(Q190.f K (((w.1,w.2),BI f.1),z.1.1,z.1.2.1,aq.table x,())).bind λO=>some ((O.1.1,()),())) λy=>rfl
theorem Av (K:Nat)(w:bY)(c:Nat)(h:WI w c)(at_ u:Int)(M:0<=at_)(X:at_<w.2.1.length):Tot (Q192.f K (w,at_,u,())) λr=>WI r.1.1 c:=by
 simp only[Q192.f];refine Tot.ix2 M X λf Y _=>?_
 obtain⟨I,H⟩:=h.radio.2 f Y;refine Tot.cnd (λ_=>Tot.ret h) λ_=>Tot.cnd (λ_=>Tot.ret h) λZ=>?_
 have z:¬ (f.2.1.size:Int)=0:=by simpa using Z
 obtain⟨y,b1⟩:=lK (a:=u) (m:=4095) (by omega);have y:0<=aR .i64 u 4095:=y;have O:0<=CA (aR .i64 u 4095) (f.2.1.size:Int):=CX _ y;have R:CA (aR .i64 u 4095) (f.2.1.size:Int)<((ey f.2.1).length:Int):=by rw[rj];exact CQ _ (by omega)
 refine Tot.not (decide_eq_false z) (Tot.ix2 O R λ_ _ _=>Tot.ix2 O R λ_ _ _=>Tot.ix2 M X λ_ _ _=>Tot.ret ⟨h.len,h.node,⟨?_,λg J=>?_⟩,h.sides,h.born⟩)
 ·show (w.2.1.set _ _).length<=60;rw[BR];exact h.radio.1
 ·rcases List.mem_or_eq_of_mem_set J with J|rfl
  ·exact h.radio.2 g J
  ·refine⟨I,?_⟩;show (gF _).size<=2000;rw[iX,BR,rj];exact H
def mn (i:Int)(g:Bool):aa:=(i,true,false,g,0,0,0,0,[(i,0,1,g)],[],(-1,0,0,false),[],(0,0,0,1500),[],[])
theorem Aw {i:Int}{g:Bool}(h:InP i 0 7):UpN (mn i g):=by
 refine⟨⟨h,CI _,⟨λf y=>?_,List.pairwise_singleton _ _⟩,λf y=>?_,⟨λx r=>(nomatch r),List.Pairwise.nil⟩,λx r=>(nomatch r),?_,⟨λd z=>(nomatch z),List.Pairwise.nil,rfl⟩,⟨?_,?_,?_,?_⟩,⟨λp u=>(nomatch u),List.Pairwise.nil⟩,⟨λp u=>(nomatch u),List.Pairwise.nil⟩⟩,?_,?_,⟨?_,?_⟩,?_,rfl⟩
 ·rw[BH.1 y];exact⟨h,⟨by show (0:Int)<=0;omega,by show (0:Int)<=999;omega⟩,by show (1:Int)<=1;omega,by show (1:Int)<=4;omega⟩
 ·rw[BH.1 y];rfl
 ·unfold cC;rw[if_pos (show (aa.probe (mn i g)).1=-1 from rfl)];rfl
 ·exact⟨by show (-100000:Int)<=0;omega,by show (0:Int)<=100000;omega⟩
 ·exact⟨by show (-100000:Int)<=0;omega,by show (0:Int)<=100000;omega⟩
 ·exact⟨by show (0:Int)<=0;omega,by show (0:Int)<=100000;omega⟩
 ·exact⟨by show (1:Int)<=1500;omega,by show (1500:Int)<=1500;omega⟩
 ·exact BH.2 rfl
 ·show (0:Int)<=999999;omega
 ·exact⟨by show (0:Int)<=0;omega,by show (0:Int)<=999999;omega⟩
 ·exact⟨by show (0:Int)<=0;omega,by show (0:Int)<=8;omega⟩
 ·exact⟨by show (0:Int)<=0;omega,by show (0:Int)<=999;omega⟩
theorem ru (K:Nat)(i:Int)(g:Bool)(h:InP i 0 7):Q131.f K (i,g,())=some ((mn i g,()),()):=by
 simp only[Q131.f];obtain⟨b,e,r⟩:=cB K i 0 7;rw[e,r.2 h];rfl
theorem dV.new (i:Nat)(g:Bool)(h:i<8):dV i (mn (i:Int) g):=⟨rfl,h,λ_=>Aw ⟨by omega,by omega⟩,λr=>by cases r⟩
theorem Bm (K:Nat)(w:bY)(c:Nat)(h:WI w c)(O:c<=1000000)(u:Int)(y:InP u 0 7)(I:1048577<K):Tot (Q211.f K (w,u,())) λr=>WI r.1.1 (c+4):=by
 have M:=h.born;have H:u.toNat<8:=by obtain⟨a,b⟩:=y;omega
 have z:=h.len;simp only[Q211.f,Q120.f,BD];rw[ru K u _ y];simp only[BD];refine Tot.ix2 y.1 (by have:=y.2;omega) λ_ _ _=>?_
 refine Tot.vl (show idx (mn u (decide (CA u 4<3))).2.2.2.2.2.2.2.2.1 0=some (u,0,1,decide (CA u 4<3)) from rfl) (Tot.bind (xO K w.2.2.2 _ (by omega) I) λv J=>Tot.ret (h.put ?_ h.radio (by omega)));have:=dV.new u.toNat (decide (CA u 4<3)) H
 rwa [CO y.1]at this
theorem Ax {n:aa}(h:UpN n):(lI n).length<=8/\∀ x∈lI n,hI x:=by
 unfold lI;refine⟨?_,λx u=>?_⟩
 ·rw[B5];exact BO (CB _ _) (iS h.x.table.2 λf r=>(h.x.table.1 f r).1)
 ·obtain⟨f,r,rfl⟩:=BS.1 u;exact⟨(h.x.table.1 f (B6.1 r).1).1,cL h.x.table⟩
theorem Bn (K:Nat)(w:bY)(c:Nat)(h:WI w c)(hc:c<=1000000)(e:af)(h0:InP e.2.1 0 7)(O:1048577<K):Tot (Q213.f K (w,e,())) λr=>WI r.1.1 (c+4):=by
 have a0:=h.len;have hs:=h.sides;obtain⟨a1,a2,u,keep⟩:=e;obtain⟨e0,e1⟩:=h0;simp only at e0 e1;obtain⟨i,rfl⟩:=BV e0;have Z:i<w.1.length:=by omega
 have M:=h.node i Z;have y:=h.mono (show c<=c+4 by omega);simp only[Q213.f];refine Tot.vl (ag Z) (Tot.vl (by rw[BJ];exact ag Z) ?_);generalize w.1[i]=n at M ⊢;refine Tot.cnd (λ_=>?_) λ_=>Tot.cnd (λ_=>?_) λ_=>Tot.cnd (λ_=>?_) λ_=>?_
 ·
  rw[zL];simp only[BD];exact Tot.ix2 (by omega) (by omega) λ_ _ _=>Tot.ret ⟨y.len,y.node,y.radio,by show (w.2.2.1.set _ _).length=8;rw[BR];exact h.sides,y.born⟩
 ·
  simp only[Q210.f,BD];refine Tot.ix2 (by omega) (by omega) λ_ _ _=>Tot.ret (y.put (i:=i) (n:=jv n.1 n.2.2.2.1) ?_ y.radio y.born)
  exact⟨M.me,M.lt,λJ=>(by cases J),λ_=>rfl⟩
 ·
  exact Tot.cnd (λ_=>Tot.ret y) λ_=>Tot.bind (Bm K w c h hc (i:Int) ⟨by omega,by omega⟩ O) λv z=>Tot.ret z
 ·refine Tot.cnd (λ_=>Tot.ret y) λJ=>Tot.cnd (λ_=>Tot.ret y) λY=>?_
  have J:n.2.1=true:=by simpa using J
  have H:=M.up J;have set:=λ (m:aa) (R:List aq) (I:UpN m) (em:m.1=n.1) (X:∀ x∈R,hI x) (hl:R.length<=1000)=>Bl K w i m R [] c ⟨h,M.lt,M.of I em,X,hl,BW _,hc⟩ O
  refine Tot.cnd (λ_=>?_) λ_=>Tot.cnd (λ_=>?_) λ_=>Tot.cnd (λ_=>?_) λ_=>Tot.ret y
  ·refine Tot.cnd (λ_=>Tot.ret y) λI=>?_
   have I:aQ n<999999:=by have I:¬ n.2.2.2.2.2.1>=999999:=of_decide_eq_false I;show n.2.2.2.2.2.1<999999;omega
   obtain⟨t1,t2,_⟩:=km H I;obtain⟨w1,w2⟩:=Bk H I u;exact Tot.vl (xM K n u H Y I O) (Tot.bind (set _ _ t1 t2 w2 (BO w1 (by omega))) λv z=>Tot.ret z)
  ·obtain⟨t1,t2⟩:=za H Y;obtain⟨w1,w2⟩:=Ax t1;exact Tot.vl (Ac K n H.nb H.ok J Y O) (Tot.bind (set _ _ t1 t2 w2 (BO w1 (by omega))) λv z=>Tot.ret z)
  ·refine Tot.bind (cB K u 0 7).tot λv z=>Tot.cnd (λ_=>Tot.ret y) λh1=>Tot.cnd (λ_=>Tot.ret y) λ_=>?_
   have hd:InP u 0 7:=z.1 (by simpa using h1);rw[eJ K,eJ K];simp only[BD];refine Tot.cnd (λ_=>Tot.ret y) λ_=>?_
   refine Tot.vl (nP K n 4 u (cL H.x.table)) (Tot.bind (set n _ H rfl (λx hx=>?_) (by simp)) λv z=>Tot.ret z);rw[BH.1 hx];exact⟨hd,cL H.x.table⟩
theorem do_t (K:Nat)(w:bY)(c:Nat)(h:WI w c)(R:c<=1000000)(e:af)(O:1048577<K):Tot (Q215.f K (w,e,())) λr=>WI r.1.1 (c+4):=by
 have z:=h.mono (show c<=c+4 by omega);have hr:=h.radio.1;simp only[Q215.f];rw[aG (n:=(BF w.2.1:Int)-1) (by omega) (by omega)];have u:Tot ((Q12.f K (e.2.1,0,(BF w.2.1:Int)-1,())).bind λY=>bif !Y.1.1 then (some ((w,false,()),())) else (bif e.1==2 then ((Q191.f K (w,e.2.1,e.2.2.2,())).bind λX=>some ((X.1.1,true,()),())) else (bif e.1==4 then ((Q192.f K (w,e.2.1,e.2.2.1,())).bind λM=>some ((M.1.1,M.1.2.1,()),())) else ((Q151.f K (w.2.1,e.2.1,())).bind λZ=>some (((w.1,(Z.1.1,w.2.2)),true,()),()))))) λr=>WI r.1.1 (c+4):=by
  refine Tot.bind (cB K _ _ _).tot λv y=>Tot.cnd (λ_=>Tot.ret z) λJ=>?_
  obtain⟨I,H⟩:InP e.2.1 0 ((BF w.2.1:Int)-1):=y.1 (by simpa using J);have H:e.2.1<(w.2.1.length:Int):=by omega
  refine Tot.cnd (λ_=>Tot.bind (Au K w c h R e.2.1 e.2.2.2 I H O) λv y=>Tot.ret y) λ_=>Tot.cnd (λ_=>Tot.bind (Av K w c h e.2.1 e.2.2.1 I H) λv y=>Tot.ret (WI.mono y (by omega))) λ_=>?_
  exact Tot.bind (rq K w.2.1 e.2.1 I H h.radio) λv y=>Tot.ret ⟨z.len,z.node,y,z.sides,z.born⟩
 refine Tot.cnd (λ_=>u) λ_=>Tot.cnd (λ_=>u) λ_=>Tot.cnd (λ_=>u) λ_=>?_
 exact Tot.bind (cB K _ _ _).tot λv y=>Tot.cnd (λ_=>Tot.ret z) λJ=>Tot.bind (Bn K w c h R e (y.1 (by simpa using J)) O) λv y=>Tot.ret y
theorem zi (K:Nat)(w:bY)(Y:w.1.length<=1048576)(M:∀ n∈w.1,NB n)(R:w.2.1.length<=1048576)(O:w.2.2.1.length<=1048576)(X:w.2.2.2.length<=1048576)(z:1048577<K):Q216.f K (w,())=some ((w,()),()):=by
 simp only[Q216.f,Q216.pre];rw[szb _ _ _ (by omega) (by show (BF ([]:List lJ))+w.2.1.length<=_;simp;omega)];simp only[cond_true];rw[szb _ _ _ (by omega) (by show (BF ([]:List Int))+w.2.2.1.length<=_;simp;omega)];simp only[cond_true];rw[szb _ _ _ (by omega) (by show (BF ([]:List af))+w.2.2.2.length<=_;simp;omega)];simp only[cond_true];have:∀ (d i k:Nat),i+d=w.1.length->d<k->ae (λrec a=>Q216.s0 K (w,()) rec a) k ((i:Int),w.1.take i)=some ((w,()),()):=by
  intro d;induction d with
  |zero =>
   intro i k J y;obtain⟨k,rfl⟩:∃ u,k=u+1:=⟨k-1,by omega⟩;have:i=w.1.length:=by omega
   subst this;show Q216.s0 K (w,()) _ _=_;simp only[Q216.s0,aT,CC];rfl
  |succ d I =>
   intro i k J y;obtain⟨k,rfl⟩:∃ u,k=u+1:=⟨k-1,by omega⟩;have r:i<w.1.length:=by omega
   show Q216.s0 K (w,()) _ _=_;simp only[Q216.s0];rw[bq (by omega:(i:Int)<(BF w.1:Int)),ag r,ar i (by omega)];simp only[cond_true,BD];refine (congrArg (λo=>BG o _) (jG K w.1[i] (M _ (BN r)) z)).trans ?_;simp only[BD];have H:decide (((w.1.take i).length+[w.1[i]].length)*232<=ak)=true:=decide_eq_true (by
    rw[BU];simp only[CV,B7,ak];omega)
   refine (congrArg (λb=>bif b then _ else _) H).trans ?_;have e:w.1.take i++[w.1[i]]=w.1.take (i+1):=by rw[CG,B4 r];rfl
   rw[<- I (i+1) k (by omega) (by omega),<- e];rfl
 exact this w.1.length 0 K (by omega) (by omega)
theorem WI.copy {w:bY}{c:Nat}(h:WI w c)(I:c<=1000000)(K:Nat)(y:1048577<K):Q216.f K (w,())=some ((w,()),()):=by
 have M:=h.len;have H:=h.radio.1;have z:=h.sides;have J:=h.born;refine zi K w (by omega) (λn r=>?_) (by omega) (by omega) (by omega) y;obtain⟨i,u,rfl⟩:=B3 r;exact (h.node i u).nb
theorem Bo (K:Nat)(w:bY)(c:Nat)(y:List af)(h:WI w c)(hl:y.length<=1000)(Z:c<=900000)(O:1048577<K):Tot (Q217.f K (w,y,())) λr=>WI r.1.1 (c+4*y.length)/\r.2.1=y:=by
 simp only[Q217.f,Q217.pre];refine Tot.iter (step:=λrec a=>Q217.s0 K (w,y,()) rec a) (λa=>0<=a.1/\a.1<=y.length/\WI a.2 (c+4*a.1.toNat)) (λa=>y.length-a.1.toNat) ?_ K _ (by show y.length-BI 0<K;omega) ⟨by show (0:Int)<=0;omega,by show (0:Int)<=_;omega,h⟩;rintro rec ⟨i,v⟩ ⟨M,Y,H⟩ R;simp only at M Y H R ⊢;simp only[Q217.s0];refine Tot.cnd (λz=>?_) λ_=>Tot.ret ⟨WI.mono H (by omega),rfl⟩
 have z:i<(y.length:Int):=of_decide_eq_true z;rw[aG (n:=i+1) (by omega) (by omega)];refine Tot.vl (H.copy (by omega) K O) (Tot.ix2 M z λe _ _=>Tot.bind (do_t K v _ H (by omega) e O) ?_);rintro⟨⟨v',ok,⟨⟩⟩,⟨⟩⟩ I;have I:WI v' (c+4*i.toNat+4):=I;have J:∀ u:bY,WI u (c+4*i.toNat+4)->Tot (rec (i+1,u)) λr=>WI r.1.1 (c+4*y.length)/\r.2.1=y:=λu X=>R (i+1,u) ⟨by show 0<=i+1;omega,by show i+1<=_;omega,X.mono (by show _<=c+4*(i+1).toNat;omega)⟩ (by show y.length-BI (i+1)<y.length-BI i;omega)
 exact Tot.cnd (λ_=>J v' I) λ_=>J v (H.mono (by omega))
theorem wa (K:Nat)(hK:1048577<K):Tot (Q132.f K ()) λr=>WI r.1.1 8:=by
 simp only[Q132.f,Q132.pre];refine Tot.iter (step:=λrec a=>Q132.s0 K () rec a) (λa=>0<=a.1/\a.1<=8/\a.2.1.length=a.1.toNat/\(∀ (j:Nat) (y:j<a.2.1.length),dV j a.2.1[j])/\a.2.2.1.length=a.1.toNat/\a.2.2.2.length=a.1.toNat) (λa=>8-a.1.toNat) ?_ K _ (by show 8-BI 0<K;omega) ⟨by show (0:Int)<=0;omega,by show (0:Int)<=8;omega,rfl,λj y=>(by cases y),rfl,rfl⟩;rintro rec ⟨i,z,O,X⟩ ⟨I,h1,Z,H,h4,h5⟩ R;simp only at I h1 Z H h4 h5 R ⊢;simp only[Q132.s0];refine Tot.cnd (λu=>?_) λu=>?_
 ·have u:i<=7:=of_decide_eq_true u;rw[aG (n:=i+1) (by omega) (by omega)];simp only[Q120.f,BD];refine Tot.vl (ru K i _ ⟨I,u⟩) (Tot.fit (Tot.fit (Tot.vl (show idx (mn i (decide (CA i 4<3))).2.2.2.2.2.2.2.2.1 0=some (i,0,1,decide (CA i 4<3)) from rfl) (Tot.fit (R _ ⟨by show 0<=i+1;omega,by show i+1<=8;omega,?_,λj y=>?_,?_,?_⟩ (by show 8-BI (i+1)<8-BI i;omega)) (by omega) ?_)) (by omega) ?_) (by omega) ?_)
  ·show (z++[mn i _]).length=(i+1).toNat;simp;omega
  ·show dV j ((z++[mn i (decide (CA i 4<3))])[j]'y);rw[List.getElem_append];split
   ·exact H j _
   ·rename_i M;have y:j<(z++[mn i (decide (CA i 4<3))]).length:=y;have J:j=i.toNat:=by simp at y;omega
    subst J;have:=dV.new i.toNat (decide (CA i 4<3)) (by omega);rw[CO I]at this;simpa using this
  ·show (O++[0]).length=(i+1).toNat;simp;omega
  ·show (X++[_]).length=(i+1).toNat;simp;omega
  ·simp;omega
  ·simp;omega
  ·simp;omega
 ·have M:=of_decide_eq_false u;refine Tot.ret ⟨?_,H,⟨BW _,λf Y=>(nomatch Y)⟩,?_,?_⟩
  ·show z.length=8;omega
  ·show O.length=8;omega
  ·show X.length<=8;omega
abbrev LtP (v n:Int):Prop:=0<=v/\v<n
def bj (b:List Int)(m:Nat)(s:List Int×Int):Prop:=∃ q:Nat,q<=m/\s=(b,(q:Int))
theorem bj.up {b:List Int}{m:Nat}{s:List Int×Int}(h:bj b m s){m':Nat}(u:m<=m'):bj b m' s:=by obtain⟨q,y,r⟩:=h;exact⟨q,by omega,r⟩
section
variable {K:Nat} {b:List Int} {m:Nat} {s:List Int×Int}
theorem aH (h:fZ b)(u:bj b m s)(n:Int)(z:1<=n)(I:m<=99000):Tot (Q117.f K (s,n,())) λr=>LtP r.1.1 n/\bj b (m+1) r.2.1:=by
 obtain⟨q,J,rfl⟩:=u;obtain⟨v,e,H,y⟩:=Ag K b q n h (by omega) z;exact⟨_,e,⟨H,y⟩,q+1,by omega,rfl⟩
theorem Bp (r:List Int)(u:∀ y∈r,0<=y/\y<=255)(I:r.length<=9223372036854775807):∃ z:List Int,fZ z/\Q116.f K (r,())=some (((z,(0:Int)),()),()):=by
 simp only[Q116.f];by_cases h:(r.length:Int)>2000
 ·rw[decide_eq_true h,decide_eq_true (by omega:(2000:Int)<=(r.length:Int))];exact⟨(r.take 2000).drop 0,⟨λy H=>u y (BZ (by simpa using H)),by simp;omega⟩,rfl⟩
 ·rw[decide_eq_false h];exact⟨r,⟨u,by omega⟩,rfl⟩
theorem xP (h:fZ b)(Y:bj b m s)(u:Int)(h0:0<=u)(h1:u<=1)(hm:m<=98000):Tot (Q121.f K (s,u,())) λr=>(bA r.1.1/\ao r.1.1.1=u)/\bj b (m+5) r.2.1:=by
 simp only[Q121.f];refine Tot.bind (aH h Y 4 (by decide) (by omega)) λz ⟨⟨a1,b1⟩,Z⟩=>Tot.bind (aH h Z 3 (by decide) (by omega)) λv2 ⟨⟨a2,b2⟩,O⟩=>Tot.bind (aH h O 12 (by decide) (by omega)) λv3 ⟨⟨a3,b3⟩,s3⟩=>Tot.bind (aH h s3 3 (by decide) (by omega)) λv4 ⟨⟨J,X⟩,M⟩=>Tot.ix2 J X λy H _=>Tot.bind (aH h M 4 (by decide) (by omega)) λI ⟨⟨a5,b5⟩,R⟩=>?_
 simp only[Q120.f,BD];have H:InP y 0 999:=by
  simp only[CY,CW,or_false]at H;rcases H with rfl|rfl|rfl <;> constructor <;> omega
 rw[aG (n:=u*4) (by omega) (by omega),aG (n:=u*4+z.1.1) (by omega) (by omega),aG (n:=1+I.1.1) (by omega) (by omega)];refine Tot.ret ⟨⟨⟨⟨?_,?_⟩,H,?_,?_⟩,?_⟩,R⟩
 ·show (0:Int)<=u*4+z.1.1;omega
 ·show u*4+z.1.1<=7;omega
 ·show (1:Int)<=1+I.1.1;omega
 ·show (1:Int)+I.1.1<=4;omega
 ·show ao (u*4+z.1.1)=u;rw[kD ⟨by omega,by omega⟩];omega
theorem rv (h:fZ b)(X:bj b m s)(hm:m<=97000):Tot (Q123.f K (s,())) λr=>bj b (m+8) r.2.1:=by
 simp only[Q123.f];refine Tot.bind (aH h X 2 (by decide) (by omega)) λJ ⟨⟨I,b1⟩,Y⟩=>Tot.bind (xP h Y J.1.1 I (by omega) (by omega)) λf ⟨_,R⟩=>Tot.bind (aH h R 12 (by decide) (by omega)) λM ⟨_,H⟩=>?_
 have u:∀ {x y:Int} {G:(Int×Unit)×(List Int×Int)×Unit->Int->Option ((af×Unit)×(List Int×Int)×Unit)},(∀ v z,Tot (G v z) λr=>r.2.1=v.2.1)->Tot ((Q117.f K (M.2.1,2,())).bind λv=>(idx [x,y] v.1.1).bind λ_=>(idx [x,y] (BI v.1.1:Nat)).bind (G v)) λr=>bj b (m+8) r.2.1:=λZ=>Tot.bind (aH h H 2 (by decide) (by omega)) λv ⟨⟨a,b⟩,O⟩=>Tot.ix2 a b λz _ _=>(Z v z).mono λr e=>by rw[e];exact O.up (by omega)
 refine Tot.cnd (λ_=>u λ_ _=>Tot.ret rfl) λ_=>Tot.cnd (λ_=>u λ_ _=>Tot.ret rfl) λ_=>Tot.cnd (λ_=>u λ_ _=>Tot.ret rfl) λ_=>Tot.cnd (λ_=>Tot.ret (H.up (by omega))) λ_=>Tot.ret (H.up (by omega))
theorem xQ (t:List af)(f:af):(bT t f).1.length<=t.length+1:=by
 rcases gV t f with e|e
 ·rw[e];omega
 ·rw[e];exact yH
theorem wb {t:List af}{f:af}{z:Int}(h:cf t z)(u:ao f.1=z):cf (bT t f).1 z:=by
 rcases gV t f with e|e <;> rw[e]
 ·exact h
 ·intro g r;rcases a8.1 r with rfl|⟨r,_⟩
  ·exact u
  ·exact h g r
theorem ve (h:fZ b)(hs:bj b m s)(u:Int)(h0:-1<=u)(h1:u<=1)(hm:m<=96000)(hK:1048577<K):Tot (Q122.f K (s,u,())) λr=>(az r.1.1/\(0<=u->cf r.1.1 u)/\r.1.1.length<=5)/\bj b (m+31) r.2.1:=by
 simp only[Q122.f,Q122.pre];refine Tot.bind (aH h hs 6 (by decide) (by omega)) λv ⟨⟨v0,v1⟩,s1⟩=>?_
 refine Tot.iter (step:=λrec a=>Q122.s0 K (s,u,()) rec a) (λa=>∃ q:Nat,0<=a.2.1/\az a.1/\(0<=u->cf a.1 u)/\(a.1.length:Int)+a.2.1<=5/\bj b q a.2.2/\q+6*a.2.1.toNat<=m+31) (λa=>a.2.1.toNat) ?_ K _ (by show v.1.1.toNat<K;omega) ⟨m+1,v0,⟨by simp,List.Pairwise.nil⟩,λ_ f Z=>(nomatch Z),by show ((0:Nat):Int)+v.1.1<=5;omega,s1,by show m+1+6*v.1.1.toNat<=m+31;omega⟩;rintro rec ⟨t,n,s2⟩ ⟨q,n0,O,hS,hl,I,hq⟩ ih;simp only at n0 O hS hl I hq ih ⊢;simp only[Q122.s0];refine Tot.cnd (λhn=>?_) λ_=>Tot.ret ⟨⟨O,hS,by show t.length<=5;omega⟩,I.up (by omega)⟩
 have hn:n>0:=of_decide_eq_true hn;rw[aG (n:=n-1) (by omega) (by omega)];have go:∀ (z:Int) (J:Nat) (M:List Int×Int),0<=z->z<=1->(0<=u->z=u)->bj b J M->J<=q+1->Tot ((Q121.f K (M,z,())).bind λR=>(Q119.f K (t,R.1.1,())).bind λy4=>rec (y4.1.1,n-1,R.2.1.1,R.2.1.2)) λr=>(az r.1.1/\(0<=u->cf r.1.1 u)/\r.1.1.length<=5)/\bj b (m+31) r.2.1:=λz J M z0 z1 hz a0 a2=>by
  refine Tot.bind (xP h a0 z z0 z1 (by omega)) λy ⟨⟨Z,X⟩,a1⟩=>Tot.vl (vQ K t y.1.1 (by omega) O.2 hK) (ih (_,_,y.2.1) ⟨J+5,by show 0<=n-1;omega,kx O Z,λY=>wb (hS Y) (by rw[X];exact hz Y),?_,a1,by show J+5+6*(n-1).toNat<=m+31;omega⟩ (by show (n-1).toNat<n.toNat;omega))
  have:=xQ t y.1.1;show ((bT t y.1.1).1.length:Int)+(n-1)<=5;omega
 refine Tot.cnd (λH=>?_) λH=>?_
 ·have H:u<0:=of_decide_eq_true H;exact Tot.bind (aH h I 2 (by decide) (by omega)) λv ⟨⟨a,b⟩,M⟩=>go v.1.1 (q+1) v.2.1 a (by omega) (λY=>by omega) M (CD _)
 ·have H:¬ u<0:=of_decide_eq_false H;exact go u q s2 (by omega) h1 (λ_=>rfl) I (by omega)
theorem pX (h:fZ b)(X:bj b m s)(hm:m<=95000)(O:1048577<K):Tot (Q124.f K (s,())) λr=>r.1.1.length<=6/\bj b (m+42) r.2.1:=by
 simp only[Q124.f];refine Tot.bind (ve h X (-1) (by decide) (by decide) (by omega) O) λt ⟨⟨hT,_,hl⟩,J⟩=>?_
 refine Tot.cnd (λM=>?_) λ_=>Tot.ret ⟨by show t.1.1.length<=6;omega,J.up (by omega)⟩
 have M:(t.1.1.length:Int)>0:=of_decide_eq_true M;refine Tot.bind (aH h J 12 (by decide) (by omega)) λv2 ⟨_,I⟩=>Tot.cnd (λ_=>?_) λ_=>Tot.ret ⟨by show t.1.1.length<=6;omega,I.up (by omega)⟩
 refine Tot.bind (aH h I (t.1.1.length:Int) (by omega) (by omega)) λZ ⟨⟨H,z⟩,Y⟩=>Tot.bind (aH h Y 3 (by decide) (by omega)) λv4 ⟨_,u⟩=>?_
 refine Tot.cnd (λ_=>Tot.bind (rv h u (by omega)) λf R=>Tot.ix2 H z λ_ _ _=>Tot.ret ⟨by show (t.1.1.set _ _).length<=6;rw[BR];omega,R.up (by omega)⟩) λ_=>?_
 refine Tot.cnd (λ_=>Tot.ix2 H z λy _ _=>Tot.fit (Tot.ret ⟨by show (t.1.1++[y]).length<=6;simp;omega,u.up (by omega)⟩) (by omega) (by simp;omega)) λ_=>Tot.ix2 H z λy _ _=>Tot.ret ⟨by show (t.1.1.set _ _).length<=6;rw[BR];omega,u.up (by omega)⟩
theorem Ay (h:fZ b)(Z:bj b m s)(u:Int)(R:-1<=u)(h1:u<=1)(hm:m<=95000)(X:1048577<K):Tot (Q125.f K (s,u,())) λr=>r.1.1.length<=5/\bj b (m+36) r.2.1:=by
 simp only[Q125.f,Q125.pre];refine Tot.bind (ve h Z u R h1 (by omega) X) λt ⟨⟨hT,_,hl⟩,s1⟩=>?_
 refine Tot.iter (step:=λrec a=>Q125.s0 K (s,u,()) rec a) (λa=>a.2.1=t.1.1/\0<=a.2.2.1/\a.2.2.1<=t.1.1.length/\(a.1.length:Int)=a.2.2.1/\bj b (m+31+a.2.2.1.toNat) a.2.2.2) (λa=>t.1.1.length-a.2.2.1.toNat) ?_ K _ (by show t.1.1.length-BI 0<K;omega) ⟨rfl,by show (0:Int)<=0;omega,by show (0:Int)<=_;omega,rfl,s1⟩;rintro rec ⟨H,t',i,s2⟩ ⟨e,O,Y,J,z⟩ M;simp only at e O Y J z M ⊢;subst e;simp only[Q125.s0];refine Tot.cnd (λI=>?_) λ_=>Tot.ret ⟨by show H.length<=5;omega,z.up (by omega)⟩
 have I:i<(t.1.1.length:Int):=of_decide_eq_true I;rw[aG (n:=i+1) (by omega) (by omega)];refine Tot.ix2 O I λy _ _=>Tot.bind (aH h z 4 (by decide) (by omega)) λv ⟨_,s3⟩=>Tot.fit (M (_,_,_,v.2.1) ⟨rfl,by show 0<=i+1;omega,by show i+1<=_;omega,?_,s3.up (by show _<=m+31+(i+1).toNat;omega)⟩ (by show t.1.1.length-(i+1).toNat<t.1.1.length-i.toNat;omega)) (by omega) (by simp;omega)
 show ((H++[_]).length:Int)=i+1;simp;omega
theorem wc (h:fZ b)(Z:bj b m s)(hm:m<=94000)(R:1048577<K):Tot (Q126.f K (s,())) λr=>r.1.1.length<=6/\bj b (m+50) r.2.1:=by
 simp only[Q126.f];refine Tot.bind (Ay h Z (-1) (by decide) (by decide) (by omega) R) λt ⟨hl,M⟩=>?_
 refine Tot.cnd (λO=>?_) λ_=>Tot.ret ⟨by show t.1.1.length<=6;omega,M.up (by omega)⟩
 have O:(t.1.1.length:Int)>0:=of_decide_eq_true O;refine Tot.bind (aH h M 10 (by decide) (by omega)) λv2 ⟨_,J⟩=>Tot.cnd (λ_=>?_) λ_=>Tot.ret ⟨by show t.1.1.length<=6;omega,J.up (by omega)⟩
 refine Tot.bind (aH h J (t.1.1.length:Int) (by omega) (by omega)) λv3 ⟨⟨I,z⟩,s3⟩=>Tot.bind (aH h s3 3 (by decide) (by omega)) λv4 ⟨_,u⟩=>?_
 refine Tot.cnd (λ_=>Tot.bind (aH h u 2 (by decide) (by omega)) λv5 ⟨⟨Y,X⟩,H⟩=>Tot.ix2 Y X λ_ _ _=>Tot.ix2 I z λ_ _ _=>Tot.ret ⟨by show (t.1.1.set _ _).length<=6;rw[BR];omega,H.up (by omega)⟩) λ_=>?_
 refine Tot.cnd (λ_=>Tot.bind (rv h u (by omega)) λf H=>Tot.ix2 I z λ_ _ _=>Tot.ret ⟨by show (t.1.1.set _ _).length<=6;rw[BR];omega,H.up (by omega)⟩) λ_=>?_
 exact Tot.ix2 I z λy _ _=>Tot.fit (Tot.ret ⟨by show (t.1.1++[y]).length<=6;simp;omega,u.up (by omega)⟩) (by omega) (by simp;omega)
theorem xR (h:fZ b)(O:bj b m s)(hm:m<=95000):Tot (Q128.f K (s,())) λr=>bj b (m+6) r.2.1:=by
 simp only[Q128.f,Q127.f];refine Tot.bind (aH h O 6 (by decide) (by omega)) λv1 ⟨_,z⟩=>Tot.cnd (λ_=>Tot.ret (z.up (by omega))) λ_=>Tot.bind (aH h z 3 (by decide) (by omega)) λv3 ⟨⟨R,J⟩,Y⟩=>Tot.ix2 R J λy u _=>?_
 have u:InP y 10 100000:=by
  simp only[CY,CW,or_false]at u;rcases u with rfl|rfl|rfl <;> constructor <;> omega
 rw[aG (n:=2*y) (by omega) (by omega),aG (n:=2*y+1) (by omega) (by omega),aG (n:=y+1) (by omega) (by omega)];exact Tot.bind (aH h Y _ (by omega) (by omega)) λZ ⟨_,M⟩=>Tot.bind (aH h M _ (by omega) (by omega)) λv7 ⟨_,X⟩=>Tot.bind (aH h X _ (by omega) (by omega)) λv8 ⟨_,I⟩=>Tot.bind (aH h I _ (by decide) (by omega)) λv9 ⟨_,H⟩=>Tot.ret H
theorem pY (h:fZ b)(z:bj b m s)(I:m<=94000):Tot (Q129.f K (s,())) λr=>bj b (m+8) r.2.1:=by
 simp only[Q129.f];exact Tot.bind (xR h z (by omega)) λc H=>Tot.bind (aH h H 16 (by decide) (by omega)) λJ ⟨_,y⟩=>Tot.cnd (λ_=>Tot.bind (aH h y 3 (by decide) (by omega)) λv ⟨⟨a,b⟩,u⟩=>Tot.ix2 a b λ_ _ _=>Tot.ret u) λ_=>Tot.cnd (λ_=>Tot.bind (aH h y 2 (by decide) (by omega)) λv ⟨⟨a,b⟩,u⟩=>Tot.ix2 a b λ_ _ _=>Tot.ret u) λ_=>Tot.cnd (λ_=>Tot.bind (aH h y 2 (by decide) (by omega)) λv ⟨⟨a,b⟩,u⟩=>Tot.ix2 a b λ_ _ _=>Tot.ret u) λ_=>Tot.ret (y.up (by omega))
theorem xS (h:fZ b)(y:bj b m s)(w:bY)(I:m<=95000):Tot (Q218.f K (s,w,())) λr=>bj b (m+2) r.2.1:=by
 simp only[Q218.f];refine Tot.cnd (λ_=>Tot.ret (y.up (by omega))) λH=>?_
 have H:¬ (w.2.1.length:Int)=0:=by simpa using H
 refine Tot.bind (aH h y 3 (by decide) (by omega)) λJ ⟨_,z⟩=>Tot.cnd (λ_=>Tot.cnd (λ_=>Tot.bind (aH h z 4 (by decide) (by omega)) λv ⟨_,u⟩=>Tot.ret u) λ_=>?_) λ_=>?_ <;>
 exact Tot.bind (aH h z _ (by show (1:Int)<=(w.2.1.length:Int);omega) (by omega)) λv ⟨_,u⟩=>Tot.ret u
theorem Az (h:fZ b)(hs:bj b m s)(w:bY)(hm:m<=94000):Tot (Q219.f K (s,w,())) λr=>bj b (m+8) r.2.1:=by
 simp only[Q219.f];refine Tot.bind (aH h hs 8 (by decide) (by omega)) λv1 ⟨_,s1⟩=>Tot.bind (aH h s1 256 (by decide) (by omega)) λv2 ⟨_,Z⟩=>Tot.bind (aH h Z 16 (by decide) (by omega)) λv3 ⟨_,s3⟩=>Tot.bind (aH h s3 40 (by decide) (by omega)) λO ⟨_,y⟩=>?_
 have y:bj b (m+4) O.2.1:=y.up (by omega);generalize O.2.1=z at y ⊢;have Y:bj b (m+8) z:=y.up (by omega);have M:=xS (K:=K) h y w (by omega);have R:∀ n:Int,1<=n->Tot (Q117.f K (z,n,())) λr=>bj b (m+8) r.2.1:=λn J=>(aH h y n J (by omega)).mono λr I=>I.2.up (by omega)
 have X:∀ (H:List Int×Int) (n:Int),bj b (m+4+2) H->1<=n->Tot (Q117.f K (H,n,())) λr=>bj b (m+8) r.2.1:=λH n h1 J=>(aH h h1 n J (by omega)).mono λr I=>I.2.up (by omega)
 repeat' first
  |exact Tot.ret Y
  |exact Tot.bind M λv u=>Tot.ret (bj.up u (by omega))
  |exact Tot.bind M λv u=>Tot.bind (X _ _ u (by decide)) λv u=>Tot.ret u
  |exact Tot.bind (R _ (by decide)) λv u=>Tot.ret u
  |exact Tot.bind (R _ (by decide)) λv u=>Tot.cnd (λ_=>Tot.ret u) λ_=>Tot.ret u
  |refine Tot.cnd (λ_=>?_) λ_=>?_
theorem AA (h:fZ b)(hs:bj b m s)(y:Int)(h1:1<=y)(h2:y<=200)(hm:m<=90000)(Y:1048577<K):Tot (Q220.f K (s,y,())) λr=>(WI r.1.2.1 2000/\r.1.1.length<=300)/\bj b (m+8*y.toNat+2) r.2.1:=by
 simp only[Q220.f,Q220.pre];have O:∀ (H:List af) (n:Int) (z:List Int×Int) (w:bY) (q c:Nat),0<=n->n<y->H.length<=24->bj b q z->q<=m+2->WI w c->c<=200->Tot (Q220.l1 K (s,y,()) (H,n,z.1,z.2,w)) λr=>(WI r.1.2.1 2000/\r.1.1.length<=300)/\bj b (m+8*y.toNat+2) r.2.1:=λH n z w q c n0 n1 ho M hq I hc=>by
  refine Tot.iter (step:=λrec a=>Q220.s1 K (s,y,()) rec a) (λa=>∃ q c:Nat,0<=a.2.1/\a.2.1<y/\(a.1.length:Int)+a.2.1<=24+y/\bj b q (a.2.2.1,a.2.2.2.1)/\q+8*a.2.1.toNat<=m+8*y.toNat+2/\WI a.2.2.2.2 c/\c+4*a.2.1.toNat<=2000) (λa=>a.2.1.toNat) ?_ K _ (by show n.toNat<K;omega) ⟨q,c,n0,n1,by show (H.length:Int)+n<=_;omega,M,by show q+8*n.toNat<=_;omega,I,by show c+4*n.toNat<=2000;omega⟩;clear M hq I hc n0 n1 ho;rintro rec ⟨H,n,z1,z2,w⟩ ⟨q,c,n0,n1,ho,M,hq,I,hc⟩ Z;simp only at n0 n1 ho M hq I hc Z ⊢;simp only[Q220.s1];refine Tot.cnd (λhn=>?_) λ_=>Tot.vl (I.copy (by omega) K Y) (Tot.ret ⟨⟨I.mono (by omega),by show H.length<=300;omega⟩,M.up (by omega)⟩)
  have hn:n>0:=of_decide_eq_true hn;rw[aG (n:=n-1) (by omega) (by omega)];refine Tot.bind (Az h M w (by omega)) λe he=>Tot.fit (Tot.vl (I.copy (by omega) K Y) (Tot.bind (do_t K w c I (by omega) e.1.1 Y) ?_)) (by omega) (by simp;omega)
  rintro⟨⟨v',ok,⟨⟩⟩,⟨⟩⟩ hv;have X:∀ u:bY,WI u (c+4)->Tot (rec (H++[e.1.1],n-1,e.2.1.1,e.2.1.2,u)) λr=>(WI r.1.2.1 2000/\r.1.1.length<=300)/\bj b (m+8*y.toNat+2) r.2.1:=λu hu=>Z _ ⟨q+8,c+4,by show 0<=n-1;omega,by show n-1<y;omega,by show ((H++[e.1.1]).length:Int)+(n-1)<=_;simp;omega,he,by show q+8+8*(n-1).toNat<=_;omega,hu,by show c+4+4*(n-1).toNat<=2000;omega⟩ (by show (n-1).toNat<n.toNat;omega)
  exact Tot.cnd (λ_=>X v' hv) λ_=>X w (I.mono (by omega))
 refine Tot.bind (wa K Y) λw0 R=>Tot.bind (aH h hs 3 (by decide) (by omega)) λv2 ⟨_,s2⟩=>Tot.cnd (λ_=>?_) λ_=>Tot.bind (aH h s2 y h1 (by omega)) λv9 ⟨⟨a9,b9⟩,s9⟩=>O [] v9.1.1 v9.2.1 w0.1.1 (m+2) 8 a9 b9 (by simp) s9 (CD _) R (by omega)
 refine Tot.iter (step:=λrec a=>Q220.s0 K (s,y,()) (Q220.l1 K (s,y,())) rec a) (λa=>0<=a.2.1/\a.2.1<=8/\(a.1.length:Int)<=3*a.2.1/\bj b (m+1) (a.2.2.1,a.2.2.2.1)/\WI a.2.2.2.2 8) (λa=>8-a.2.1.toNat) ?_ K _ (by show 8-BI 0<K;omega) ⟨by show (0:Int)<=0;omega,by show (0:Int)<=8;omega,by show ((0:Nat):Int)<=3*0;omega,s2,R⟩;rintro rec ⟨H,i,z1,z2,w⟩ ⟨i0,i1,ho,M,I⟩ Z;simp only at i0 i1 ho M I Z ⊢;simp only[Q220.s0];refine Tot.cnd (λhi=>?_) λ_=>?_
 ·have hi:i<=7:=of_decide_eq_true hi;rw[aG (n:=i+1) (by omega) (by omega)];have X:∀ J:List af,(J.length:Int)<=3*(i+1)->Tot (rec (J,i+1,z1,z2,w)) λr=>(WI r.1.2.1 2000/\r.1.1.length<=300)/\bj b (m+8*y.toNat+2) r.2.1:=λJ a0=>Z _ ⟨by show 0<=i+1;omega,by show i+1<=8;omega,a0,M,I⟩ (by show 8-(i+1).toNat<8-i.toNat;omega)
  exact Tot.cnd (λ_=>Tot.fit (Tot.fit (X _ (by simp;omega)) (by omega) (by simp;omega)) (by omega) (by simp;omega)) λ_=>X H (by omega)
 ·refine Tot.bind (Bo K w 8 H I (by omega) (by omega) Y) λv ⟨hv,ev⟩=>Tot.bind (aH h M y h1 (by omega)) λv4 ⟨⟨a4,b4⟩,s4⟩=>?_
  exact O v.2.1 v4.1.1 v4.2.1 v.1.1 (m+1+1) _ a4 b4 (by rw[ev];omega) s4 (by omega) hv (by omega)
theorem AB (h:fZ b)(z:bj b m s)(y:m<=90000)(H:1048577<K):Tot (Q221.f K (s,())) λr=>WI r.1.1 2000/\bj b (m+802) r.2.1:=by
 simp only[Q221.f];exact Tot.bind (AA h z 100 (by decide) (by decide) y H) λv u=>Tot.ret ⟨u.1.1,u.2⟩
theorem zj (h:fZ b)(H:bj b m s)(z:m<=90000)(O:1048577<K):Tot (Q222.f K (s,())) λr=>(∃ i,dV i r.1.1)/\bj b (m+803) r.2.1:=by
 simp only[Q222.f];refine Tot.bind (AB h H z O) λw ⟨u,M⟩=>Tot.bind (aH h M _ (by have:=u.len;show (1:Int)<=(w.1.1.1.length:Int);omega) (by omega)) λv ⟨⟨a,b⟩,I⟩=>Tot.ix a b λy R _=>Tot.ret ⟨?_,I⟩
 obtain⟨i,J,rfl⟩:=B3 R;exact⟨i,u.node i J⟩
structure NS (c:Nat) (n:aa):Prop where
 nb:NB n
 table:(aa.table n).length<=c
 cast:(aa.cast n).length<=c
 doubts:(aa.doubts n).length<=c
 places:(aa.places n).length<=c
 others:(aa.others n).length<=c
theorem dV.ns {i:Nat}{n:aa}(h:dV i n):NS 8 n:=by
 cases y:n.2.1 with
 |true =>
  have r:=h.up y;refine⟨h.nb,by have:=h.short;omega,by have:=clen r.x.say;omega,?_,?_,?_⟩
  ·exact BO (iS r.x.say.asc r.x.say.inp) (by decide)
  ·exact BO (iS r.x.places.2 λx u=>(r.x.places.1 x u).1) (by decide)
  ·exact BO (iS r.x.others.2 λx u=>⟨(r.x.others.1 x u).1.1,Int.le_trans (r.x.others.1 x u).1.2 (by decide)⟩) (by decide)
 |false =>
  have e:=h.down y;refine⟨h.nb,?_,?_,?_,?_,?_⟩ <;> rw[e] <;> exact BW _
theorem xT (h:fZ b)(hs:bj b m s)(n:aa){c:Nat}(hn:NS c n)(h8:8<=c)(hc:c<=1000)(hm:m<=90000)(hK:1048577<K):Tot (Q130.f K (s,n,())) λr=>NS (c+1) r.1.1/\bj b (m+60) r.2.1:=by
 simp only[Q130.f,zcp4,zcp8];rw[jG K n hn.nb hK];simp only[BD];obtain⟨⟨Y,n2,Z,X,n5,R,n7,O⟩,l1,l2,l3,l4,l5⟩:=hn;refine Tot.bind (aH h hs 12 (by decide) (by omega)) λv2 ⟨_,I⟩=>?_
 have y:∀ (n':aa) (z:List Int×Int),n'.2.2.2.2.2.2.2.2=n.2.2.2.2.2.2.2.2->bj b (m+60) z->NS (c+1) n'/\bj b (m+60) z:=λn' z e hz=>by
  refine⟨⟨⟨?_,?_,?_,?_,?_,?_,?_,?_⟩,?_,?_,?_,?_,?_⟩,hz⟩ <;> simp only[aa.table,aa.cast,aa.doubts,aa.places,aa.others] <;> rw[e] <;> first|assumption|(refine BO ?_ (CM c);assumption)
 have u2:bj b (m+60) v2.2.1:=I.up (by omega);refine Tot.cnd (λ_=>Tot.bind (pX h I (by omega) hK) λt ⟨tl,J⟩=>Tot.ret ⟨⟨⟨by show t.1.1.length<=_;omega,n2,Z,X,n5,R,n7,O⟩,by show t.1.1.length<=_;omega,BE l2,BE l3,BE l4,BE l5⟩,J.up (by omega)⟩) λ_=>?_
 refine Tot.cnd (λ_=>Tot.bind (wc h I (by omega) hK) λt ⟨tl,J⟩=>Tot.ret ⟨⟨⟨Y,by show t.1.1.length<=_;omega,Z,X,n5,R,n7,O⟩,BE l1,by show t.1.1.length<=_;omega,BE l3,BE l4,BE l5⟩,J.up (by omega)⟩) λ_=>?_
 refine Tot.cnd (λ_=>Tot.ret (y _ _ rfl u2)) λ_=>?_
 refine Tot.cnd (λ_=>Tot.bind (aH h I 9 (by decide) (by omega)) λv5 ⟨_,s5⟩=>Tot.bind (aH h s5 3 (by decide) (by omega)) λv6 ⟨_,s6⟩=>Tot.bind (aH h s6 3 (by decide) (by omega)) λv7 ⟨_,s7⟩=>Tot.bind (aH h s7 2 (by decide) (by omega)) λv8 ⟨_,s8⟩=>Tot.ret ⟨⟨⟨Y,n2,Z,X,n5,R,n7,O⟩,BE l1,BE l2,BE l3,BE l4,BE l5⟩,s8.up (by omega)⟩) λ_=>?_
 refine Tot.cnd (λ_=>Tot.bind (aH h I 8 (by decide) (by omega)) λv9 ⟨_,M⟩=>Tot.bind (aH h M 8 (by decide) (by omega)) λa1 ⟨_,H⟩=>Tot.fit (Tot.ret ⟨⟨⟨Y,n2,?_,?_,n5,R,n7,O⟩,BE l1,BE l2,?_,BE l4,BE l5⟩,H.up (by omega)⟩) (by omega) ?_) λ_=>?_
 ·show (aa.doubts n++[_]).length<=_;simp;omega
 ·intro d u;rcases BM.1 u with u|u
  ·exact X d u
  ·rw[BH.1 u];show ([a1.1.1]:List Int).length<=_;simp
 ·show (aa.doubts n++[_]).length<=_;simp;omega
 ·show (aa.doubts n).length+_<=_;simp;omega
 refine Tot.cnd (λ_=>Tot.bind (pY h I (by omega)) λc J=>Tot.ret ⟨⟨⟨Y,n2,Z,X,n5,R,n7,O⟩,BE l1,BE l2,BE l3,BE l4,BE l5⟩,J.up (by omega)⟩) λ_=>?_
 refine Tot.cnd (λ_=>Tot.bind (aH h I 9 (by decide) (by omega)) λv9 ⟨_,M⟩=>Tot.bind (pY h M (by omega)) λc H=>Tot.bind (aH h H 3 (by decide) (by omega)) λa2 ⟨_,a0⟩=>Tot.fit (Tot.ret ⟨⟨⟨Y,n2,Z,X,?_,?_,n7,O⟩,BE l1,BE l2,BE l3,?_,BE l5⟩,a0.up (by omega)⟩) (by omega) ?_) λ_=>?_
 ·show (aa.places n++[_]).length<=_;simp;omega
 ·intro d u;rcases BM.1 u with u|u
  ·exact R d u
  ·rw[BH.1 u];show ([a2.1.1]:List Int).length<=_;simp
 ·show (aa.places n++[_]).length<=_;simp;omega
 ·show (aa.places n).length+_<=_;simp;omega
 refine Tot.cnd (λ_=>Tot.bind (aH h I 3 (by decide) (by omega)) λv9 ⟨_,M⟩=>Tot.bind (pX h M (by omega) hK) λt ⟨tl,H⟩=>Tot.fit (Tot.ret ⟨⟨⟨Y,n2,Z,X,n5,R,?_,?_⟩,BE l1,BE l2,BE l3,BE l4,?_⟩,H.up (by omega)⟩) (by omega) ?_) λ_=>?_
 ·show (aa.others n++[_]).length<=_;simp;omega
 ·intro d u;rcases BM.1 u with u|u
  ·exact O d u
  ·rw[BH.1 u];show t.1.1.length<=_;omega
 ·show (aa.others n++[_]).length<=_;simp;omega
 ·show (aa.others n).length+_<=_;simp;omega
 refine Tot.cnd (λ_=>Tot.ret (y _ _ rfl u2)) λ_=>Tot.cnd (λ_=>Tot.ret (y _ _ rfl u2)) λ_=>?_
 refine Tot.cnd (λ_=>Tot.bind (aH h I 3 (by decide) (by omega)) λv ⟨⟨a,b⟩,J⟩=>Tot.ix2 a b λ_ _ _=>Tot.ret (y _ _ rfl (J.up (by omega)))) λ_=>?_
 exact Tot.bind (aH h I 8 (by decide) (by omega)) λv9 ⟨_,M⟩=>Tot.bind (aH h M 3 (by decide) (by omega)) λv ⟨⟨a,b⟩,J⟩=>Tot.ix2 a b λ_ _ _=>Tot.ret (y _ _ rfl (J.up (by omega)))
end
section
variable {K:Nat} {b:List Int} {m:Nat} {s:List Int×Int}
theorem xU (h:fZ b)(R:bj b m s)(hm:m<=89000)(u:1048577<K):Tot (Q223.f K (s,())) λr=>NS 9 r.1.1/\bj b (m+864) r.2.1:=by
 simp only[Q223.f];refine Tot.bind (zj h R (by omega) u) λn ⟨⟨i,z⟩,Y⟩=>Tot.bind (aH h Y 20 (by decide) (by omega)) λv ⟨_,y⟩=>Tot.cnd (λ_=>Tot.bind (xT h y n.1.1 z.ns (CD _) (by omega) (by omega) u) λr O=>Tot.ret O) λ_=>Tot.ret ⟨?_,y.up (by omega)⟩
 obtain⟨Z,I,H,J,M,X⟩:=z.ns;exact⟨Z,BE I,BE H,BE J,BE M,BE X⟩
end
theorem bj.zero (b:List Int):bj b 0 (b,0):=⟨0,CD _,rfl⟩
structure xV (code:List Int):Prop where
 byte:∀ y∈code,0<=y/\y<=255
 len:code.length<=9223372036854775807
theorem om (K:Nat)(xs:List Int)(y:xs.length<=1048576)(z:1048577<K):Q228.f K (xs,xs,())=rb true:=by
 have r:Q228.l0 K (xs,xs,()) 0=rb true:=by
  refine eZ (step:=λrec a=>Q228.s0 K (xs,xs,()) rec a) xs.length (λi=>(i:Int)) (rb true) ?_ ?_ (by omega)
  ·intro rec i u;simp only[Q228.s0];rw[decide_eq_true (by omega:(i:Int)<(BF xs:Int)),ag u,ar i (by omega)];simp only[cond_true,BD,bne_self_eq_false,cond_false]
  ·intro rec;simp only[Q228.s0,aT];rfl
 simp only[Q228.f,Q228.pre,bne_self_eq_false,cond_false];exact r
theorem tx (K:Nat)(xs:List aM)(y:xs.length<=1048576)(z:1048577<K):Q227.f K (xs,xs,())=rb true:=by
 have r:Q227.l0 K (xs,xs,()) 0=rb true:=by
  refine eZ (step:=λrec a=>Q227.s0 K (xs,xs,()) rec a) xs.length (λi=>(i:Int)) (rb true) ?_ ?_ (by omega)
  ·intro rec i u;simp only[Q227.s0];rw[decide_eq_true (by omega:(i:Int)<(BF xs:Int)),ag u,ar i (by omega)];simp only[cond_true,BD];rw[show Ty.eqv t3 xs[i] xs[i]=true by
    show (Ty.eqv t2 xs[i].1 xs[i].1&&decide (xs[i].2=xs[i].2))=true;rw[show Ty.eqv t2 xs[i].1 xs[i].1=decide (xs[i].1=xs[i].1) from jF _ _,decide_eq_true rfl,decide_eq_true rfl];rfl]
   rfl
  ·intro rec;simp only[Q227.s0,aT];rfl
 simp only[Q227.f,Q227.pre,bne_self_eq_false,cond_false];exact r
theorem uz (K:Nat)(n:aa)(u:NB n)(y:1048577<K):Q229.f K (n,n,())=rb true:=by
 have I:Q229.l2 K (n,n,()) 0=rb true:=by
  have z:=u.others;refine eZ (step:=λrec a=>Q229.s2 K (n,n,()) rec a) (aa.others n).length (λi=>(i:Int)) (rb true) ?_ ?_ (by omega)
  ·intro rec i r;simp only[Q229.s2];rw[bq (by omega:(i:Int)<(BF (aa.others n):Int)),ag r,ar i (by omega)];simp only[cond_true,BD,bne_self_eq_false,cond_false];refine (congrArg (λo=>BG o _) (kA K _ (u.facts _ (BN r)) y)).trans rfl
  ·intro rec;simp only[Q229.s2,aT];rfl
 have J:Q229.l1 K (n,n,()) 0=rb true:=by
  have z:=u.places;refine eZ (step:=λrec a=>Q229.s1 K (n,n,()) (Q229.l2 K (n,n,())) rec a) (aa.places n).length (λi=>(i:Int)) (rb true) ?_ ?_ (by omega)
  ·intro rec i r;simp only[Q229.s1];rw[bq (by omega:(i:Int)<(BF (aa.places n):Int)),ag r,ar i (by omega)];simp only[cond_true,BD,bne_self_eq_false,cond_false];rw[show Ty.eqv t9 (aa.places n)[i].2.1 (aa.places n)[i].2.1=decide ((aa.places n)[i].2.1=(aa.places n)[i].2.1) from pB _ _,decide_eq_true rfl];simp only[BK,cond_false];refine (congrArg (λo=>BG o _) (om K _ (u.trips _ (BN r)) y)).trans rfl
  ·intro rec;simp only[Q229.s1,aT];exact I
 have H:Q229.l0 K (n,n,()) 0=rb true:=by
  have z:=u.doubts;refine eZ (step:=λrec a=>Q229.s0 K (n,n,()) (Q229.l1 K (n,n,())) rec a) (aa.doubts n).length (λi=>(i:Int)) (rb true) ?_ ?_ (by omega)
  ·intro rec i r;simp only[Q229.s0];rw[bq (by omega:(i:Int)<(BF (aa.doubts n):Int)),ag r,ar i (by omega)];simp only[cond_true,BD,bne_self_eq_false,cond_false];refine (congrArg (λo=>BG o _) (om K _ (u.by_ _ (BN r)) y)).trans rfl
  ·intro rec;simp only[Q229.s0,aT];exact J
 simp only[Q229.f,Q229.pre,bne_self_eq_false,cond_false];refine (congrArg (λo=>BG o _) (kA K (aa.table n) u.table y)).trans ?_;simp only[rb,BD,BK,cond_false];refine (congrArg (λo=>BG o _) (tx K (aa.cast n) u.cast y)).trans ?_;simp only[rb,BD,BK,cond_false];rw[show Ty.eqv t2 n.2.2.2.2.2.2.2.2.2.2.1 n.2.2.2.2.2.2.2.2.2.2.1=decide (aa.probe n=aa.probe n) from jF _ _,show Ty.eqv t9 n.2.2.2.2.2.2.2.2.2.2.2.2.1 n.2.2.2.2.2.2.2.2.2.2.2.2.1=decide (aa.coord n=aa.coord n) from pB _ _,decide_eq_true rfl,decide_eq_true rfl];exact H
structure gR (n m:aa):Prop where
 ok:b8 m
 me:m.1=n.1
 now_:m.2.2.2.2.2.1=n.2.2.2.2.2.1
 seq:m.2.2.2.2.2.2.1=n.2.2.2.2.2.2.1
 turn:m.2.2.2.2.2.2.2.1=n.2.2.2.2.2.2.2.1
 rest:m.2.2.2.2.2.2.2.2.2.2.2.2=n.2.2.2.2.2.2.2.2.2.2.2.2
 by_:∀ d∈aa.doubts m,d.2.2.2.length<=1048576
theorem gR.say {n m:aa}(h:gR n m){f:af}(b:Int)(z:bA f):gR n (sayOf m f b):=by
 obtain⟨I,_,_,_,_,u,H,y,_,r⟩:=dn m f b;exact⟨jh h.ok z,I.trans h.me,u.trans h.now_,H.trans h.seq,y.trans h.turn,r.trans h.rest,yJ h.by_⟩
theorem gR.setP {n m:aa}(h:gR n m)(p:af):gR n (setP m p):=⟨h.ok.setP p,h.me,h.now_,h.seq,h.turn,h.rest,h.by_⟩
theorem gR.nb {n m:aa}(h:gR n m)(u:NB n):NB m:=by
 have z:aa.places m=aa.places n:=congrArg (λr=>r.2.1) h.rest;have y:aa.others m=aa.others n:=congrArg (λr=>r.2.2) h.rest;exact⟨h.ok.lt,h.ok.lc,h.ok.ld,h.by_,by rw[z];exact u.places,by rw[z];exact u.trips,by rw[y];exact u.others,by rw[y];exact u.facts⟩
theorem gR.far {n m:aa}(h:gR n m)(u:hH n):hH m:=by
 have y:aa.others m=aa.others n:=congrArg (λr=>r.2.2) h.rest;exact⟨by rw[y];exact u.short,by rw[y];exact u.table⟩
theorem xW {n:aa}(h:gR n n)(y:∀ d∈aa.doubts n,∃ f∈aa.table n,f.1=d.1):gR n (cW n)/\aa.probe (cW n)=aa.probe n:=by
 have:=kz (st:=c6) (Inv:=λm=>jK (aa.doubts n) n.2.2.2.2.2.1 m/\gR n m/\aa.probe m=aa.probe n) (ds:=aa.doubts n) (n:=n) ⟨⟨h.ok,y,rfl⟩,h,rfl⟩ (λm d u r=>by
  refine⟨lh r.1 u,?_⟩;unfold c6;cases jS m.2.2.2.2.2.1 d.2.2.1 d.2.2.2.length with
  |false=>exact r.2
  |true =>
   have z:=nQ (da r.1.ok.table (r.1.key d u)).1;exact⟨r.2.1.say _ z,(dn m _ _).2.2.2.2.2.2.2.2.1.trans r.2.2⟩)
 exact this.2
theorem uA {n m:aa}(h:gR n m):gR n (aW m).1/\((aa.probe (aW m).1).1=-1\/(aa.probe (aW m).1).1=(aa.probe m).1)/\(aW m).2.length<=2/\∀ w∈(aW m).2,(aq.table w).length<=1048576:=by
 unfold aW;cases z:(aa.probe m).1==-1 with
 |true=>exact⟨h,.inr rfl,by simp,by simp⟩
 |false =>
  simp only[cond_false];cases r:cN (aD (aa.table m) (aa.probe m).1) with
  |false=>exact⟨h.setP _,.inl rfl,by simp,by simp⟩
  |true =>
   have u:=da h.ok.table (fm r);simp only[BK,cond_false];cases decide (m.2.2.2.2.2.1-(aa.probe m).2.1>=4) with
   |true =>
    simp only[cond_true];cases (aD (aa.table m) (aa.probe m).1).2.2.1==1 with
    |true=>exact⟨(h.setP noP).say _ (qx u.1),.inl (congrArg (·.1) (dn (setP m noP) _ _).2.2.2.2.2.2.2.2.1),by simp,by simp⟩
    |false=>exact⟨h.setP _,.inl rfl,by simp,by simp⟩
   |false =>
    simp only[cond_false];cases decide (m.2.2.2.2.2.1-(aa.probe m).2.1>=2) with
    |false=>exact⟨h,.inr rfl,by simp,by simp⟩
    |true =>
     simp only[cond_true];cases (aa.probe m).2.2.2 with
     |true=>exact⟨h,.inr rfl,by simp,by simp⟩
     |false =>
      refine⟨h.setP _,.inr rfl,?_,λw y=>?_⟩
      ·show ((cE m).map (askW m)).length<=2;rw[B5];exact CN _ _
      ·obtain⟨to,_,rfl⟩:=BS.1 y;exact BW _
theorem zk {n:aa}(z:hH n)(y:(aa.table n).length<=1048576)(r:Int):(e8 n r).length<=2/\∀ w∈e8 n r,(aq.table w).length<=1048576:=by
 unfold e8;cases aR .i64 r 3==1 with
 |true =>
  simp only[cond_true,ip];cases iI n with
  |false=>exact⟨by simp,by simp⟩
  |true =>
   refine⟨?_,λw u=>?_⟩
   ·show ((([0,1]:List Int).filter (λs=>s != ao n.1)).map _).length<=2;rw[B5];exact CB _ _
   ·obtain⟨s,_,rfl⟩:=BS.1 u;exact y
 |false =>
  simp only[cond_false];cases (aR .i64 r 3==3||decide (ce n=[])) with
  |true=>exact⟨by simp,by simp⟩
  |false =>
   simp only[cond_false];cases aR .i64 r 3==0 with
   |true =>
    refine⟨by simp,λw u=>?_⟩;rw[cond_true,BH]at u;subst u;exact y
   |false =>
    simp only[cond_false,mY]
    match H:aa.others n with
    |[]=>exact⟨by simp,by simp⟩
    |x::_ =>
     refine⟨by simp,λw u=>?_⟩;rw[BH]at u;subst u;exact (z.table x (by rw[H];simp)).2
def ea (n:aa):aa:=(n.1,n.2.1,n.2.2.1,n.2.2.2.1,n.2.2.2.2.1,n.2.2.2.2.2.1+1,n.2.2.2.2.2.2)
theorem xX (K:Nat)(n:aa)(z:Int)(Z:NB n)(hP:iP n)(hu:n.2.1=true)(hg:n.2.2.1=false)(a5:¬ n.2.2.2.2.2.1>=999999)(hK:1048577<K) :
  ∃ (y:aa) (O:List aq),NB y/\O.length<=1048576/\(∀ w∈O,(aq.table w).length<=1048576)/\Q208.f K (n,z,())=some ((y,O,()),())/\Q110.f K (n,z,())=some ((O,()),(y,())):=by
 have hU:=hP.up hu;have hs:=hU.say;obtain⟨hT,_,_,_,a1,hD,_,_,hO⟩:=hU;obtain⟨⟨cx,cy⟩,⟨e3,e0⟩,⟨b9,e4⟩,⟨b3,b5⟩,_⟩:=hP;have d3:=mW ⟨cx,cy⟩ hO;have ad:hH n:=⟨by rcases d3 with e|⟨x,e⟩ <;> rw[e] <;> simp,λx hx=>⟨(hO.1 x hx).2.2.2.1,Z.facts x hx⟩⟩;have ba:gR (ea n) (ea n):=⟨⟨hs.table,hs.cast,hs.asc,hs.inp,hs.lt,hs.lc,hs.ld⟩,rfl,rfl,rfl,rfl,rfl,Z.by_⟩;have cc:NB (ea n):=⟨Z.table,Z.cast,Z.doubts,Z.by_,Z.places,Z.trips,Z.others,Z.facts⟩;have dd:hH (ea n):=⟨ad.short,ad.table⟩;have a9:∀ d∈aa.doubts (ea n),∃ f∈aa.table (ea n),f.1=d.1:=λd hd=>by
  obtain⟨f,hf,e,_⟩:=(hD.1 d hd).1;exact⟨f,hf,e⟩
 have bb:∀ d∈aa.doubts (ea n),0<=d.2.2.1/\d.2.2.1<=(ea n).2.2.2.2.2.1/\d.2.2.2.length<=1048576:=λd hd=>by
  obtain⟨s0,s1⟩:=(hD.1 d hd).2.1;refine⟨s0,?_,Z.by_ d hd⟩;show d.2.2.1<=n.2.2.2.2.2.1+1;omega
 have c3:jK (aa.doubts (ea n)) (ea n).2.2.2.2.2.1 (ea n):=⟨ba.ok,a9,rfl⟩;have a6:(ea n).2.2.2.2.2.1<=1000000:=by show n.2.2.2.2.2.1+1<=1000000;omega
 have eD:=xf K (ea n) c3 bb a6 hK;have eB:=AW K (ea n) c3 bb a6 hK;obtain⟨X,a0⟩:=xW ba a9;generalize cW (ea n)=m at eD eB X a0;have a0:aa.probe m=aa.probe n:=a0;have u:((aa.probe m).1=-1\/0<=(aa.probe m).1)/\0<=(aa.probe m).2.1/\(aa.probe m).2.1<=1000000:=by
  rw[a0];unfold cC at a1;split at a1
  ·rename_i h1;rw[a1];exact⟨.inl rfl,by show (0:Int)<=0;omega,by show (0:Int)<=1000000;omega⟩
  ·obtain⟨_,⟨f,hf,e⟩,⟨s0,s1⟩,_⟩:=a1;have:=(hT.1 f hf).1.1;exact⟨.inr (e ▸ this),s0,by omega⟩
 have d1:m.2.2.2.2.2.1=n.2.2.2.2.2.1+1:=X.now_;have eF:=yK K m X.ok u.2.1 u.2.2 (by omega) (by omega) hK;have eW:=λcw=>xi K m X.ok cw u.2.1 u.2.2 (by omega) (by omega) hK
 obtain⟨r,b2,c0,b4⟩:=uA X;have R:(aa.probe m).1=-1->aW m=(m,[]):=λh=>by unfold aW;rw[show ((aa.probe m).1==-1)=true by simpa using h];rfl
 generalize Y:aW m=fo at eF eW r b2 c0 b4 R;obtain⟨H,dc⟩:=fo;simp only at eF eW r b2 c0 b4;have c4:∃ (y:aa) (O:List aq),Q100.f K (H,())=some ((O,()),(y,()))/\((aa.probe H).1=-1->Q201.f K (H,())=some ((y,O,()),()))/\((aa.probe H).1≠-1->y=H/\O=[])/\NB y/\hH y/\az (aa.table y)/\O.length<=1/\∀ w∈O,(aq.table w).length<=1048576:=by
  have J:=r.nb cc;have Y:=r.far dd;by_cases I:(aa.probe H).1=-1
  ·obtain⟨y,O,e1,e2,h3⟩:=yU K H r.ok I (by rw[r.seq];exact b9) (by rw[r.seq];show n.2.2.2.2.2.2.1<=1000000;omega) (by rw[r.turn];exact b3) (by rw[r.turn];exact b5) hK;refine⟨y,O,e2,λ_=>e1,λh=>absurd I h,?_⟩;rcases h3 with ⟨rfl,rfl⟩|⟨to,rfl,rfl⟩
   ·exact⟨J,Y,r.ok.table,by simp,by simp⟩
   ·have M:=Bb r.ok;refine⟨⟨M.lt,M.lc,M.ld,J.by_,J.places,J.trips,J.others,J.facts⟩,⟨Y.short,Y.table⟩,M.table,by simp,λw bl=>?_⟩;rw[BH]at bl;subst bl;exact cL (kl r.ok to)
  ·refine⟨H,[],?_,λh=>absurd h I,λ_=>⟨rfl,rfl⟩,J,Y,r.ok.table,by simp,by simp⟩;simp only[Q100.f,Q100.pre];rw[show (H.2.2.2.2.2.2.2.2.2.2.1.1 != -1)=true by show ((aa.probe H).1 != -1)=true;simpa using I];rfl
 obtain⟨y,cb,eA,c1,b0,a2,b1,bn,e5,cu⟩:=c4;have bx:=Ai K y z a2 b1 bn hK;have eM:=xx K y z b1 bn a2.table hK;obtain⟨cp,c2⟩:=zk b1 a2.table z;generalize e8 y z=d2 at bx eM cp c2;have a4:(n.1,n.2.1,n.2.2.1,n.2.2.2.1,n.2.2.2.2.1,wr .i64 (n.2.2.2.2.2.1+1),n.2.2.2.2.2.2)=ea n:=by
  rw[aG (by omega) (by omega)];rfl
 refine⟨y,(dc++cb)++d2,a2,by simp only[BL];omega,λw M=>?_,?_,?_⟩
 ·simp only[BM]at M;rcases M with (M|M)|M
  ·exact b4 w M
  ·exact cu w M
  ·exact c2 w M
 ·simp only[Q208.f,zcp4];rw[a4,hu,hg,decide_eq_false a5];simp only[BK,cond_false];rw[eD];simp only[BD];by_cases I:(aa.probe m).1=-1
  ·obtain⟨rfl,rfl⟩:=Prod.mk.inj (R I);rw[show decide (H.2.2.2.2.2.2.2.2.2.2.1.1>=0)=false from decide_eq_false (by show ¬ (aa.probe H).1>=0;omega),show decide (H.2.2.2.2.2.2.2.2.2.2.1.1<0)=true from decide_eq_true (by show (aa.probe H).1<0;omega)];simp only[cond_true,cond_false];rw[c1 I];simp only[BD];rw[szw _ _ _ (by omega) (by simp only[B7];omega)];simp only[cond_true];rw[eM];simp only[BD];rw[szw _ _ _ (by omega) (by simp only[BL,B7];omega)];rfl
  ·rw[show decide (m.2.2.2.2.2.2.2.2.2.2.1.1>=0)=true from decide_eq_true (by show (aa.probe m).1>=0;omega)];simp only[cond_true];rw[eW I];simp only[BD];by_cases a3:(aa.probe H).1=-1
   ·rw[show decide (H.2.2.2.2.2.2.2.2.2.2.1.1<0)=true from decide_eq_true (by show (aa.probe H).1<0;omega)];simp only[cond_true];rw[c1 a3];simp only[BD];rw[szw _ _ _ (by omega) (by omega)];simp only[cond_true];rw[eM];simp only[BD];rw[szw _ _ _ (by omega) (by simp only[BL];omega)];rfl
   ·rw[show decide (H.2.2.2.2.2.2.2.2.2.2.1.1<0)=false from decide_eq_false (by show ¬ (aa.probe H).1<0;rcases b2 with h|h <;> omega)];obtain⟨rfl,rfl⟩:=b0 a3;simp only[cond_false];rw[eM];simp only[BD];rw[szw _ _ _ (by omega) (by omega),CE];rfl
 ·simp only[Q110.f,zcp4,Q65.f];rw[a4,hu,hg,decide_eq_false a5];simp only[cond_true,BD,B8,BK,cond_false];rw[eB];simp only[BD];rw[eF];simp only[BD];rw[eA];simp only[BD];rw[szw _ _ _ (by omega) (by omega)];simp only[cond_true];rw[bx];simp only[BD];rw[szw _ _ _ (by omega) (by simp only[BL];omega)];rfl
theorem xY (K:Nat)(n y:aa)(z:List aq)(r:Int)(J:NB n)(u:Q64.f K (n,())=rb true)(H:Q110.f K (n,r,())=some ((z,()),(y,())))(I:1048577<K):Q115.f K (n,r,())=some ((y,z,()),()):=by
 simp only[Q115.f,Q114.f];rw[u];simp only[BD,BK,cond_false];rw[yI K n J I];simp only[BD,Q111.f];rw[H];simp only[BD,Q113.f];simp
theorem rY (K:Nat)(n:aa)(r:Int)(J:NB n)(I:1048577<K):∃ y:aa,∃ u:List aq,NB y/\u.length<=1048576/\(∀ w∈u,(aq.table w).length<=1048576)/\Q225.f K (n,r,())=some ((y,u,()),())/\Q115.f K (n,r,())=some ((y,u,()),()):=by
 obtain⟨b,h1,Y,h3⟩:=jt K n J I;cases b with
 |false =>
  refine⟨sU,[],uk,by simp,by simp,?_,?_⟩
  ·simp only[Q225.f];rw[h1];rfl
  ·simp only[Q115.f,Q114.f];rw[Y];rfl
 |true =>
  have hP:=h3.1 rfl;have H:=jG K n J I;have hb:∃ (y:aa) (u:List aq),NB y/\u.length<=1048576/\(∀ w∈u,(aq.table w).length<=1048576)/\Q208.f K (n,r,())=some ((y,u,()),())/\Q110.f K (n,r,())=some ((u,()),(y,())):=by
   by_cases z:n.2.1=true/\n.2.2.1=false/\¬ n.2.2.2.2.2.1>=999999
   ·exact xX K n r J hP z.1 z.2.1 z.2.2 I
   ·refine⟨n,[],J,by simp,by simp,?_,?_⟩
    ·simp only[Q208.f,zcp4];cases R:n.2.1 with
     |false=>rfl
     |true =>
      cases X:n.2.2.1 with
      |true=>rfl
      |false =>
       have:n.2.2.2.2.2.1>=999999:=by by_cases h:n.2.2.2.2.2.1>=999999;exact h;exact absurd ⟨R,X,h⟩ z
       rw[decide_eq_true this];rfl
    ·simp only[Q110.f,zcp4,Q65.f];cases R:n.2.1 with
     |false=>rfl
     |true =>
      cases X:n.2.2.1 with
      |true=>rfl
      |false =>
       have:n.2.2.2.2.2.1>=999999:=by by_cases h:n.2.2.2.2.2.1>=999999;exact h;exact absurd ⟨R,X,h⟩ z
       rw[decide_eq_true this];rfl
  obtain⟨y,u,Z,M,O,z,hi⟩:=hb;refine⟨y,u,Z,M,O,?_,xY K n y u r J Y hi I⟩;simp only[Q225.f];rw[h1];simp only[BD,BK,cond_false];rw[H];simp only[BD];rw[z];simp only[BD];rw[jG K y Z I];rfl
theorem wd (K:Nat)(u:List Int)(z:xV u)(M:1048577<K):Tot (Q224.f K (u,())) λr=>NS 9 r.1.1:=by
 obtain⟨O,y,e⟩:=Bp (K:=K) u z.byte z.len;simp only[Q224.f];exact Tot.vl e (Tot.bind (xU y (bj.zero O) (by omega) M) λn ⟨H,J⟩=>Tot.bind (aH y J 4096 (by decide) (by omega)) λv ⟨_,I⟩=>Tot.bind (aH y I 4 (by decide) (by omega)) λ_ _=>Tot.ret H)
theorem uB (K:Nat)(w:aq)(u:(aq.table w).length<=1048576)(r:1048577<K):Q230.f K (w,w,())=rb true:=by
 simp only[Q230.f,beq_self_eq_true,cond_true];rw[show Ty.eqv t9 w.2.2.2.2.2.2.1 w.2.2.2.2.2.2.1=decide (w.2.2.2.2.2.2.1=w.2.2.2.2.2.2.1) from pB _ _,decide_eq_true rfl];simp only[cond_true];exact (congrArg (λo=>BG o _) (kA K (aq.table w) u r)).trans rfl
theorem tz (K:Nat)(xs:List aq)(H:xs.length<=1048576)(z:∀ w∈xs,(aq.table w).length<=1048576)(y:1048577<K):Q231.f K (xs,xs,())=rb true:=by
 have u:Q231.l0 K (xs,xs,()) 0=rb true:=by
  refine eZ (step:=λrec a=>Q231.s0 K (xs,xs,()) rec a) xs.length (λi=>(i:Int)) (rb true) ?_ ?_ (by omega)
  ·intro rec i r;simp only[Q231.s0];rw[bq (by omega:(i:Int)<(BF xs:Int)),ag r,ar i (by omega)];simp only[cond_true,BD];exact (congrArg (λo=>BG o _) (uB K _ (z _ (BN r)) y)).trans rfl
  ·intro rec;simp only[Q231.s0,aT];rfl
 simp only[Q231.f,Q231.pre,bne_self_eq_false,cond_false];exact u
theorem we (K:Nat)(n:aa)(r:Int)(z:NB n)(h:UpN n)(H:n.2.2.1=false)(y:aQ n<999999)(u:1048577<K):Q225.f K (n,r,())=some ((cS n,mj n r,()),()):=by
 obtain⟨b,M,_,I⟩:=jt K n z u;have J:=I.2 h.ok;subst J;simp only[Q225.f];rw[M];simp only[rb,BD,BK,cond_false];rw[jG K n z u];simp only[BD];rw[xM K n r h H y u];simp only[BD];rw[jG K _ (km h y).1.nb u];rfl
theorem oo (K:Nat)(n:aa)(r:Int)(I:NB n)(H:1048577<K):∃ y:aa,∃ u:List aq,NB y/\u.length<=1048576/\(∀ w∈u,(aq.table w).length<=1048576)/\Q225.f K (n,r,())=some ((y,u,()),())/\Q115.f K (n,r,())=some ((y,u,()),()) /\
  (iP n->((n.2.1=true/\n.2.2.1=false/\aQ n<999999)/\y=cS n/\u=mj n r)\/(¬ (n.2.1=true/\n.2.2.1=false/\aQ n<999999)/\y=n/\u=[])):=by
 obtain⟨y,u,h1,X,R,M,Y⟩:=rY K n r I H;refine⟨y,u,h1,X,R,M,Y,λO=>?_⟩;by_cases z:n.2.1=true/\n.2.2.1=false/\aQ n<999999
 ·have:=we K n r I (UpN.of O z.1) z.2.1 z.2.2 H;rw[M]at this;simp only[CS,CZ,and_true]at this;exact .inl ⟨z,this⟩
 ·right;refine⟨z,?_⟩;obtain⟨b,o1,_,o3⟩:=jt K n I H;have hb:=o3.2 O;subst hb;have J:Q208.f K (n,r,())=some ((n,[],()),()):=by
   simp only[Q208.f,zcp4];cases Z:n.2.1 with
   |false=>rfl
   |true =>
    cases hg:n.2.2.1 with
    |true=>rfl
    |false =>
     have:n.2.2.2.2.2.1>=999999:=by by_cases h:n.2.2.2.2.2.1>=999999;exact h;exact absurd ⟨Z,hg,by have e:aQ n=n.2.2.2.2.2.1:=rfl;omega⟩ z
     rw[decide_eq_true this];rfl
  have:Q225.f K (n,r,())=some ((n,[],()),()):=by
   simp only[Q225.f];rw[o1];simp only[rb,BD,BK,cond_false];rw[jG K n I H];simp only[BD];rw[J];simp only[BD];rw[jG K n I H];rfl
  rw[M]at this;simp only[CS,CZ,and_true]at this;exact this
theorem xZ (n:aa):aa.probe (cW n)=aa.probe n/\aQ (cW n)=aQ n:=by
 unfold cW;generalize aa.doubts n=r;induction r generalizing n with
 |nil=>exact⟨rfl,rfl⟩
 |cons d r u =>
  rw[List.foldl_cons];have y:aa.probe (c6 n d)=aa.probe n/\aQ (c6 n d)=aQ n:=by
   unfold c6;cases jS n.2.2.2.2.2.1 d.2.2.1 d.2.2.2.length with
   |false=>exact⟨rfl,rfl⟩
   |true =>
    obtain⟨_,_,_,_,_,z,_,_,H,_⟩:=dn n (iU (aD (aa.table n) d.1)) n.1;exact⟨H,z⟩
  exact⟨(u _).1.trans y.1,(u _).2.trans y.2⟩
end Go.Proofs.YtaegajachoklkaaGreatEv
