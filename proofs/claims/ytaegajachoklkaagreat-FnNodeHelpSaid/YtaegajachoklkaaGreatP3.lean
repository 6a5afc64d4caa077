/- What a node hears, by the specification: what it comes to. -/
import Derived.Test.YtaegajachoklkaaGreatP2
set_option linter.unusedVariables false
set_option linter.unusedSimpArgs false
open Bool renaming not_true->BN,not_false->CB,not_eq_true'->CU,and_eq_true->CW,not_eq_true->CX
open Classical renaming not_not->CK
open Int renaming toNat->BL,toNat_natCast->BM,eq_ofNat_of_zero_le->BY,toNat_zero->CC,tmod->CD,le_refl->CL,fdiv->CN,toNat_of_nonneg->CR,tmod_lt_of_pos->CT,tmod_nonneg->Ca
open List renaming length->BI,mem_singleton->BK,length_append->BO,mem_append->BP,getElem_mem->BQ,drop_eq_getElem_cons->BS,nil_append->BT,length_set->BU,mem_map->BV,filter_eq_self->BW,length_take->BX,filter_eq_nil_iff->B3,drop_zero->B4,mem_of_mem_take->B5,getElem_of_mem->B6,getElem?_eq_getElem->B7,length_map->B8,mem_filter->B9,length_nil->CA,length_filter_le->CE,take_length->CF,append_nil->CH,pairwise_cons->CI,take_add_one->CJ,filter_cons->CM,length_drop->CO,length_take_le->CQ,filter_append->CS,length_cons->CY,not_mem_nil->CZ,mem_cons->Cb
open Nat renaming le_succ_of_le->BH,le_trans->BR,zero_le->BZ,le_refl->CG,le_succ->CP
open Option renaming bind_some->BG,bind->BJ
open Option.some renaming injEq->CV
open Prod.mk renaming injEq->Cc
namespace Go.Proofs.YtaegajachoklkaaGreatEv
open Go
theorem rr {α A R:Type}(k:α->Int)(x:α)(t:List α)(hA:Asc k t)(Z S1:List α->Nat->A)(I:List α->Option R){step:(A->Option R)->A->Option R}
  (h0:∀ (rec:A->Option R) (r:List α) (i:Nat) (M:i<t.length),r.length=i->(∀ y∈t.take i,k y<k x)->step rec (Z r i)=if k t[i]<k x then rec (Z (r++[t[i]]) (i+1)) else if k t[i]=k x then rec (S1 (r++[x]) (i+1)) else rec (S1 (r++[x]++[t[i]]) (i+1)))
  (h1:∀ (rec:A->Option R) (r:List α) (i:Nat) (M:i<t.length),r.length<=i+1->k x<k t[i]->step rec (S1 r i)=rec (S1 (r++[t[i]]) (i+1)))
  (e0:∀ (rec:A->Option R) (r:List α),r.length=t.length->(∀ y∈t,k y<k x)->step rec (Z r t.length)=I (r++[x]))
  (e1:∀ (rec:A->Option R) (r:List α),r.length<=t.length+1->step rec (S1 r t.length)=I r) {K:Nat} (hK:t.length<K):ae step K (Z [] 0)=I (bH k x t):=by
 have r1:∀ (n i K:Nat) (r:List α),i+n=t.length->n<K->r.length<=i+1->(∀ y∈t.drop i,k x<k y)->ae step K (S1 r i)=I (r++t.drop i):=by
  intro n;induction n with
  |zero =>
   intro i K r M hK O _;obtain⟨K,rfl⟩:∃ X,K=X+1:=⟨K-1,by omega⟩;have:i=t.length:=by omega
   subst this;show step (ae step K) _=_;rw[e1 _ _ O,List.drop_length,CH]
  |succ n ih =>
   intro i K r M hK O hg;obtain⟨K,rfl⟩:∃ X,K=X+1:=⟨K-1,by omega⟩;have u:i<t.length:=by omega
   rw[BS u]at hg;show step (ae step K) _=_;rw[h1 _ _ _ u O (hg _ (.head _)),ih (i+1) K _ (by omega) (by omega) (by simp;omega) (λy z=>hg y (.tail _ z)),BS u];simp
 have H:∀ i (M:i<t.length),∀ y∈t.drop (i+1),k t[i]<k y:=λi M y z=>by
  have:=List.Pairwise.drop (i:=i) hA;rw[BS M]at this;exact (CI.1 this).1 y z
 have r0:∀ (n i K:Nat) (r:List α),i+n=t.length->n<K->r=t.take i->(∀ y∈t.take i,k y<k x)->ae step K (Z r i)=I (bH k x t):=by
  intro n;induction n with
  |zero =>
   intro i K r M hK O J;obtain⟨K,rfl⟩:∃ X,K=X+1:=⟨K-1,by omega⟩;have:i=t.length:=by omega
   subst this;rw[CF]at O J;subst O;show step (ae step K) _=_;rw[e0 _ _ rfl J];unfold bH;rw[BW.2 (by simpa using J),B3.2 (λy z=>by have:=J y z;simp;omega)]
  |succ n ih =>
   intro i K r M hK O J;obtain⟨K,rfl⟩:∃ X,K=X+1:=⟨K-1,by omega⟩;have u:i<t.length:=by omega
   subst O;have a0:(t.take i).length=i:=by rw[BX];omega
   show step (ae step K) _=_;rw[h0 _ _ _ u a0 J];have Y:k x<=k t[i]->bH k x t=t.take i++x::(t.drop i).filter (λy=>decide (k x<k y)):=λhc=>by
    unfold bH;conv=>lhs;rw[<- List.take_append_drop i t]
    rw[CS,CS,BW.2 (by simpa using J),(B3 (l:=t.take i)).2 (λy z=>by have:=J y z;simp;omega),BT];rw[BS u,CM,if_neg (by simp;omega),B3.2 (λy z=>by have:=H i u y z;simp;omega),CH]
   by_cases hc:k t[i]<k x
   ·rw[if_pos hc];refine ih (i+1) K _ (by omega) (by omega) (by rw[CJ,B7 u];rfl) λy z=>?_
    rw[CJ,B7 u]at z;rcases BP.1 z with z|z
    ·exact J y z
    ·simp at z;rw[z];exact hc
   ·rw[if_neg hc,Y (by omega),BS u];by_cases he:k t[i]=k x
    ·rw[if_pos he,r1 n (i+1) K _ (by omega) (by omega) (by simp;omega) (λy z=>by have:=H i u y z;omega),CM,if_neg (by simp;omega),BW.2 (λy z=>by have:=H i u y z;simp;omega)];simp
    ·rw[if_neg he,r1 n (i+1) K _ (by omega) (by omega) (by simp;omega) (λy z=>by have:=H i u y z;omega),CM,if_pos (by simp;omega),BW.2 (λy z=>by have:=H i u y z;simp;omega)];simp
 exact r0 t.length 0 K [] (by omega) hK rfl (by simp)
theorem xH {t:List af}{f:af}(h:∀ g∈t,g.1<f.1):(bS t f).1=t++[f]:=by
 rw[im (λg r e=>by have:=h g r;omega)];unfold bH;rw[BW.2 (by simpa using h),B3.2 (λy u=>by have:=h y u;simp;omega)]
theorem pT:∀ {fs t:List af},Asc (λf:af=>f.1) fs->(∀ g∈t,∀ f∈fs,g.1<f.1)->fE t fs=t++fs
 |[],t,_,_=>by simp[fE]
 |f::fs,t,y,h=>by
  show fE (bS t f).1 fs=_;rw[xH (λg r=>h g r f (by simp)),pT (CI.1 y).2 ?_]
  ·simp
  ·intro g r e u;rcases BP.1 r with r|r
   ·exact h g r e (by simp[u])
   ·rw[BK.1 r];exact (CI.1 y).1 e u
theorem vY {fs:List af}(h:ax fs):fE [] fs=fs:=by
 rw[pT h.2 (by simp)];rfl
theorem Aq (K:Nat)(a b:List af)(r:ax a)(u:ax b)(y:1048577<K):Q161.f K (a,b,())=some ((fE a b,()),()):=by
 simp only[Q161.f,Q161.pre];obtain⟨X,H,I⟩:=gq K a (cE r) y;obtain⟨R,O,J⟩:=gq K b (cE u) y;have:=cE r;have:=cE u;rw[H,O,I.2 r,J.2 u];simp only[BG,BN,cond_false];rw[szb _ _ _ (by omega) (by show (BI ([]:List af))+a.length<=_;simp;omega)];simp only[cond_true,BT];refine ur a b r u.1 (step:=λrec x=>Q161.s0 K (a,b,()) rec x) (λt=>some ((t,()),())) ?_ ?_ (by omega)
 ·intro rec t i M z;simp only[Q161.s0];rw[bo (by omega:(i:Int)<(BI b:Int)),ag M,ar i (by omega)];simp only[cond_true,BG];rw[vQ K t _ (cE z) z.2 y];rfl
 ·intro rec t;simp only[Q161.s0,aR];rfl
theorem tr {u:Int}{l:List cS}(h:c6 u l)(s:Int):ax (di l s):=by
 rcases mQ (l:=l) (s:=s) with e|⟨x,r,_,e⟩ <;> rw[e]
 ·exact⟨by simp,List.Pairwise.nil⟩
 ·exact (h.1 x r).2.2.2.1
theorem olen {u:Int}{l:List cS}(h:c6 u l):l.length<=1048576:=BR (iU h.2 λx r=>⟨(h.1 x r).1.1,Int.le_trans (h.1 x r).1.2 (by decide)⟩) (by decide)
theorem xI (K:Nat)(n:aa)(s:Int)(t:List af)(h:c6 n.1 (aa.others n))(r:ax t)(y:1048577<K):Q162.f K (n,s,t,())=some ((fE (di (aa.others n) s) t,()),()):=by
 have z:=olen h;refine pG (step:=λrec a=>Q162.s0 K (n,s,t,()) rec a) (aa.others n) s (λl=>some ((fE l t,()),())) ?_ ?_ (aa.others n).length 0 K (by omega) (by omega)
 ·intro rec i u;simp only[Q162.s0];rw[bo (by omega:(i:Int)<(BI (aa.others n):Int)),ag u,ar i (by omega)];simp only[cond_true,BG];cases (aa.others n)[i].1==s with
  |false=>rfl
  |true=>exact (congrArg (λo=>BJ o _) (Aq K _ t (h.1 _ (BQ u)).2.2.2.1 r y)).trans rfl
 ·intro rec;simp only[Q162.s0,aR,cond_false];rw[vY r];refine (congrArg (λb=>bif b then _ else _) (szb (BI ([]:List af)) t.length 32 (by omega) ?_)).trans rfl;have:=cE r;simp;omega
theorem sum_s (K:Nat)(n:aa)(s:Int)(t:List af)(h:c6 n.1 (aa.others n))(X:1048577<K):Q163.f K (n,s,t,())=some ((setO n (bH (λx:cS=>x.1) (s,t) (aa.others n)),()),()):=by
 have R:=olen h;refine rr (step:=λrec a=>Q163.s0 K (n,s,t,()) rec a) (λx:cS=>x.1) (s,t) (aa.others n) h.2 (λr i=>(r,false,(i:Int))) (λr i=>(r,true,(i:Int))) (λo=>some ((setO n o,()),())) ?_ ?_ ?_ ?_ (by omega)
 ·intro rec r i H I _;simp only[Q163.s0,zcp4,zcp8];rw[bo (by omega:(i:Int)<(BI (aa.others n):Int)),ag H,ar i (by omega)];simp only[cond_true,BG,CB];have u:=szb r.length 1 32 (by omega) (by omega);have M:=szb (r++[(s,t)]).length 1 32 (by omega) (by simp;omega);generalize (aa.others n)[i]=y at *;by_cases J:y.1<s
  ·rw[if_pos J,show decide (y.1>=s)=false from decide_eq_false (by omega),show (y.1 != s)=true by simp;omega];exact (congrArg (λb=>bif b then _ else _) u).trans rfl
  ·rw[if_neg J,show decide (y.1>=s)=true from decide_eq_true (by omega)];refine (congrArg (λb=>bif b then _ else _) u).trans ?_;by_cases z:y.1=s
   ·rw[if_pos z,show (y.1 != s)=false by simpa using z];rfl
   ·rw[if_neg z,show (y.1 != s)=true by simpa using z];exact (congrArg (λb=>bif b then _ else _) M).trans rfl
 ·intro rec r i H I O;simp only[Q163.s0,zcp4,zcp8];rw[bo (by omega:(i:Int)<(BI (aa.others n):Int)),ag H,ar i (by omega)];simp only[cond_true,BG,BN,cond_false];have u:=szb r.length 1 32 (by omega) (by omega);rw[show ((aa.others n)[i].1 != s)=true by simp;have:s<_:=O;omega];exact (congrArg (λb=>bif b then _ else _) u).trans rfl
 ·intro rec r I _;simp only[Q163.s0,zcp4,zcp8,aR,cond_false,CB,cond_true];exact (congrArg (λb=>bif b then _ else _) (szb r.length 1 32 (by omega) (by omega))).trans rfl
 ·intro rec r I;simp only[Q163.s0,zcp4,zcp8,aR,cond_false,BN];rfl
theorem zg (K:Nat)(a b:List af)(Z:a.length<=1048576)(X:1048577<K):Q164.f K (a,b,())=rb (decide (a≠b)):=by
 simp only[Q164.f,Q164.pre];by_cases I:a.length=b.length
 ·rw[show ((BI a:Int) != (BI b:Int))=false by simp;omega];have:=ch (step:=λrec x=>Q164.s0 K (a,b,()) rec x) a.length (λi=>(i:Int)) (λj=>∃ (h:j<a.length) (Y:j<b.length),a[j]≠b[j]) (rb false) (λ_=>rb true) ?_ ?_ a.length K 0 (by omega) (by omega)
  ·rcases this with ⟨J,z⟩|⟨j,_,J,⟨y,H,O⟩,_,z⟩
   ·refine (z:Q164.l0 K (a,b,()) 0=_).trans ?_;rw[decide_eq_false];rintro u;exact u (List.ext_getElem I λi y H=>CK.1 λR=>J i (BZ _) y ⟨y,H,R⟩)
   ·refine (z:Q164.l0 K (a,b,()) 0=_).trans ?_;rw[decide_eq_true];rintro rfl;exact O rfl
  ·intro rec i M;simp only[Q164.s0];rw[bo (by omega:(i:Int)<(BI a:Int)),ag M,ar i (by omega),ag (show i<b.length by omega)];simp only[cond_true,BG];rw[show Ty.eqv t2 a[i] (b[i]'(by omega))=decide (a[i]=b[i]'(by omega)) from jI _ _];by_cases r:a[i]=b[i]'(by omega)
   ·exact .inl ⟨λ⟨_,_,h⟩=>h r,by rw[decide_eq_true r];rfl⟩
   ·exact .inr ⟨⟨M,by omega,r⟩,by rw[decide_eq_false r];rfl⟩
  ·intro rec;simp only[Q164.s0,aR];rfl
 ·rw[show ((BI a:Int) != (BI b:Int))=true by simp;omega,decide_eq_true (show a≠b from λe=>I (by rw[e]))];rfl
theorem qE (K:Nat)(l:List Int)(t:Int)(u:l.length<=1048576):Q170.f K (l,t,())=some ((hM l t,()),()):=by
 simp only[Q170.f];rw[szb _ _ _ (by omega) (by show (BI ([]:List Int))+l.length<=_;simp;omega)];simp only[cond_true,BT];rw[szb _ _ _ (by omega) (by show l.length+[t].length<=_;simp;omega)];simp only[cond_true];have r:(l++[t]).length=l.length+1:=by simp
 show (bif decide (((l++[t]).length:Int)>3) then (bif decide (0<=wr .i64 (((l++[t]).length:Int)-3))&&decide (wr .i64 (((l++[t]).length:Int)-3)<=((l++[t]).length:Int))&&decide (((l++[t]).length:Int)<=((l++[t]).length:Int))&&true then some ((((l++[t]).take (BL ((l++[t]).length:Int))).drop (BL (wr .i64 (((l++[t]).length:Int)-3))),()),()) else none) else some ((l++[t],()),()))=_;by_cases h:l.length+1>3
 ·rw[aE (by omega) (by omega),decide_eq_true (by omega:((l++[t]).length:Int)>3),decide_eq_true (by omega:(0:Int)<=((l++[t]).length:Int)-3),decide_eq_true (by omega:((l++[t]).length:Int)-3<=((l++[t]).length:Int)),decide_eq_true (CL _)];simp only[Bool.and_self,cond_true,hM];rw[show BL (((l++[t]).length:Int)-3)=(l++[t]).length-3 by omega,BM,CF]
 ·rw[decide_eq_false (by omega:¬ ((l++[t]).length:Int)>3)];simp only[cond_false,hM];rw[show (l++[t]).length-3=0 by omega,B4]
theorem plen {r:Int}{l:List dJ}(h:eu r l):l.length<=1048576:=BR (iU h.2 λx u=>(h.1 x u).1) (by decide)
theorem uv {y:Int}{l:List dJ}(h:eu y l)(r:Int):(dF l r).length<=3:=by
 unfold dF;cases u:l.find? λp=>p.1==r with
 |none=>simp
 |some p =>
  have:=(h.1 p (List.mem_of_find?_eq_some u)).2.2.2.2.1.2;show p.2.2.length<=3;omega
theorem Ar (K:Nat)(l:List dJ)(r:Int)(c:dw)(t:Int)(me:Int)(h:eu me l)(hK:1048577<K):Q171.f K (l,r,c,t,())=some ((pb l r c t,()),()):=by
 have hl:=plen h;have h3:=uv h r;refine rr (step:=λrec a=>Q171.s0 K (l,r,c,t,()) rec a) (λx:dJ=>x.1) (r,c,hM (dF l r) t) l h.2 (λu i=>(u,false,(i:Int),[])) (λu i=>(u,true,(i:Int),hM (dF l r) t)) (λo=>some ((o,()),())) ?_ ?_ ?_ ?_ (by omega)
 ·intro rec u i I X z;simp only[Q171.s0];rw[bo (by omega:(i:Int)<(BI l:Int)),ag I,ar i (by omega)];simp only[cond_true,BG,CB];have O:=szb u.length 1 64 (by omega) (by omega);have Z:=szb (u++[(r,c,hM (dF l r) t)]).length 1 64 (by omega) (by simp;omega);have J:l[i].1=r->dF l r=l[i].2.2:=λe=>by unfold dF;rw[o6 h.2 I e];rfl
  have R:r<l[i].1->dF l r=[]:=λe=>by
   unfold dF;rw[nO (k:=λp:dJ=>p.1)]
   ·rfl
   intro y M;obtain⟨j,hj,rfl⟩:=B6 M;by_cases a0:j<i
   ·have:=z l[j] (by rw[List.mem_take_iff_getElem];exact⟨j,by omega,rfl⟩);show l[j].1≠r;have:l[j].1<r:=this;omega
   ·have:l[i].1<=l[j].1:=by
     by_cases e:i=j
     ·subst e;exact CL _
     ·exact Int.le_of_lt (dn.1 h.2 i j I hj (by omega))
    show l[j].1≠r;omega
  have a1:=(h.1 _ (BQ I)).2.2.2.2.1.2;generalize l[i]=y at *;by_cases Y:y.1<r
  ·rw[if_pos Y,show decide (y.1>=r)=false from decide_eq_false (by omega),show (y.1 != r)=true by simp;omega,show (y.1==r)=false by simp;omega];exact (congrArg (λb=>bif b then _ else _) O).trans rfl
  ·rw[if_neg Y,show decide (y.1>=r)=true from decide_eq_true (by omega)];by_cases H:y.1=r
   ·rw[if_pos H,show (y.1 != r)=false by simpa using H,show (y.1==r)=true by simpa using H];simp only[cond_true,cond_false];rw[<- J H];refine (congrArg (λo=>BJ o _) (qE K _ t (by omega))).trans ?_;exact (congrArg (λb=>bif b then _ else _) O).trans rfl
   ·rw[if_neg H,show (y.1 != r)=true by simpa using H,show (y.1==r)=false by simpa using H];simp only[cond_true,cond_false];have e:=R (by omega);rw[e]at Z ⊢;refine (congrArg (λo=>BJ o _) (qE K [] t (by simp))).trans ?_;refine (congrArg (λb=>bif b then _ else _) O).trans ?_;exact (congrArg (λb=>bif b then _ else _) Z).trans rfl
 ·intro rec u i I X hc;simp only[Q171.s0];rw[bo (by omega:(i:Int)<(BI l:Int)),ag I,ar i (by omega)];have hc:r<l[i].1:=hc;simp only[cond_true,BG,BN,cond_false];rw[show (l[i].1 != r)=true by simp;omega,show (l[i].1==r)=false by simp;omega];exact (congrArg (λb=>bif b then _ else _) (szb u.length 1 64 (by omega) (by omega))).trans rfl
 ·intro rec u X z;simp only[Q171.s0,aR,cond_false,CB,cond_true];have e:dF l r=[]:=by
   unfold dF;rw[nO (k:=λp:dJ=>p.1) (λy M=>by have:y.1<r:=z y M;show y.1≠r;omega)];rfl
  rw[e];refine (congrArg (λo=>BJ o _) (qE K [] t (by simp))).trans ?_;exact (congrArg (λb=>bif b then _ else _) (szb u.length 1 64 (by omega) (by omega))).trans rfl
 ·intro rec u X;simp only[Q171.s0,aR,cond_false,BN]
def tt (n r u:Int):Int:=if n<r then r else if n>u then u else n
theorem zN (K:Nat)(n y z:Int):Q169.f K (n,y,z,())=some ((tt n y z,()),()):=by
 simp only[Q169.f,tt];by_cases u:n<y
 ·rw[decide_eq_true u,if_pos u];rfl
 ·rw[decide_eq_false u,if_neg u];by_cases r:n>z
  ·rw[decide_eq_true r,if_pos r];rfl
  ·rw[decide_eq_false r,if_neg r];rfl
theorem At {n r u:Int}(h:r<=u):InP (tt n r u) r u:=by
 unfold tt;split
 ·exact⟨CL _,h⟩
 ·split
  ·exact⟨h,CL _⟩
  ·exact⟨by omega,by omega⟩
def xJ (n:aa):Int:=tt ((br n-(aa.probe n).2.1)*1000+500) 1 60000
noncomputable def qF (K:Nat)(w:ao)(c:dw)(p:dJ):dw:=bif p.1==w.2.2.1 then pS K c (ao.coord w) (sl K p.2.2) w.2.2.2.2.1 else c
def kF (n:aa)(w:ao):List dJ:=pb (aa.places n) w.2.2.1 (ao.coord w) (xJ n)
def qG (n:aa)(w:ao):Bool:=!decide ((aa.probe n).1<0)&&(aa.probe n).1==w.2.2.1&&(aa.probe n).2.2.1==w.2.2.2.2.1&&w.2.2.2.2.2.1==w.2.2.1
noncomputable def fq (K:Nat)(n:aa)(w:ao):aa:=bif qG n w then pP n ((kF n w).foldl (qF K w) (aa.coord n)) (kF n w) else n
theorem u6 {K:Nat}{w:ao}{c:dw}{p:dJ}(r:cC c)(u:1048577<K):cC (qF K w c p):=by
 unfold qF;cases p.1==w.2.2.1 with
 |false=>exact r
 |true=>exact (xG K c _ _ _ r u).2
theorem tu {n:aa}(h:UpX n)(H:¬ (aa.probe n).1<0):(aa.probe n).1≠n.1/\InP (aa.probe n).1 0 7/\ap (aa.probe n).1=ap n.1/\InP (aa.probe n).2.1 0 (br n):=by
 have r:=h.probe;unfold cU at r;rw[if_neg (by omega)]at r;obtain⟨y,⟨f,u,e⟩,z,_⟩:=r;exact⟨y,e ▸ (h.table.1 f u).1,e ▸ h.site f u,z⟩
theorem u7 {n:aa}{w:ao}(h:UpX n)(I:cC (ao.coord w))(y:qG n w=true):eu n.1 (kF n w):=by
 simp only[qG,CW,CU,decide_eq_false_iff_not,beq_iff_eq]at y;obtain⟨⟨⟨J,H⟩,M⟩,O⟩:=y;obtain⟨u,z,r,_⟩:=tu h J;rw[H]at u z r;exact vW h.places z r u I (At (by decide))
theorem ack_s (K:Nat)(n:aa)(w:ao)(h:UpN n)(Y:cC (ao.coord w))(J:1048577<K):Q182.f K (n,w,())=some ((fq K n w,()),()):=by
 simp only[Q182.f,Q182.pre,zc00556];have H:qG n w=(!decide ((aa.probe n).1<0)&&(aa.probe n).1==w.2.2.1&&(aa.probe n).2.2.1==w.2.2.2.2.1&&w.2.2.2.2.2.1==w.2.2.1):=rfl;by_cases r:(aa.probe n).1<0
 ·rw[show decide (n.2.2.2.2.2.2.2.2.2.2.1.1<0)=true from decide_eq_true r];rw[show fq K n w=n by unfold fq;rw[H,decide_eq_true r];rfl];rfl
 ·rw[show decide (n.2.2.2.2.2.2.2.2.2.2.1.1<0)=false from decide_eq_false r];cases u:(aa.probe n).1==w.2.2.1 with
  |false =>
   rw[show fq K n w=n by unfold fq;rw[H,decide_eq_false r,u];rfl];rw[show (n.2.2.2.2.2.2.2.2.2.2.1.1 != w.2.2.1)=true by unfold bne;rw[show (n.2.2.2.2.2.2.2.2.2.2.1.1==w.2.2.1)=false from u];rfl];rfl
  |true =>
   rw[show (n.2.2.2.2.2.2.2.2.2.2.1.1 != w.2.2.1)=false by unfold bne;rw[show (n.2.2.2.2.2.2.2.2.2.2.1.1==w.2.2.1)=true from u];rfl];cases z:(aa.probe n).2.2.1==w.2.2.2.2.1 with
   |false =>
    rw[show fq K n w=n by unfold fq;rw[H,decide_eq_false r,u,z];rfl];rw[show (n.2.2.2.2.2.2.2.2.2.2.1.2.2.1 != w.2.2.2.2.1)=true by unfold bne;rw[show (n.2.2.2.2.2.2.2.2.2.2.1.2.2.1==w.2.2.2.2.1)=false from z];rfl];rfl
   |true =>
    rw[show (n.2.2.2.2.2.2.2.2.2.2.1.2.2.1 != w.2.2.2.2.1)=false by unfold bne;rw[show (n.2.2.2.2.2.2.2.2.2.2.1.2.2.1==w.2.2.2.2.1)=true from z];rfl];cases I:w.2.2.2.2.2.1==w.2.2.1 with
    |false =>
     rw[show fq K n w=n by unfold fq;rw[H,decide_eq_false r,u,z,I];rfl];rw[show (w.2.2.2.2.2.1 != w.2.2.1)=true by unfold bne;rw[I];rfl];rfl
    |true =>
     have X:qG n w=true:=by rw[H,decide_eq_false r,u,z,I];rfl
     rw[show (w.2.2.2.2.2.1 != w.2.2.1)=false by unfold bne;rw[I];rfl];have hp:=(tu h.x r).2.2.2;have hn:=h.now1;have O:=u7 h.x Y X;simp only[cond_false];rw[show wr .i64 (wr .i64 (wr .i64 (n.2.2.2.2.2.1-n.2.2.2.2.2.2.2.2.2.2.1.2.1)*1000)+500)=(br n-(aa.probe n).2.1)*1000+500 by
      obtain⟨p1,p2⟩:=hp;show wr .i64 (wr .i64 (wr .i64 (br n-(aa.probe n).2.1)*1000)+500)=_;rw[aE (n:=br n-_) (by omega) (by omega),aE (n:=_*1000) (by omega) (by omega),aE (by omega) (by omega)]]
     rw[zN];simp only[BG];refine (congrArg (λo=>BJ o _) (Ar K (aa.places n) w.2.2.1 (ao.coord w) (xJ n) n.1 h.x.places J)).trans ?_;simp only[BG];rw[show fq K n w=pP n ((kF n w).foldl (qF K w) (aa.coord n)) (kF n w) by unfold fq;rw[X];rfl];show Q182.l0 K (n,w,()) (0,(aa.coord n).1,(aa.coord n).2.1,(aa.coord n).2.2.1,(aa.coord n).2.2.2,kF n w)=_;have hl:=plen O;refine kT (step:=λrec a=>Q182.s0 K (n,w,()) rec a) (kF n w) (qF K w) cC (λc i=>((i:Int),c.1,c.2.1,c.2.2.1,c.2.2.2,kF n w)) (λc=>some ((pP n c (kF n w),()),())) (aa.coord n) h.x.coord ?_ ?_ (by omega)
     ·intro rec c i R M;refine⟨?_,u6 M J⟩;simp only[Q182.s0,zc00556,zcp8];rw[bo (by omega:(i:Int)<(BI (kF n w):Int)),BM,ag R,ar i (by omega)];simp only[cond_true,BG];have Z:=(O.1 _ (BQ R)).2.2.2.2.1.2;generalize (kF n w)[i]=y at *;unfold qF;cases y.1==w.2.2.1 with
      |false=>rfl
      |true =>
       simp only[cond_true];refine (congrArg (λo=>BJ o _) (med_s K y.2.2 (by omega) J)).trans ?_;refine (congrArg (λo=>BJ o _) (xG K c (ao.coord w) (sl K y.2.2) w.2.2.2.2.1 M J).1).trans ?_;rfl
     ·intro rec c M;simp only[Q182.s0,zc00556,zcp8,aR,cond_false];rfl
theorem Bk {K:Nat}{n:aa}{w:ao}(h:UpN n)(r:cC (ao.coord w))(z:1048577<K):UpN (fq K n w)/\(fq K n w).1=n.1/\(fq K n w).2.2.1=n.2.2.1:=by
 unfold fq;cases u:qG n w with
 |false=>exact⟨h,rfl,rfl⟩
 |true=>exact⟨h.heard (kz (Inv:=cC) h.x.coord λc p _ y=>u6 y z) (u7 h.x r u),rfl,rfl⟩
def pU (n:aa)(w:ao):Prop:=n.2.1=true/\n.2.2.1=false/\w.2.2.2.1=n.1/\w.2.2.1≠n.1 /\
 (if w.1=2 then w.2.1=6/\ap w.2.2.1≠ap n.1/\(ce (ao.table w) (ap n.1)\/ce (ao.table w) (ap w.2.2.1)) else ap w.2.2.1=ap n.1/\(w.2.1≠6\/¬ ce (ao.table w) (ap n.1)))
theorem Au (K:Nat)(n:aa)(w:ao)(z:(ao.table w).length<=1048576)(J:1048577<K):Ret (Q152.f K (n,w,())) (pU n w):=by
 refine (Ret.cndN (P:=¬ n.2.1=true) (b:=!n.2.1) (by simp) λ_=>Ret.cndN (P:=n.2.2.1=true) (b:=n.2.2.1) Iff.rfl λ_=>Ret.cndN (P:=w.2.2.2.1≠n.1) (b:=w.2.2.2.1 != n.1) (by simp) λ_=>Ret.cndN (P:=w.2.2.1=n.1) (b:=w.2.2.1==n.1) (by simp) λ_ =>
  (?_:Ret _ (if w.1=2 then w.2.1=6/\ap w.2.2.1≠ap n.1/\(ce (ao.table w) (ap n.1)\/ce (ao.table w) (ap w.2.2.1)) else ap w.2.2.1=ap n.1/\(w.2.1≠6\/¬ ce (ao.table w) (ap n.1))))).iff ?_
 ·refine Ret.vl (eG K n.1) ?_;obtain⟨H,I,y⟩:=gr K (ao.table w) (ap n.1) z J;obtain⟨O,R,M⟩:=gr K (ao.table w) (ap w.2.2.1) z J;by_cases r:w.1=2
  ·rw[show (w.1==2)=true by simpa using r,if_pos r];refine Ret.cnd (P:=w.2.1=6) (b:=w.2.1==6) (by simp) λ_=>?_
   refine Ret.cnd (P:=ap w.2.2.1≠ap n.1) (b:=ap w.2.2.1 != ap n.1) (by simp) λ_=>Ret.vl I ?_
   cases H with
   |true=>exact Ret.yes (.inl (y.1 rfl))
   |false =>
    refine Ret.vl R ?_;exact Ret.of (b:=O) (M.trans ⟨.inr,λh=>h.resolve_left λh=>by have:=y.2 h;cases this⟩)
  ·rw[show (w.1==2)=false by simpa using r,if_neg r];refine Ret.cnd (P:=ap w.2.2.1=ap n.1) (b:=ap w.2.2.1==ap n.1) (by simp) λ_=>?_
   by_cases u:w.2.1=6
   ·show Ret (bif w.2.1 != 6 then _ else _) _;rw[show (w.2.1 != 6)=false by simpa using u];refine Ret.vl I (Ret.of (b:=!H) ?_);rw[CU,<- CX,y];exact⟨.inr,λh=>h.resolve_left λh=>h u⟩
   ·show Ret (bif w.2.1 != 6 then _ else _) _;rw[show (w.2.1 != 6)=true by simpa using u];exact Ret.yes (.inl u)
 ·unfold pU;rw[CK,CX,CK]
def sm (u:Int)(n:aa)(to y r:Int)(t:List af):ao:=(1,u,n.1,to,y,r,aa.coord n,t)
theorem pV (K:Nat)(n:aa)(u to y r:Int)(t:List af)(z:t.length<=1048576):Q153.f K (n,u,to,y,r,t,())=some ((sm u n to y r t,()),()):=by
 simp only[Q153.f];rw[szb _ _ _ (by omega) (by show (BI ([]:List af))+t.length<=_;simp;omega)];rfl
def nU (t:List af)(s:Int):Bool:=t.all λf=>ap f.1==s
theorem m8 {t:List af}{s:Int}:nU t s=true<->ce t s:=by simp[nU,ce]
def jz (t:List af):af:=(t.head?).getD (0,0,0,false)
def fQ (n:aa)(w:ao):List af:=fE (di (aa.others n) (ap (jz (ao.table w)).1)) (ao.table w)
def backW (n:aa)(w:ao):ao:=(2,6,n.1,w.2.2.1,0,n.1,aa.coord n,fQ n w)
def sumN (n:aa)(w:ao):aa:=setO n (bH (λx:cS=>x.1) (ap (jz (ao.table w)).1,fQ n w) (aa.others n))
def gO (n:aa)(w:ao):aa×List ao:=bif nU (ao.table w) (ap n.1) then (jk n (ao.table w) n.1,[]) else
 (sumN n w,bif w.1==2&&decide (ao.table w≠fQ n w) then [backW n w] else [])
theorem pW:∀ {fs t:List af} {g:af},g∈fE t fs->g∈t\/g∈fs
 |[],_,_,h=>.inl h
 |f::fs,t,g,h=>by
  rcases pW (fs:=fs) h with h|h
  ·have h:g∈(bS t f).1:=h;rcases gZ t f with e|e
   ·rw[e]at h;exact .inl h
   ·rw[e]at h;rcases aZ.1 h with rfl|⟨h,_⟩
    ·exact .inr (by simp)
    ·exact .inl h
  ·exact .inr (by simp[h])
theorem pX:∀ {fs t:List af} {g:af},g∈t->∃ H∈fE t fs,H.1=g.1
 |[],_,g,h=>⟨g,h,rfl⟩
 |f::fs,t,g,h=>by
  obtain⟨J,I,u⟩:=mT (f:=f) h;obtain⟨y,r,z⟩:=pX (fs:=fs) I;exact⟨y,r,z.trans u⟩
theorem uw {t:List af}(H:Asc (λg:af=>g.1) t)(f:af):∃ g∈(bS t f).1,g.1=f.1:=by
 by_cases h:∃ g∈t,g.1=f.1
 ·obtain⟨g,r,e⟩:=h;obtain⟨y,z,u⟩:=mT (f:=f) r;exact⟨y,z,u.trans e⟩
 ·rw[im λg r e=>h ⟨g,r,e⟩];exact⟨f,aZ.2 (.inl rfl),rfl⟩
theorem m9 {n:aa}{w:ao}(h:c6 n.1 (aa.others n))(H:ax (ao.table w))(u:pI (ao.table w)):ax (fQ n w)/\fQ n w≠[]/\ce (fQ n w) (ap (jz (ao.table w)).1):=by
 have z:=tr h (ap (jz (ao.table w)).1);refine⟨rh z H.1,?_,?_⟩
 ·unfold fQ;cases y:ao.table w with
  |nil=>rw[y]at u;exact u.elim
  |cons f l =>
   obtain⟨g,J,_⟩:=uw (f:=f) (t:=di (aa.others n) (ap (jz (f::l)).1)) (by rw[y]at z;exact z.2);obtain⟨R,I,_⟩:=pX (fs:=l) J;exact List.ne_nil_of_mem I
 ·intro g r;rcases pW r with r|r
  ·rcases mQ (l:=aa.others n) (s:=ap (jz (ao.table w)).1) with e|⟨x,O,M,e⟩
   ·rw[e]at r;cases r
   ·rw[e]at r;rw[<- M];exact (h.1 x O).2.2.2.2 g r
  ·cases y:ao.table w with
   |nil=>rw[y]at u;exact u.elim
   |cons f l =>
    rw[y]at u r;exact u g r
theorem Av {x:Int}(h:InP x 0 7):InP (ap x) 0 1:=by
 rw[kE h];obtain⟨r,u⟩:=h;constructor <;> omega
theorem zh {t:List af}(u:pI t)(r:ax t):InP (jz t).1 0 7:=by
 cases t with
 |nil=>exact u.elim
 |cons f l=>exact (r.1 f (by simp)).1
theorem xK (K:Nat)(n:aa)(w:ao)(h:UpN n)(r:ax (ao.table w))(z:pI (ao.table w))(y:1048577<K):Q165.f K (n,w,())=some (((gO n w).1,(gO n w).2,()),()):=by
 simp only[Q165.f];rw[eG K n.1];simp only[BG];obtain⟨H,O,M⟩:=gr K (ao.table w) (ap n.1) (cE r) y;have J:nU (ao.table w) (ap n.1)=H:=by rw[Bool.eq_iff_iff,m8,M]
 unfold gO;rw[J];refine (congrArg (λo=>BJ o _) O).trans ?_;simp only[rb,BG];cases H with
 |true =>
  simp only[cond_true];refine (congrArg (λo=>BJ o _) (uX K n (ao.table w) n.1 h.learns r.1 (cE r) h.x.me y)).trans rfl
 |false =>
  simp only[cond_false];obtain⟨R,X,Y⟩:=m9 (n:=n) h.x.others r z;have u:idx (ao.table w) 0=some (jz (ao.table w)):=by
   cases I:ao.table w with
   |nil=>rw[I]at z;exact z.elim
   |cons f l=>rfl
  refine (congrArg (λo=>BJ o _) u).trans ?_;simp only[BG];rw[eG K];simp only[BG];refine (congrArg (λo=>BJ o _) (xI K n (ap (jz (ao.table w)).1) (ao.table w) h.x.others r y)).trans ?_;simp only[BG];refine (congrArg (λo=>BJ o _) (sum_s K n (ap (jz (ao.table w)).1) (fQ n w) h.x.others y)).trans ?_;simp only[BG];cases w.1==2 with
  |false=>rfl
  |true =>
   simp only[cond_true,Bool.true_and];refine (congrArg (λo=>BJ o _) (zg K (ao.table w) (fQ n w) (cE r) y)).trans ?_;simp only[rb,BG];cases decide (ao.table w≠fQ n w) with
   |false=>rfl
   |true =>
    simp only[cond_true];refine (congrArg (λo=>BJ o _) (pV K (sumN n w) 6 w.2.2.1 0 n.1 (fQ n w) (cE R))).trans rfl
theorem vZ {n:aa}{w:ao}(h:UpN n)(z:n.2.2.1=false)(u:ax (ao.table w))(r:pI (ao.table w)):UpN (gO n w).1/\(gO n w).1.1=n.1/\(gO n w).1.2.2.1=false:=by
 unfold gO;cases y:nU (ao.table w) (ap n.1) with
 |true=>exact mm h z u (m8.1 y) (fF.me h.x.me)
 |false =>
  obtain⟨J,I,M⟩:=m9 (n:=n) h.x.others u r;refine⟨h.setOthers (vV h.x.others (Av (zh r u)) (λe=>?_) I J M),rfl,z⟩;have:ce (ao.table w) (ap n.1):=by
   cases H:ao.table w with
   |nil=>rw[H]at r;exact r.elim
   |cons f l=>rw[H]at r e;rw[<- e];exact r
  rw[m8.2 this]at y;cases y
noncomputable def fP (K:Nat)(n:aa)(w:ao):aa×List ao :=
 bif w.2.1==1 then (bif ap w.2.2.2.2.2.1 != ap n.1 then (n,[]) else bif w.2.2.2.2.2.1==n.1 then (n,[]) else (ir n,[sm 2 (ir n) w.2.2.2.2.2.1 w.2.2.2.2.1 n.1 (iW n w.2.2.2.2.2.1)]))
 else bif w.2.1==3 then (bif ap w.2.2.2.2.2.1 != ap n.1 then (n,[]) else bif w.2.2.2.2.2.1==n.1 then (n,[]) else bif w.2.2.2.2.2.1==w.2.2.1 then (n,[]) else (ir n,[sm 1 (ir n) w.2.2.2.2.2.1 w.2.2.2.2.1 w.2.2.1 (iW n w.2.2.2.2.2.1)]))
 else bif w.2.1==4 then (n,[sm 5 n w.2.2.1 0 n.1 (aa.table n)]) else bif w.2.1==2 then (fq K n w,[]) else (n,[])
theorem zi (K:Nat)(n:aa)(w:ao)(h:UpN n)(z:cC (ao.coord w))(y:1048577<K):Q183.f K (n,w,())=some (((fP K n w).1,(fP K n w).2,()),()):=by
 simp only[Q183.f];rw[eG K n.1];simp only[BG];have u:=qA K n w.2.2.2.2.2.1 h.x.say y;have r:=cE (km h.x.say w.2.2.2.2.2.1);unfold fP;cases w.2.1==1 with
 |true =>
  simp only[cond_true];rw[eG K];simp only[BG];cases ap w.2.2.2.2.2.1 != ap n.1 with
  |true=>rfl
  |false =>
   simp only[cond_false];cases w.2.2.2.2.2.1==n.1 with
   |true=>rfl
   |false =>
    simp only[cond_false];refine (congrArg (λo=>BJ o _) u).trans ?_;simp only[BG];refine (congrArg (λo=>BJ o _) (pV K (ir n) 2 w.2.2.2.2.2.1 w.2.2.2.2.1 n.1 _ r)).trans rfl
 |false =>
  simp only[cond_false];cases w.2.1==3 with
  |true =>
   simp only[cond_true];rw[eG K];simp only[BG];cases ap w.2.2.2.2.2.1 != ap n.1 with
   |true=>rfl
   |false =>
    simp only[cond_false];cases w.2.2.2.2.2.1==n.1 with
    |true=>rfl
    |false =>
     simp only[cond_false];cases w.2.2.2.2.2.1==w.2.2.1 with
     |true=>rfl
     |false =>
      simp only[cond_false];refine (congrArg (λo=>BJ o _) u).trans ?_;simp only[BG];refine (congrArg (λo=>BJ o _) (pV K (ir n) 1 w.2.2.2.2.2.1 w.2.2.2.2.1 w.2.2.1 _ r)).trans rfl
  |false =>
   simp only[cond_false];cases w.2.1==4 with
   |true=>exact (congrArg (λo=>BJ o _) (pV K n 5 w.2.2.1 0 n.1 (aa.table n) (cE h.x.table))).trans rfl
   |false =>
    simp only[cond_false];cases w.2.1==2 with
    |true=>exact (congrArg (λo=>BJ o _) (ack_s K n w h z y)).trans rfl
    |false=>rfl
theorem xL {K:Nat}{n:aa}{w:ao}(h:UpN n)(r:cC (ao.coord w))(u:1048577<K):UpN (fP K n w).1/\(fP K n w).1.1=n.1/\(fP K n w).1.2.2.1=n.2.2.1:=by
 unfold fP;cases w.2.1==1 <;> cases w.2.1==3 <;> cases w.2.1==4 <;> cases w.2.1==2 <;> cases ap w.2.2.2.2.2.1 != ap n.1 <;> cases w.2.2.2.2.2.1==n.1 <;> cases w.2.2.2.2.2.1==w.2.2.1 <;> first|exact⟨h,rfl,rfl⟩|exact⟨h.way,rfl,rfl⟩|exact Bk h r u
open Classical in
noncomputable def dA (K:Nat)(n:aa)(w:ao):aa×List ao :=
 if iS w/\pU n w then (if w.2.1=6 then gO n w else fP K (jk n (ao.table w) w.2.2.1) w) else (n,[])
theorem mn {n:aa}{w:ao}(H:iS w)(h:pU n w)(y:w.2.1≠6):ce (ao.table w) (ap n.1)/\fF n w.2.2.1:=by
 obtain⟨_,_,w3,_,_,_,_,_,z⟩:=H;rw[if_neg y]at z;obtain⟨_,_,_,_,r⟩:=h;by_cases u:w.1=2
 ·rw[if_pos u]at r;exact absurd r.1 y
 ·rw[if_neg u]at r;exact⟨r.1 ▸ z,w3,r.1⟩
theorem Bl (K:Nat)(n:aa)(w:ao)(h:n.2.1=true->UpN n)(I:(ao.table w).length<=1048576)(y:1048577<K):Q184.f K (n,w,())=some (((dA K n w).1,(dA K n w).2,()),()):=by
 simp only[Q184.f];obtain⟨b1,e1,X⟩:=sP K w I y;obtain⟨Y,e2,O⟩:=Au K n w I y;rw[e1];cases b1 with
 |false =>
  unfold dA;rw[if_neg λh=>by have:=X.2 h.1;cases this];rfl
 |true =>
  have z:=X.1 rfl;simp only[rb,BG,BN,cond_false];refine (congrArg (λo=>BJ o _) e2).trans ?_;cases Y with
  |false =>
   unfold dA;rw[if_neg λh=>by have:=O.2 h.2;cases this];rfl
  |true =>
   have H:=O.1 rfl;have J:=h H.1;simp only[rb,BG,BN,cond_false];unfold dA;rw[if_pos ⟨z,H⟩];have r:=z.2.2.2.2.2.2.2.1;by_cases u:w.2.1=6
   ·rw[if_pos u,show (w.2.1==6)=true by simpa using u];have R:=z.2.2.2.2.2.2.2.2;rw[if_pos u]at R;exact (congrArg (λo=>BJ o _) (xK K n w J r R y)).trans rfl
   ·rw[if_neg u,show (w.2.1==6)=false by simpa using u];obtain⟨Z,M⟩:=mn z H u;have hl:=(mm J H.2.1 r Z M).1;refine (congrArg (λo=>BJ o _) (uX K n (ao.table w) w.2.2.1 J.learns r.1 I M.1 y)).trans ?_;exact (congrArg (λo=>BJ o _) (zi K _ w hl z.2.2.2.2.2.2.1 y)).trans rfl
theorem u9 {K:Nat}{n:aa}{w:ao}(h:UpN n)(X:1048577<K):UpN (dA K n w).1/\(dA K n w).1.1=n.1/\(dA K n w).1.2.2.1=n.2.2.1:=by
 unfold dA;split
 ·rename_i R;obtain⟨y,u⟩:=R;have r:=y.2.2.2.2.2.2.2.1;split
  ·rename_i z;have J:=y.2.2.2.2.2.2.2.2;rw[if_pos z]at J;rw[u.2.1];exact vZ h u.2.1 r J
  ·rename_i z;obtain⟨M,O⟩:=mn y u z;have I:=mm h u.2.1 r M O;have H:=xL (w:=w) I.1 y.2.2.2.2.2.2.1 X;exact⟨H.1,H.2.1.trans I.2.1,H.2.2.trans (I.2.2.trans u.2.1.symm)⟩
 ·exact⟨h,rfl,rfl⟩
theorem pY {K:Nat}{n:aa}{w:ao}(h:UpN n)(hK:1048577<K):(dA K n w).2.length<=1/\∀ x∈(dA K n w).2,InP x.2.2.2.1 0 7/\(ao.table x).length<=1048576:=by
 unfold dA;split
 ·rename_i Z;obtain⟨u,M⟩:=Z;have y:=u.2.2.2.2.2.2.2.1;split
  ·rename_i z;have J:=u.2.2.2.2.2.2.2.2;rw[if_pos z]at J;obtain⟨a1,a2,a3⟩:=m9 (n:=n) h.x.others y J;unfold gO;cases nU (ao.table w) (ap n.1) with
   |true=>exact⟨by simp,by simp⟩
   |false =>
    simp only[cond_false];cases w.1==2&&decide (ao.table w≠fQ n w) with
    |false=>exact⟨by simp,by simp⟩
    |true=>exact⟨by simp,λx r=>by rw[BK.1 r];exact⟨u.2.2.1,cE a1⟩⟩
  ·rename_i z;obtain⟨R,X⟩:=mn u M z;have I:=mm h M.2.1 y R X;have O:=cE (km I.1.x.say w.2.2.2.2.2.1);have H:=cE I.1.x.table;have w3:=u.2.2.1;have Y:=u.2.2.2.2.2.1;generalize jk n (ao.table w) w.2.2.1=m at *;unfold fP;cases w.2.1==1 <;> cases w.2.1==3 <;> cases w.2.1==4 <;> cases w.2.1==2 <;> cases ap w.2.2.2.2.2.1 != ap m.1 <;> cases w.2.2.2.2.2.1==m.1 <;> cases w.2.2.2.2.2.1==w.2.2.1 <;>
    first|exact⟨CG _,λx r=>by rw[BK.1 r];exact⟨Y,O⟩⟩|exact⟨CG _,λx r=>by rw[BK.1 r];exact⟨w3,H⟩⟩|exact⟨BZ _,λx r=>nomatch r⟩
 ·exact⟨by simp,by simp⟩
theorem ux {n:aa}(h:∀ k,k<8->¬ gL n k):hH n=none:=by
 unfold hH;rw[List.find?_eq_none];intro x u;obtain⟨k,r,rfl⟩:=BV.1 u;have:=h k (by simpa using r);unfold gL at this;simpa using this
theorem uy {n:aa}{k:Nat}(u:k<8)(r:gL n k)(h:∀ j,j<k->¬ gL n j):hH n=some (bg n k):=by
 unfold hH;rw[List.find?_map,List.find?_range_eq_some.2 ⟨?_,by simpa using u,λj y=>?_⟩]
 ·rfl
 ·unfold gL at r;simpa using r
 ·have:=h j y;unfold gL at this;simpa[Classical.or_iff_not_imp_left]using this
theorem va (K:Nat)(n:aa)(h:b8 n)(O:tj n)(J:1048577<K):Q201.f K (n,())=some (((dN n).1,(dN n).2,()),()):=by
 obtain⟨⟨Z,Y⟩,⟨t0,t1⟩⟩:=O;obtain⟨to,X,u⟩:=u3 K n h t0 t1 J;simp only[Q201.f,zcp4];rw[X];simp only[BG,dN];by_cases r:jm n>=999999
 ·rw[decide_eq_true r,show decide (n.2.2.2.2.2.2.1>=999999)=true from decide_eq_true r];cases decide (to<0) <;> rfl
 ·rw[decide_eq_false r,show decide (n.2.2.2.2.2.2.1>=999999)=false from decide_eq_false r];simp only[cond_false];rcases u with ⟨rfl,I⟩|⟨k,M,y,z,rfl⟩
  ·rw[ux I];rfl
  ·rw[uy M y z];have R:0<=bg n k/\bg n k<8:=⟨Ca _ (by omega),CT _ (by omega)⟩;rw[decide_eq_false (by omega:¬ bg n k<0)];simp only[cond_false];rw[qA K n _ h J];simp only[BG];have H:wr .i64 (jm n+1)=jm n+1:=aE (by omega) (by omega);rw[show wr .i64 ((ir n).2.2.2.2.2.2.1+1)=n.2.2.2.2.2.2.1+1 from H,aE (n:=bg n k+1) (by omega) (by omega)];simp only[Q153.f];rw[szb _ _ _ (by omega) (by have:=cE (km h (bg n k));simp;omega)];rfl
def ia (w:ao):Prop:=InP w.2.2.2.1 0 7/\(ao.table w).length<=1048576
theorem tv {n:aa}(H:ax (aa.table n)):(a7 n).2.length<=2/\∀ w∈(a7 n).2,ia w:=by
 have r:([]:List ao).length<=2/\∀ w∈([]:List ao),ia w:=⟨by simp,by simp⟩;unfold a7;cases (aa.probe n).1==-1 with
 |true=>exact r
 |false =>
  cases !cL (aG (aa.table n) (aa.probe n).1) with
  |true=>exact r
  |false =>
   cases decide (n.2.2.2.2.2.1-(aa.probe n).2.1>=4) with
   |true=>exact r
   |false =>
    cases decide (n.2.2.2.2.2.1-(aa.probe n).2.1>=2) with
    |false=>exact r
    |true =>
     cases !(aa.probe n).2.2.2 with
     |false=>exact r
     |true =>
      simp only[cond_true,cond_false];refine⟨by rw[B8];exact CQ _ _,λw y=>?_⟩;obtain⟨to,u,rfl⟩:=BV.1 y;obtain⟨f,z,rfl⟩:=BV.1 (B5 u);exact⟨(H.1 f (B9.1 z).1).1,BZ _⟩
theorem zO {n:aa}(h:b8 n):(dN n).2.length<=1/\∀ w∈(dN n).2,ia w:=by
 have r:([]:List ao).length<=1/\∀ w∈([]:List ao),ia w:=⟨by simp,by simp⟩;unfold dN;cases decide (jm n>=999999) with
 |true=>exact r
 |false =>
  simp only[cond_false];cases z:hH n with
  |none=>exact r
  |some to =>
   refine⟨by simp,λw u=>?_⟩;rw[BK.1 u];obtain⟨H,y,I⟩:=c7 h.table (fk (rl z).2);exact⟨y ▸ H.1,cE (km h to)⟩
theorem Bm {n:aa}(I:c6 n.1 (aa.others n)){s d:Int}(z:InP s 0 1):InP (iX n s d) 0 7:=by
 unfold iX;cases u:decide (dK (di (aa.others n) s)≠[])&&aP .i64 d 4==0 with
 |true =>
  rw[CW,decide_eq_true_eq]at u;have:=(eK (d:=CN d (2 ^ 3)) u.1).2.2;unfold dK at this;obtain⟨f,H,e⟩:=BV.1 (B5 this);simp only[cond_true];show InP (gM (dK (di (aa.others n) s)) (CN d (2 ^ 3))) 0 7;unfold dK;rw[<- e];exact ((tr I s).1 f (B9.1 H).1).1
 |false =>
  obtain⟨y,r⟩:=lL (a:=CN d (2 ^ 3)) (m:=3) (by omega);have y:0<=aP .i64 (CN d (2 ^ 3)) 3:=y;have r:aP .i64 (CN d (2 ^ 3)) 3<=3:=r;obtain⟨M,J⟩:=z;simp only[cond_false];exact⟨by omega,by omega⟩
theorem vd {n:aa}(I:ax (aa.table n))(J:c6 n.1 (aa.others n))(r:Int):(dD n r).length<=2/\∀ w∈dD n r,ia w:=by
 have u:([]:List ao).length<=2/\∀ w∈([]:List ao),ia w:=⟨by simp,by simp⟩;unfold dD;cases aP .i64 r 3==1 with
 |true =>
  simp only[cond_true,gw];cases gN n with
  |false=>exact u
  |true =>
   refine⟨?_,λw z=>?_⟩
   ·show ((([0,1]:List Int).filter (λs=>s != ap n.1)).map _).length<=2;rw[B8];exact CE _ _
   ·obtain⟨s,M,rfl⟩:=BV.1 z;refine⟨Bm J ?_,cE I⟩;have:=(B9.1 M).1;simp at this;rcases this with rfl|rfl <;> exact⟨by decide,by decide⟩
 |false =>
  simp only[cond_false];by_cases y:bY n=[]
  ·rw[decide_eq_true y,Bool.or_true];exact u
  ·rw[decide_eq_false y,Bool.or_false];obtain⟨f,O,e⟩:=BV.1 (eK (d:=CN r (2 ^ 2)) y).2.2;have H:InP (gM (bY n) (CN r (2 ^ 2))) 0 7:=by
    rw[<- e];exact (I.1 f (B9.1 O).1).1
   cases aP .i64 r 3==3 with
   |true=>exact u
   |false =>
    simp only[cond_false];cases aP .i64 r 3==0 with
    |true=>exact⟨by simp,λw z=>by rw[BK.1 z];exact⟨H,cE I⟩⟩
    |false =>
     simp only[cond_false,lM]
     match R:aa.others n with
     |[]=>exact u
     |x::_=>exact⟨by simp,λw z=>by rw[BK.1 z];exact⟨H,cE (J.1 x (by rw[R];simp)).2.2.2.1⟩⟩
theorem UpX.far {n:aa}(h:UpX n):hZ n:=⟨by rcases mX h.me h.others with e|⟨x,e⟩ <;> rw[e] <;> simp,λx r=>⟨(h.others.1 x r).2.2.2.1,cE (h.others.1 x r).2.2.2.1⟩⟩
theorem na {n:aa}(h:UpX n)(H:br n<=1000000):((aa.probe n).1=-1\/0<=(aa.probe n).1)/\0<=(aa.probe n).2.1/\(aa.probe n).2.1<=1000000:=by
 have r:=h.probe;have y:br n=n.2.2.2.2.2.1:=rfl;unfold cU at r;split at r
 ·rename_i J;rw[r];exact⟨.inl rfl,by show (0:Int)<=0;omega,by show (0:Int)<=1000000;omega⟩
 ·obtain⟨_,⟨f,u,e⟩,⟨z,I⟩,_⟩:=r;have:=(h.table.1 f u).1.1;exact⟨.inr (e ▸ this),z,by omega⟩
theorem Bn {n:aa}(h:UpN n)(H:br n<999999)(r:Int):(iY n r).length<=5/\∀ w∈iY n r,ia w:=by
 have M:=(mZ h.x.later (show db (cj n) from h.self)).1.table;obtain⟨y,J⟩:=tv M;obtain⟨R,_,_⟩:=pO h H;have z:=(lN h H).1;obtain⟨X,O⟩:=vd z.x.table z.x.others r;have I:(dE (eQ n).1).2.length<=1/\∀ w∈(dE (eQ n).1).2,ia w:=by
  unfold dE;cases (aa.probe (eQ n).1).1==-1 with
  |true=>exact zO R.x.say
  |false=>exact⟨by simp,by simp⟩
 unfold iY;have y:(eQ n).2.length<=2:=y;refine⟨by rw[BO,BO];omega,λw u=>?_⟩;rcases BP.1 u with u|u
 ·rcases BP.1 u with u|u
  ·exact J w u
  ·exact I.2 w u
 ·exact O w u
theorem xM (K:Nat)(n:aa)(H:Int)(h:UpN n)(hg:n.2.2.1=false)(hm:br n<999999)(Y:1048577<K):Q208.f K (n,H,())=some ((fp n,iY n H,()),()):=by
 have a3:=h.x.now0;simp only[Q208.f,zcp4];refine (congrArg (λb=>bif !b then _ else _) h.up).trans ?_;refine (congrArg (λb=>bif b then _ else _) hg).trans ?_;refine (congrArg (λb=>bif b then _ else _) (decide_eq_false (show ¬ n.2.2.2.2.2.1>=999999 by have:br n=n.2.2.2.2.2.1:=rfl;omega))).trans ?_;simp only[cond_false];rw[show wr .i64 (n.2.2.2.2.2.1+1)=n.2.2.2.2.2.1+1 from aE (by have:br n=n.2.2.2.2.2.1:=rfl;omega) (by have:br n=n.2.2.2.2.2.1:=rfl;omega)];have hl:UpX (cj n):=h.x.later;have a1:∀ d∈aa.doubts (cj n),0<=d.2.2.1/\d.2.2.1<=(cj n).2.2.2.2.2.1/\d.2.2.2.length<=1048576:=λd hd=>by
  obtain⟨_,⟨s0,s1⟩,_,h4⟩:=hl.doubts.1 d hd;exact⟨s0,s1,BR (iU (k:=λx=>x) h4.2 λx hx=>(h4.1 x hx).1) (by decide)⟩
 have X:∀ d∈aa.doubts (cj n),∃ f∈aa.table (cj n),f.1=d.1:=λd hd=>by
  obtain⟨⟨f,hf,e,_⟩,_⟩:=hl.doubts.1 d hd;exact⟨f,hf,e⟩
 have Z:(cj n).2.2.2.2.2.1<=1000000:=by show br n+1<=1000000;omega
 refine (congrArg (λo=>BJ o _) (xf K (cj n) ⟨hl.say,X,rfl⟩ a1 Z Y)).trans ?_;simp only[BG];obtain⟨b1,b2,t,c,ds,eb⟩:=mZ hl (show db (cj n) from h.self);have z:tj (eQ n).1:=(pO h hm).1.seq;have a0:br (cM (cj n))=br n+1:=by rw[eb];rfl
 have hp:=na b1 (by omega);obtain⟨a2,_⟩:=tv b1.table;have R:=(lN h hm).1;have r:=xx K (fp n) H R.x.far R.x.table (cE R.x.table) Y;have u:=(pO h hm).1;obtain⟨I,_⟩:=zO u.x.say;obtain⟨y,_⟩:=vd R.x.table R.x.others H;unfold fp dE eQ at r R y;unfold eQ at z u I;unfold iY fp dE eQ;generalize cM (cj n)=m at *;rcases hp.1 with J|J
 ·have e0:a7 m=(m,[]):=by unfold a7;rw[show ((aa.probe m).1==-1)=true by simpa using J];rfl
  rw[e0]at r z u I y ⊢;refine (congrArg (λb=>bif b then _ else _) (decide_eq_false (show ¬ m.2.2.2.2.2.2.2.2.2.2.1.1>=0 by have:(aa.probe m).1=m.2.2.2.2.2.2.2.2.2.2.1.1:=rfl;omega))).trans ?_;refine (congrArg (λb=>bif b then _ else _) (decide_eq_true (show m.2.2.2.2.2.2.2.2.2.2.1.1<0 by have:(aa.probe m).1=m.2.2.2.2.2.2.2.2.2.2.1.1:=rfl;omega))).trans ?_;refine (congrArg (λo=>BJ o _) (va K m u.x.say z Y)).trans ?_;simp only[BG];rw[show ((aa.probe m).1==-1)=true by simpa using J]at r y ⊢;simp only[cond_true]at r y I ⊢;rw[szw _ _ _ (by omega) (by simp;omega)];simp only[cond_true];refine (congrArg (λo=>BJ o _) r).trans ?_;simp only[BG];rw[szw _ _ _ (by omega) (by simp;omega)];rfl
 ·refine (congrArg (λb=>bif b then _ else _) (decide_eq_true (show m.2.2.2.2.2.2.2.2.2.2.1.1>=0 from J))).trans ?_;refine (congrArg (λo=>BJ o _) (xi K m b1.say (by omega) hp.2.1 hp.2.2 b1.now0 (by have:br m=m.2.2.2.2.2.1:=rfl;omega) Y)).trans ?_;simp only[BG];generalize a7 m=fo at *;obtain⟨M,ws⟩:=fo;simp only at r z u I y a2 ⊢;have O:=(na u.x (by have:=u.now1;omega)).1;rcases O with O|O
  ·refine (congrArg (λb=>bif b then _ else _) (decide_eq_true (show M.2.2.2.2.2.2.2.2.2.2.1.1<0 by have:(aa.probe M).1=M.2.2.2.2.2.2.2.2.2.2.1.1:=rfl;omega))).trans ?_;refine (congrArg (λo=>BJ o _) (va K M u.x.say z Y)).trans ?_;simp only[BG];rw[show ((aa.probe M).1==-1)=true by simpa using O]at r y ⊢;simp only[cond_true]at r y ⊢;rw[szw _ _ _ (by omega) (by omega)];simp only[cond_true];refine (congrArg (λo=>BJ o _) r).trans ?_;simp only[BG];rw[szw _ _ _ (by omega) (by rw[BO];omega)];rfl
  ·refine (congrArg (λb=>bif b then _ else _) (decide_eq_false (show ¬ M.2.2.2.2.2.2.2.2.2.2.1.1<0 by have:(aa.probe M).1=M.2.2.2.2.2.2.2.2.2.2.1.1:=rfl;omega))).trans ?_;rw[show ((aa.probe M).1==-1)=false by simp;omega]at r y ⊢;simp only[cond_false]at r y ⊢;refine (congrArg (λo=>BJ o _) r).trans ?_;simp only[BG,CH];rw[szw _ _ _ (by omega) (by omega)];rfl
theorem tw (K:Nat)(l:List af)(f:af)(J:l.length<=1048576)(M:1048577<K):Ret (Q188.f K (l,f,())) (f∈l):=by
 have:=ch (step:=λrec a=>Q188.s0 K (l,f,()) rec a) l.length (λi=>(i:Int)) (λj=>∃ h:j<l.length,l[j]=f) (rb false) (λ_=>rb true) ?_ ?_ l.length K 0 (by omega) (by omega)
 ·rcases this with ⟨I,r⟩|⟨j,_,_,⟨y,z⟩,_,r⟩
  ·refine⟨false,r,?_⟩;refine⟨λh=>absurd h (by decide),λH=>?_⟩;obtain⟨i,u,e⟩:=B6 H;exact absurd ⟨u,e⟩ (I i (BZ _) u)
  ·exact⟨true,r,λ_=>z ▸ BQ y,λ_=>rfl⟩
 ·intro rec i u;simp only[Q188.s0];rw[bo (by omega:(i:Int)<(BI l:Int)),ag u,ar i (by omega)];simp only[cond_true,BG];rw[jI];by_cases h:l[i]=f
  ·rw[decide_eq_true h];exact .inr ⟨⟨u,h⟩,rfl⟩
  ·rw[decide_eq_false h];exact .inl ⟨λ⟨_,r⟩=>h r,rfl⟩
 ·intro rec;simp only[Q188.s0,aR];rfl
theorem UpN.nb {n:aa}(h:UpN n):NB n where
 table:=cE h.x.table
 cast:=by have:=clen h.x.say;omega
 doubts:=h.x.say.ld
 by_:=λd y=>by have:=(h.learns.by_ d y).len;omega
 places:=plen h.x.places
 trips:=λp r=>by have:=(h.x.places.1 p r).2.2.2.2.1.2;omega
 others:=olen h.x.others
 facts:=λx u=>cE (h.x.others.1 x u).2.2.2.1
def jA (r:Int)(g:Bool):aa:=(r,false,false,g,0,0,0,0,[],[],(0,0,0,false),[],(0,0,0,0),[],[])
structure dR (i:Nat) (n:aa):Prop where
 me:n.1=(i:Int)
 lt:i<8
 up:n.2.1=true->UpN n
 down:n.2.1=false->n=jA n.1 n.2.2.2.1
theorem dR.nb {i:Nat}{n:aa}(h:dR i n):NB n:=by
 cases r:n.2.1 with
 |true=>exact (h.up r).nb
 |false =>
  rw[h.down r];exact⟨by simp[jA,aa.table],by simp[jA,aa.cast],by simp[jA,aa.doubts],by simp[jA,aa.doubts],by simp[jA,aa.places],by simp[jA,aa.places],by simp[jA,aa.others],by simp[jA,aa.others]⟩
theorem dR.short {i:Nat}{n:aa}(h:dR i n):(aa.table n).length<=4:=by
 cases r:n.2.1 with
 |true=>exact ut (h.up r).x.table (h.up r).x.site
 |false=>rw[h.down r];exact BZ _
theorem dR.of {i:Nat}{n m:aa}(h:dR i n)(r:UpN m)(e:m.1=n.1):dR i m:=⟨e.trans h.me,h.lt,λ_=>r,λu=>by rw[r.up]at u;cases u⟩
def gP (l:List lK):Prop:=l.length<=60/\∀ f∈l,InP f.1 0 7/\f.2.1.size<=2000
structure WI (w:bX) (c:Nat):Prop where
 len:w.1.length=8
 node:∀ (i:Nat) (h:i<w.1.length),dR i w.1[i]
 radio:gP w.2.1
 sides:w.2.2.1.length=8
 born:w.2.2.2.length<=c
theorem WI.mono {w:bX}{c d:Nat}(h:WI w c)(r:c<=d):WI w d:=⟨h.len,h.node,h.radio,h.sides,BR h.born r⟩
theorem WI.put {w:bX}{c:Nat}(h:WI w c){i:Nat}{n:aa}(z:dR i n){rd:List lK}(r:gP rd){b:List af}{d:Nat}(y:b.length<=d):WI (w.1.set i n,rd,w.2.2.1,b) d:=by
 refine⟨by rw[BU];exact h.len,λj u=>?_,r,h.sides,y⟩;show dR j ((w.1.set i n)[j]'u);rw[List.getElem_set];split
 ·rename_i e;exact e ▸ z
 ·exact h.node j _
theorem xN (K:Nat)(w:bX)(X:Int)(u:List ao)(hs:w.2.2.1.length=8)(y:InP X 0 7)(J:∀ x∈u,ia x)(hr:gP w.2.1)(hl:u.length<=1000)(hK:1048577<K) :
  Tot (Q185.f K (w,X,u,())) λr=>∃ rd,gP rd/\r.1.1=(w.1,rd,w.2.2):=by
 simp only[Q185.f,Q185.pre];obtain⟨f0,f1⟩:=y;refine Tot.iter (step:=λrec a=>Q185.s0 K (w,X,u,()) rec a) (λa=>0<=a.1/\a.1<=u.length/\gP a.2) (λa=>u.length-a.1.toNat) ?_ K _ (by show u.length-BL 0<K;omega) ⟨by show (0:Int)<=0;omega,by show (0:Int)<=_;omega,hr⟩;rintro rec ⟨i,rd⟩ ⟨I,h1,H⟩ ih;simp only at I h1 H ih ⊢;simp only[Q185.s0];refine Tot.cnd (λh=>?_) λ_=>Tot.ret ⟨rd,H,rfl⟩
 have h:=of_decide_eq_true h;rw[aE (n:=i+1) (by omega) (by omega)];have M:∀ z,gP z->Tot (rec (i+1,z)) λr=>∃ rd,gP rd/\r.1.1=(w.1,rd,w.2.2):=λz R=>ih _ ⟨by show 0<=i+1;omega,by show i+1<=_;omega,R⟩ (by show u.length-BL (i+1)<u.length-BL i;omega)
 refine Tot.cnd (λh3=>?_) λ_=>M rd H
 have h3:=of_decide_eq_true h3;refine Tot.ix f0 (by omega) λ_ _ _=>Tot.ix I h λy2 Z _=>?_
 obtain⟨⟨t0,t1⟩,_⟩:=J y2 Z;refine Tot.ix t0 (by omega) λ_ _ _=>Tot.cnd (λ_=>Tot.fit (Tot.ix I h λy4 O _=>Tot.ix I h λy5 Y _=>Tot.bind (ot K y5 (J y5 Y).2 hK) λv hv=>Tot.fit (M _ ⟨?_,λf y=>?_⟩) (by omega) ?_) (by omega) ?_) λ_=>M rd H
 ·simp;omega
 ·rcases BP.1 y with y|y
  ·exact H.2 f (by simpa using y)
  ·rw[BK.1 y];exact⟨(J y4 O).1,by show v.1.1.size<=2000;have:=hv.1;omega⟩
 ·simp;omega
 ·simp;omega
theorem Tot.ins {α:Type}{l:List α}{x:α}{a:Int}{c:Nat}{Q:(List α×Unit)×Unit->Prop}(u:0<=a)(H:a<=l.length)(y:l.length<=1048576)(z:c<=64)(k:∀ r:List α,r.length=l.length+1->Q ((r,()),())) :
  Tot (bif decide ((0:Int)<=0)&&decide (0<=a)&&decide (a<=(BI l:Int))&&true then (bif decide ((BI ([]:List α)+BI ((l.take (BL a)).drop (BL 0)))*c<=ak) then (bif decide ((BI ([]++((l.take (BL a)).drop (BL 0)))+BI ([x]))*c<=ak) then (bif decide (0<=a)&&decide (a<=(BI l:Int))&&decide ((BI l:Int)<=(BI l:Int))&&true then (bif decide ((BI (([]++((l.take (BL a)).drop (BL 0)))++([x]))+BI ((l.take (BL (BI l:Int))).drop (BL a)))*c<=ak) then (some (((([]++((l.take (BL a)).drop (BL 0)))++([x]))++((l.take (BL (BI l:Int))).drop (BL a)),()),())) else none) else none) else none) else none) else none) Q:=by
 obtain⟨m,rfl⟩:=BY u;refine Tot.must (by simp;omega) (Tot.fit (Tot.fit (Tot.must (by simp;omega) (Tot.fit (Tot.ret (k _ ?_)) (by omega) ?_)) (by omega) ?_) (by omega) ?_) <;>
 simp only[BM,CC,B4,BT,BO,BX,CO,CY,CA] <;> omega
theorem zj (K:Nat)(f g:af):Tot (Q186.f K (f,g,())) λ_=>True:=by
 simp only[Q186.f];exact Tot.cnd (λ_=>Tot.ret trivial) λ_=>Tot.bind (sN K g f).tot λ_ _=>Tot.ret trivial
theorem xO (K:Nat)(l:List af)(f:af)(J:l.length<=1048576)(R:1048577<K):Tot (Q187.f K (l,f,())) λr=>r.1.1.length<=l.length+1:=by
 simp only[Q187.f,Q187.pre];refine Tot.iter (A:=Int) (step:=λrec a=>Q187.s0 K (l,f,()) rec a) (λa=>0<=a/\a<=l.length) (λa=>l.length-a.toNat) ?_ K _ (by show l.length-BL 0<K;omega) ⟨by show (0:Int)<=0;omega,by show (0:Int)<=_;omega⟩;rintro rec i ⟨H,z⟩ M;simp only[Q187.s0];have u:=λ (z:i<=l.length)=>Tot.ins (x:=f) (c:=32) (Q:=λr=>r.1.1.length<=l.length+1) H z J (by omega) λr O=>by show r.length<=_;omega
 have y:l.length<=l.length+1:=CP _;refine Tot.cnd (λh=>?_) λ_=>Tot.cnd (λh=>Tot.ix H (of_decide_eq_true h) λ_ _ _=>Tot.cnd (λ_=>Tot.ret y) λ_=>u z) λ_=>u z
 have h:i<(l.length:Int):=of_decide_eq_true h;rw[aE (n:=i+1) (by omega) (by omega)];refine Tot.ix H h λI _ _=>Tot.bind (zj K I f) λ_ _=>Tot.cnd (λ_=>M (i+1) ⟨by show 0<=i+1;omega,by show i+1<=(l.length:Int);omega⟩ (by show l.length-BL (i+1)<l.length-BL i;omega)) λ_=>Tot.cnd (λ_=>Tot.ix H h λ_ _ _=>Tot.cnd (λ_=>Tot.ret y) λ_=>u z) λ_=>u z
theorem zP (K:Nat)(w:bX)(z y u:List af)(h1:z.length<=1048576)(h2:y.length<=1048576)(h3:u.length<=100)(hb:w.2.2.2.length<=1000000)(M:1048577<K) :
  Tot (Q189.f K (w,z,y,u,())) λr=>∃ b,b.length<=w.2.2.2.length+u.length/\r.1.1=(w.1,w.2.1,w.2.2.1,b):=by
 simp only[Q189.f,Q189.pre];refine Tot.iter (step:=λrec a=>Q189.s0 K (w,z,y,u,()) rec a) (λa=>0<=a.1/\a.1<=u.length/\(a.2.length:Int)<=w.2.2.2.length+a.1) (λa=>u.length-a.1.toNat) ?_ K _ (by show u.length-BL 0<K;omega) ⟨by show (0:Int)<=0;omega,by show (0:Int)<=_;omega,by show (w.2.2.2.length:Int)<=w.2.2.2.length+0;omega⟩;rintro rec ⟨i,b⟩ ⟨H,Z,i2⟩ O;simp only at H Z i2 O ⊢;simp only[Q189.s0];refine Tot.cnd (λh=>?_) λ_=>Tot.ret ⟨b,by omega,rfl⟩
 have h:=of_decide_eq_true h;rw[aE (n:=i+1) (by omega) (by omega)];have J:∀ I:List af,I.length<=b.length+1->Tot (rec (i+1,I)) λr=>∃ b,b.length<=w.2.2.2.length+u.length/\r.1.1=(w.1,w.2.1,w.2.2.1,b):=λI X=>O _ ⟨by show 0<=i+1;omega,by show i+1<=_;omega,by show (I.length:Int)<=_+(i+1);omega⟩ (by show u.length-BL (i+1)<u.length-BL i;omega)
 refine Tot.ix H h λR _ _=>Tot.bind (tw K z R h1 M).tot λ_ _=>Tot.cnd (λ_=>?_) λ_=>J b (CP _)
 refine Tot.ix H h λy3 _ _=>Tot.bind (tw K y y3 h2 M).tot λ_ _=>Tot.cnd (λ_=>?_) λ_=>J b (CP _)
 exact Tot.ix H h λY _ _=>Tot.bind (xO K b Y (by omega) M) λv hv=>J v.1.1 hv
structure zQ (w:bX) (i:Nat) (n:aa) (ws:List ao) (heard:List af) (c:Nat):Prop where
 wi:WI w c
 lt:i<8
 n:dR i n
 sent:∀ x∈ws,ia x
 wl:ws.length<=1000
 hl:heard.length<=1048576
 c:c<=1000000
theorem set_t (K:Nat)(w:bX)(i:Nat)(n:aa)(H:List ao)(u:List af)(c:Nat)(h:zQ w i n H u c)(I:1048577<K):Tot (Q190.f K ((w,i),n,H,u,())) λr=>WI r.1.1 (c+4):=by
 simp only[Q190.f];have z:i<w.1.length:=by rw[h.wi.len];exact h.lt
 have O:=h.c;have M:=h.wi.born;have J:=h.n.short;rw[h.n.me];refine Tot.vl (ag z) (Tot.vl (by rw[BM];exact ag z) (Tot.vl (ag z) (Tot.vl (by rw[BM];exact ag z) ?_)));refine Tot.must (by simp) ?_;rw[BM];refine Tot.bind (zP K (w.1.set i n,w.2) (aa.table w.1[i]) u (aa.table n) (h.wi.node i z).nb.table h.hl (by omega) (by show w.2.2.2.length<=_;omega) I) ?_;rintro⟨⟨v,⟨⟩⟩,⟨⟩⟩ ⟨b,y,rfl⟩;refine Tot.bind (xN K (w.1.set i n,w.2.1,w.2.2.1,b) (i:Int) H h.wi.sides ⟨by omega,by have:=h.lt;omega⟩ h.sent h.wi.radio h.wl I) ?_;rintro⟨⟨v,⟨⟩⟩,⟨⟩⟩ ⟨rd,hr,rfl⟩;have y:b.length<=w.2.2.2.length+(aa.table n).length:=y;exact Tot.ret (h.wi.put h.n hr (by omega))
theorem Bo (K:Nat)(w:bX)(i:Nat)(n:aa)(H:List ao)(u:List af)(c:Nat)(h:zQ w i n H u c)(I:1048577<K):Tot (Q209.f K (w,n,H,u,())) λr=>WI r.1.1 (c+4):=by
 simp only[Q209.f];have z:i<w.1.length:=by rw[h.wi.len];exact h.lt
 have O:=h.c;have M:=h.wi.born;have J:=h.n.short;rw[h.n.me];refine Tot.vl (ag z) (Tot.vl (by rw[BM];exact ag z) (Tot.vl (ag z) (Tot.vl (by rw[BM];exact ag z) ?_)));rw[BM];refine Tot.bind (zP K (w.1.set i n,w.2) (aa.table w.1[i]) u (aa.table n) (h.wi.node i z).nb.table h.hl (by omega) (by show w.2.2.2.length<=_;omega) I) ?_;rintro⟨⟨v,⟨⟩⟩,⟨⟩⟩ ⟨b,y,rfl⟩;refine Tot.bind (xN K (w.1.set i n,w.2.1,w.2.2.1,b) (i:Int) H h.wi.sides ⟨by omega,by have:=h.lt;omega⟩ h.sent h.wi.radio h.wl I) ?_;rintro⟨⟨v,⟨⟩⟩,⟨⟩⟩ ⟨rd,hr,rfl⟩;have y:b.length<=w.2.2.2.length+(aa.table n).length:=y;exact Tot.ret (h.wi.put h.n hr (by omega))
theorem ru (K:Nat)(l:List lK)(at_:Int)(z:0<=at_)(I:at_<l.length)(y:gP l):Tot (Q151.f K (l,at_,())) λr=>gP r.1.1:=by
 have H:=y.1;obtain⟨m,rfl⟩:=BY z;simp only[Q151.f];rw[ar m (by omega)];refine Tot.must (by simp;omega) (Tot.fit (Tot.must (by simp;omega) (Tot.fit (Tot.ret ⟨?_,λf u=>y.2 f ?_⟩) (by omega) ?_)) (by omega) ?_)
 ·simp only[BM,CC,B4,BT,BO,BX,CO];omega
 ·simp only[BM,CC,B4,BT,CF]at u;rcases BP.1 u with u|u
  ·exact B5 u
  ·exact List.mem_of_mem_drop u
 ·simp only[BM,CC,B4,BT,BO,BX,CO];omega
 ·simp only[BM,CC,B4,BT,BX,CA];omega
theorem rv (K:Nat)(w:bX)(c:Nat)(h:WI w c)(hc:c<=1000000)(to:Int)(t0:0<=to)(t1:to<=7)(x:ao)(X:iS x)(H:1048577<K){G:aa->aa->Option ((bX×Unit)×Unit)}
  (Z:∀ y:aa,G y y=(Q184.f K (y,x,())).bind λI=>(Q190.f K ((w,BL to),I.1.1,I.1.2.1,ao.table x,())).bind λO=>some ((O.1.1,()),())) :
  Tot ((idx w.1 to).bind λ_=>(idx w.1 (BL to:Nat)).bind λR=>(idx w.1 (BL to:Nat)).bind λM=>G R M) λr=>WI r.1.1 (c+4):=by
 obtain⟨i,rfl⟩:=BY t0;have J:i<w.1.length:=by rw[h.len];omega
 have z:=h.node i J;refine Tot.vl (ag J) (Tot.vl (by rw[BM];exact ag J) (Tot.vl (by rw[BM];exact ag J) ?_));rw[Z,Bl K w.1[i] x z.up (cE X.2.2.2.2.2.2.2.1) H];simp only[BG,BM];refine Tot.bind (set_t K w i _ _ _ c ⟨h,z.lt,?_,?_,?_,cE X.2.2.2.2.2.2.2.1,hc⟩ H) λv hv=>Tot.ret hv
 ·cases u:w.1[i].2.1 with
  |true=>exact z.of (u9 (z.up u) H).1 (u9 (z.up u) H).2.1
  |false =>
   rw[show dA K w.1[i] x=(w.1[i],[]) by unfold dA;rw[if_neg λh=>by have:=h.2.1;rw[u]at this;cases this]];exact z
 ·cases u:w.1[i].2.1 with
  |true=>exact λy Y=>(pY (z.up u) H).2 y Y
  |false =>
   rw[show dA K w.1[i] x=(w.1[i],[]) by unfold dA;rw[if_neg λh=>by have:=h.2.1;rw[u]at this;cases this]];simp
 ·cases u:w.1[i].2.1 with
  |true=>have:=(pY (w:=x) (z.up u) H).1;omega
  |false =>
   rw[show dA K w.1[i] x=(w.1[i],[]) by unfold dA;rw[if_neg λh=>by have:=h.2.1;rw[u]at this;cases this]];simp
theorem Aw (K:Nat)(w:bX)(c:Nat)(h:WI w c)(hc:c<=1000000)(at_:Int)(keep:Bool)(h0:0<=at_)(h1:at_<w.2.1.length)(X:1048577<K):Tot (Q191.f K (w,at_,keep,())) λr=>WI r.1.1 (c+4):=by
 simp only[Q191.f,zcp8];refine Tot.ix2 h0 h1 λf hf _=>?_
 obtain⟨⟨t0,t1⟩,a0⟩:=h.radio.2 f hf;have hs:=h.sides;refine Tot.cnd (λ_=>Tot.bind (ru K w.2.1 at_ h0 h1 h.radio) ?_) λ_=>Tot.bind (pR K f.2.1 (by omega) X) ?_
 ·rintro⟨⟨rd,⟨⟩⟩,⟨⟩⟩ hr;have R:WI (w.1,rd,w.2.2) (c+4):=⟨h.len,h.node,hr,h.sides,BR h.born (by omega)⟩;refine Tot.bind (pR K f.2.1 (by omega) X) ?_;rintro⟨⟨(x:ao),ok,⟨⟩⟩,⟨⟩⟩ H;refine Tot.cnd (λ_=>Tot.ret R) λZ=>?_
  have H:iS x:=H (by simpa using Z);obtain⟨O,Y⟩:=H.2.2.1;have M:x.2.2.1<(w.2.2.1.length:Int):=by rw[hs];omega
  refine Tot.ix2 O M λ_ _ _=>Tot.ix2 t0 (by omega) λ_ _ _=>Tot.cnd (λ_=>Tot.ret R) λ_=>Tot.cnd (λ_=>Tot.ret R) λ_=>?_
  exact rv K (w.1,rd,w.2.2) c ⟨h.len,h.node,hr,h.sides,h.born⟩ hc f.1 t0 t1 x H X (G:=λu I=>(Q184.f K ((u.1,(u.2.1,(u.2.2.1,(u.2.2.2.1,(u.2.2.2.2.1,(u.2.2.2.2.2.1,(u.2.2.2.2.2.2.1,(u.2.2.2.2.2.2.2.1,(u.2.2.2.2.2.2.2.2.1,(u.2.2.2.2.2.2.2.2.2.1,(u.2.2.2.2.2.2.2.2.2.2.1,(I.2.2.2.2.2.2.2.2.2.2.2.1,u.2.2.2.2.2.2.2.2.2.2.2.2)))))))))))),x,())).bind λz=>(Q190.f K (((w.1,rd,w.2.2),BL f.1),z.1.1,z.1.2.1,ao.table x,())).bind λJ=>some ((J.1.1,()),())) λy=>rfl
 ·rintro⟨⟨(x:ao),ok,⟨⟩⟩,⟨⟩⟩ H;have R:WI w (c+4):=h.mono (by omega);refine Tot.cnd (λ_=>Tot.ret R) λZ=>?_
  have H:iS x:=H (by simpa using Z);obtain⟨O,Y⟩:=H.2.2.1;have M:x.2.2.1<(w.2.2.1.length:Int):=by rw[hs];omega
  refine Tot.ix2 O M λ_ _ _=>Tot.ix2 t0 (by omega) λ_ _ _=>Tot.cnd (λ_=>Tot.ret R) λ_=>Tot.cnd (λ_=>Tot.ret R) λ_=>?_
  exact rv K w c h hc f.1 t0 t1 x H X (G:=λu I=>(Q184.f K ((u.1,(u.2.1,(u.2.2.1,(u.2.2.2.1,(u.2.2.2.2.1,(u.2.2.2.2.2.1,(u.2.2.2.2.2.2.1,(u.2.2.2.2.2.2.2.1,(u.2.2.2.2.2.2.2.2.1,(u.2.2.2.2.2.2.2.2.2.1,(u.2.2.2.2.2.2.2.2.2.2.1,(I.2.2.2.2.2.2.2.2.2.2.2.1,u.2.2.2.2.2.2.2.2.2.2.2.2)))))))))))),x,())).bind λz=>(Q190.f K (((w.1,w.2),BL f.1),z.1.1,z.1.2.1,ao.table x,())).bind λJ=>some ((J.1.1,()),())) λy=>rfl
theorem Ax (K:Nat)(w:bX)(c:Nat)(h:WI w c)(at_ u:Int)(O:0<=at_)(X:at_<w.2.1.length):Tot (Q192.f K (w,at_,u,())) λr=>WI r.1.1 c:=by
 simp only[Q192.f];refine Tot.ix2 O X λf Z _=>?_
 obtain⟨I,J⟩:=h.radio.2 f Z;refine Tot.cnd (λ_=>Tot.ret h) λ_=>Tot.cnd (λ_=>Tot.ret h) λY=>?_
 have z:¬ (f.2.1.size:Int)=0:=by simpa using Y
 obtain⟨y,b1⟩:=lL (a:=u) (m:=4095) (by omega);have y:0<=aP .i64 u 4095:=y;have M:0<=CD (aP .i64 u 4095) (f.2.1.size:Int):=Ca _ y;have R:CD (aP .i64 u 4095) (f.2.1.size:Int)<((er f.2.1).length:Int):=by rw[rq];exact CT _ (by omega)
 refine Tot.not (decide_eq_false z) (Tot.ix2 M R λ_ _ _=>Tot.ix2 M R λ_ _ _=>Tot.ix2 O X λ_ _ _=>Tot.ret ⟨h.len,h.node,⟨?_,λg H=>?_⟩,h.sides,h.born⟩)
 ·show (w.2.1.set _ _).length<=60;rw[BU];exact h.radio.1
 ·rcases List.mem_or_eq_of_mem_set H with H|rfl
  ·exact h.radio.2 g H
  ·refine⟨I,?_⟩;show (gH _).size<=2000;rw[iZ,BU,rq];exact J
def mo (i:Int)(g:Bool):aa:=(i,true,false,g,0,0,0,0,[(i,0,1,g)],[],(-1,0,0,false),[],(0,0,0,1500),[],[])
theorem Ay {i:Int}{g:Bool}(h:InP i 0 7):UpN (mo i g):=by
 refine⟨⟨h,CL _,⟨λf y=>?_,List.pairwise_singleton _ _⟩,λf y=>?_,⟨λx u=>(nomatch u),List.Pairwise.nil⟩,λx u=>(nomatch u),?_,⟨λd z=>(nomatch z),List.Pairwise.nil,rfl⟩,⟨?_,?_,?_,?_⟩,⟨λp r=>(nomatch r),List.Pairwise.nil⟩,⟨λp r=>(nomatch r),List.Pairwise.nil⟩⟩,?_,?_,⟨?_,?_⟩,?_,rfl⟩
 ·rw[BK.1 y];exact⟨h,⟨by show (0:Int)<=0;omega,by show (0:Int)<=999;omega⟩,by show (1:Int)<=1;omega,by show (1:Int)<=4;omega⟩
 ·rw[BK.1 y];rfl
 ·unfold cU;rw[if_pos (show (aa.probe (mo i g)).1=-1 from rfl)];rfl
 ·exact⟨by show (-100000:Int)<=0;omega,by show (0:Int)<=100000;omega⟩
 ·exact⟨by show (-100000:Int)<=0;omega,by show (0:Int)<=100000;omega⟩
 ·exact⟨by show (0:Int)<=0;omega,by show (0:Int)<=100000;omega⟩
 ·exact⟨by show (1:Int)<=1500;omega,by show (1500:Int)<=1500;omega⟩
 ·exact BK.2 rfl
 ·show (0:Int)<=999999;omega
 ·exact⟨by show (0:Int)<=0;omega,by show (0:Int)<=999999;omega⟩
 ·exact⟨by show (0:Int)<=0;omega,by show (0:Int)<=8;omega⟩
 ·exact⟨by show (0:Int)<=0;omega,by show (0:Int)<=999;omega⟩
theorem rx (K:Nat)(i:Int)(g:Bool)(h:InP i 0 7):Q131.f K (i,g,())=some ((mo i g,()),()):=by
 simp only[Q131.f];obtain⟨b,e,r⟩:=cB K i 0 7;rw[e,r.2 h];rfl
theorem dR.new (i:Nat)(g:Bool)(h:i<8):dR i (mo (i:Int) g):=⟨rfl,h,λ_=>Ay ⟨by omega,by omega⟩,λr=>by cases r⟩
theorem Bp (K:Nat)(w:bX)(c:Nat)(h:WI w c)(M:c<=1000000)(u:Int)(y:InP u 0 7)(H:1048577<K):Tot (Q211.f K (w,u,())) λr=>WI r.1.1 (c+4):=by
 have O:=h.born;have I:u.toNat<8:=by obtain⟨a,b⟩:=y;omega
 have z:=h.len;simp only[Q211.f,Q120.f,BG];rw[rx K u _ y];simp only[BG];refine Tot.ix2 y.1 (by have:=y.2;omega) λ_ _ _=>?_
 refine Tot.vl (show idx (mo u (decide (CD u 4<3))).2.2.2.2.2.2.2.2.1 0=some (u,0,1,decide (CD u 4<3)) from rfl) (Tot.bind (xO K w.2.2.2 _ (by omega) H) λv J=>Tot.ret (h.put ?_ h.radio (by omega)));have:=dR.new u.toNat (decide (CD u 4<3)) I
 rwa [CR y.1]at this
theorem Az {n:aa}(h:UpN n):(lJ n).length<=8/\∀ x∈lJ n,ia x:=by
 unfold lJ;refine⟨?_,λx u=>?_⟩
 ·rw[B8];exact BR (CE _ _) (iU h.x.table.2 λf r=>(h.x.table.1 f r).1)
 ·obtain⟨f,r,rfl⟩:=BV.1 u;exact⟨(h.x.table.1 f (B9.1 r).1).1,cE h.x.table⟩
theorem Bq (K:Nat)(w:bX)(c:Nat)(h:WI w c)(hc:c<=1000000)(e:af)(h0:InP e.2.1 0 7)(O:1048577<K):Tot (Q213.f K (w,e,())) λr=>WI r.1.1 (c+4):=by
 have a0:=h.len;have hs:=h.sides;obtain⟨a2,a1,u,keep⟩:=e;obtain⟨e0,e1⟩:=h0;simp only at e0 e1;obtain⟨i,rfl⟩:=BY e0;have Z:i<w.1.length:=by omega
 have M:=h.node i Z;have y:=h.mono (show c<=c+4 by omega);simp only[Q213.f];refine Tot.vl (ag Z) (Tot.vl (by rw[BM];exact ag Z) ?_);generalize w.1[i]=n at M ⊢;refine Tot.cnd (λ_=>?_) λ_=>Tot.cnd (λ_=>?_) λ_=>Tot.cnd (λ_=>?_) λ_=>?_
 ·
  rw[zN];simp only[BG];exact Tot.ix2 (by omega) (by omega) λ_ _ _=>Tot.ret ⟨y.len,y.node,y.radio,by show (w.2.2.1.set _ _).length=8;rw[BU];exact h.sides,y.born⟩
 ·
  simp only[Q210.f,BG];refine Tot.ix2 (by omega) (by omega) λ_ _ _=>Tot.ret (y.put (i:=i) (n:=jA n.1 n.2.2.2.1) ?_ y.radio y.born)
  exact⟨M.me,M.lt,λJ=>(by cases J),λ_=>rfl⟩
 ·
  exact Tot.cnd (λ_=>Tot.ret y) λ_=>Tot.bind (Bp K w c h hc (i:Int) ⟨by omega,by omega⟩ O) λv H=>Tot.ret H
 ·refine Tot.cnd (λ_=>Tot.ret y) λJ=>Tot.cnd (λ_=>Tot.ret y) λR=>?_
  have J:n.2.1=true:=by simpa using J
  have z:=M.up J;have set:=λ (m:aa) (Y:List ao) (I:UpN m) (em:m.1=n.1) (X:∀ x∈Y,ia x) (hl:Y.length<=1000)=>Bo K w i m Y [] c ⟨h,M.lt,M.of I em,X,hl,BZ _,hc⟩ O
  refine Tot.cnd (λ_=>?_) λ_=>Tot.cnd (λ_=>?_) λ_=>Tot.cnd (λ_=>?_) λ_=>Tot.ret y
  ·refine Tot.cnd (λ_=>Tot.ret y) λI=>?_
   have I:br n<999999:=by have I:¬ n.2.2.2.2.2.1>=999999:=of_decide_eq_false I;show n.2.2.2.2.2.1<999999;omega
   obtain⟨t1,t2,_⟩:=lN z I;obtain⟨w1,w2⟩:=Bn z I u;exact Tot.vl (xM K n u z R I O) (Tot.bind (set _ _ t1 t2 w2 (BR w1 (by omega))) λv H=>Tot.ret H)
  ·obtain⟨t1,t2⟩:=zc z R;obtain⟨w1,w2⟩:=Az t1;exact Tot.vl (Ae K n z.nb z.ok J R O) (Tot.bind (set _ _ t1 t2 w2 (BR w1 (by omega))) λv H=>Tot.ret H)
  ·refine Tot.bind (cB K u 0 7).tot λv H=>Tot.cnd (λ_=>Tot.ret y) λh1=>Tot.cnd (λ_=>Tot.ret y) λ_=>?_
   have hd:InP u 0 7:=H.1 (by simpa using h1);rw[eG K,eG K];simp only[BG];refine Tot.cnd (λ_=>Tot.ret y) λ_=>?_
   refine Tot.vl (nQ K n 4 u (cE z.x.table)) (Tot.bind (set n _ z rfl (λx hx=>?_) (by simp)) λv H=>Tot.ret H);rw[BK.1 hx];exact⟨hd,cE z.x.table⟩
theorem do_t (K:Nat)(w:bX)(c:Nat)(h:WI w c)(R:c<=1000000)(e:af)(O:1048577<K):Tot (Q215.f K (w,e,())) λr=>WI r.1.1 (c+4):=by
 have z:=h.mono (show c<=c+4 by omega);have hr:=h.radio.1;simp only[Q215.f];rw[aE (n:=(BI w.2.1:Int)-1) (by omega) (by omega)];have u:Tot ((Q12.f K (e.2.1,0,(BI w.2.1:Int)-1,())).bind λX=>bif !X.1.1 then (some ((w,false,()),())) else (bif e.1==2 then ((Q191.f K (w,e.2.1,e.2.2.2,())).bind λZ=>some ((Z.1.1,true,()),())) else (bif e.1==4 then ((Q192.f K (w,e.2.1,e.2.2.1,())).bind λM=>some ((M.1.1,M.1.2.1,()),())) else ((Q151.f K (w.2.1,e.2.1,())).bind λY=>some (((w.1,(Y.1.1,w.2.2)),true,()),()))))) λr=>WI r.1.1 (c+4):=by
  refine Tot.bind (cB K _ _ _).tot λv y=>Tot.cnd (λ_=>Tot.ret z) λJ=>?_
  obtain⟨I,H⟩:InP e.2.1 0 ((BI w.2.1:Int)-1):=y.1 (by simpa using J);have H:e.2.1<(w.2.1.length:Int):=by omega
  refine Tot.cnd (λ_=>Tot.bind (Aw K w c h R e.2.1 e.2.2.2 I H O) λv y=>Tot.ret y) λ_=>Tot.cnd (λ_=>Tot.bind (Ax K w c h e.2.1 e.2.2.1 I H) λv y=>Tot.ret (WI.mono y (by omega))) λ_=>?_
  exact Tot.bind (ru K w.2.1 e.2.1 I H h.radio) λv y=>Tot.ret ⟨z.len,z.node,y,z.sides,z.born⟩
 refine Tot.cnd (λ_=>u) λ_=>Tot.cnd (λ_=>u) λ_=>Tot.cnd (λ_=>u) λ_=>?_
 exact Tot.bind (cB K _ _ _).tot λv y=>Tot.cnd (λ_=>Tot.ret z) λJ=>Tot.bind (Bq K w c h R e (y.1 (by simpa using J)) O) λv y=>Tot.ret y
theorem zk (K:Nat)(w:bX)(Y:w.1.length<=1048576)(I:∀ n∈w.1,NB n)(X:w.2.1.length<=1048576)(O:w.2.2.1.length<=1048576)(R:w.2.2.2.length<=1048576)(H:1048577<K):Q216.f K (w,())=some ((w,()),()):=by
 simp only[Q216.f,Q216.pre];rw[szb _ _ _ (by omega) (by show (BI ([]:List lK))+w.2.1.length<=_;simp;omega)];simp only[cond_true];rw[szb _ _ _ (by omega) (by show (BI ([]:List Int))+w.2.2.1.length<=_;simp;omega)];simp only[cond_true];rw[szb _ _ _ (by omega) (by show (BI ([]:List af))+w.2.2.2.length<=_;simp;omega)];simp only[cond_true];have:∀ (d i k:Nat),i+d=w.1.length->d<k->ae (λrec a=>Q216.s0 K (w,()) rec a) k ((i:Int),w.1.take i)=some ((w,()),()):=by
  intro d;induction d with
  |zero =>
   intro i k J y;obtain⟨k,rfl⟩:∃ u,k=u+1:=⟨k-1,by omega⟩;have:i=w.1.length:=by omega
   subst this;show Q216.s0 K (w,()) _ _=_;simp only[Q216.s0,aR,CF];rfl
  |succ d z =>
   intro i k J y;obtain⟨k,rfl⟩:∃ u,k=u+1:=⟨k-1,by omega⟩;have r:i<w.1.length:=by omega
   show Q216.s0 K (w,()) _ _=_;simp only[Q216.s0];rw[bo (by omega:(i:Int)<(BI w.1:Int)),ag r,ar i (by omega)];simp only[cond_true,BG];refine (congrArg (λo=>BJ o _) (jJ K w.1[i] (I _ (BQ r)) H)).trans ?_;simp only[BG];have M:decide (((w.1.take i).length+[w.1[i]].length)*232<=ak)=true:=decide_eq_true (by
    rw[BX];simp only[CY,CA,ak];omega)
   refine (congrArg (λb=>bif b then _ else _) M).trans ?_;have e:w.1.take i++[w.1[i]]=w.1.take (i+1):=by rw[CJ,B7 r];rfl
   rw[<- z (i+1) k (by omega) (by omega),<- e];rfl
 exact this w.1.length 0 K (by omega) (by omega)
theorem WI.copy {w:bX}{c:Nat}(h:WI w c)(J:c<=1000000)(K:Nat)(r:1048577<K):Q216.f K (w,())=some ((w,()),()):=by
 have M:=h.len;have z:=h.radio.1;have H:=h.sides;have I:=h.born;refine zk K w (by omega) (λn u=>?_) (by omega) (by omega) (by omega) r;obtain⟨i,y,rfl⟩:=B6 u;exact (h.node i y).nb
theorem Br (K:Nat)(w:bX)(c:Nat)(y:List af)(h:WI w c)(Z:y.length<=1000)(hc:c<=900000)(O:1048577<K):Tot (Q217.f K (w,y,())) λr=>WI r.1.1 (c+4*y.length)/\r.2.1=y:=by
 simp only[Q217.f,Q217.pre];refine Tot.iter (step:=λrec a=>Q217.s0 K (w,y,()) rec a) (λa=>0<=a.1/\a.1<=y.length/\WI a.2 (c+4*a.1.toNat)) (λa=>y.length-a.1.toNat) ?_ K _ (by show y.length-BL 0<K;omega) ⟨by show (0:Int)<=0;omega,by show (0:Int)<=_;omega,h⟩;rintro rec ⟨i,v⟩ ⟨J,Y,H⟩ R;simp only at J Y H R ⊢;simp only[Q217.s0];refine Tot.cnd (λz=>?_) λ_=>Tot.ret ⟨WI.mono H (by omega),rfl⟩
 have z:i<(y.length:Int):=of_decide_eq_true z;rw[aE (n:=i+1) (by omega) (by omega)];refine Tot.vl (H.copy (by omega) K O) (Tot.ix2 J z λe _ _=>Tot.bind (do_t K v _ H (by omega) e O) ?_);rintro⟨⟨v',ok,⟨⟩⟩,⟨⟩⟩ I;have I:WI v' (c+4*i.toNat+4):=I;have M:∀ u:bX,WI u (c+4*i.toNat+4)->Tot (rec (i+1,u)) λr=>WI r.1.1 (c+4*y.length)/\r.2.1=y:=λu X=>R (i+1,u) ⟨by show 0<=i+1;omega,by show i+1<=_;omega,X.mono (by show _<=c+4*(i+1).toNat;omega)⟩ (by show y.length-BL (i+1)<y.length-BL i;omega)
 exact Tot.cnd (λ_=>M v' I) λ_=>M v (H.mono (by omega))
theorem wa (K:Nat)(hK:1048577<K):Tot (Q132.f K ()) λr=>WI r.1.1 8:=by
 simp only[Q132.f,Q132.pre];refine Tot.iter (step:=λrec a=>Q132.s0 K () rec a) (λa=>0<=a.1/\a.1<=8/\a.2.1.length=a.1.toNat/\(∀ (j:Nat) (y:j<a.2.1.length),dR j a.2.1[j])/\a.2.2.1.length=a.1.toNat/\a.2.2.2.length=a.1.toNat) (λa=>8-a.1.toNat) ?_ K _ (by show 8-BL 0<K;omega) ⟨by show (0:Int)<=0;omega,by show (0:Int)<=8;omega,rfl,λj y=>(by cases y),rfl,rfl⟩;rintro rec ⟨i,z,R,O⟩ ⟨H,h1,Z,I,Y,h5⟩ X;simp only at H h1 Z I Y h5 X ⊢;simp only[Q132.s0];refine Tot.cnd (λu=>?_) λu=>?_
 ·have u:i<=7:=of_decide_eq_true u;rw[aE (n:=i+1) (by omega) (by omega)];simp only[Q120.f,BG];refine Tot.vl (rx K i _ ⟨H,u⟩) (Tot.fit (Tot.fit (Tot.vl (show idx (mo i (decide (CD i 4<3))).2.2.2.2.2.2.2.2.1 0=some (i,0,1,decide (CD i 4<3)) from rfl) (Tot.fit (X _ ⟨by show 0<=i+1;omega,by show i+1<=8;omega,?_,λj y=>?_,?_,?_⟩ (by show 8-BL (i+1)<8-BL i;omega)) (by omega) ?_)) (by omega) ?_) (by omega) ?_)
  ·show (z++[mo i _]).length=(i+1).toNat;simp;omega
  ·show dR j ((z++[mo i (decide (CD i 4<3))])[j]'y);rw[List.getElem_append];split
   ·exact I j _
   ·rename_i M;have y:j<(z++[mo i (decide (CD i 4<3))]).length:=y;have J:j=i.toNat:=by simp at y;omega
    subst J;have:=dR.new i.toNat (decide (CD i 4<3)) (by omega);rw[CR H]at this;simpa using this
  ·show (R++[0]).length=(i+1).toNat;simp;omega
  ·show (O++[_]).length=(i+1).toNat;simp;omega
  ·simp;omega
  ·simp;omega
  ·simp;omega
 ·have M:=of_decide_eq_false u;refine Tot.ret ⟨?_,I,⟨BZ _,λf hf=>(nomatch hf)⟩,?_,?_⟩
  ·show z.length=8;omega
  ·show R.length=8;omega
  ·show O.length<=8;omega
abbrev LtP (v n:Int):Prop:=0<=v/\v<n
def bi (b:List Int)(m:Nat)(s:List Int×Int):Prop:=∃ q:Nat,q<=m/\s=(b,(q:Int))
theorem bi.up {b:List Int}{m:Nat}{s:List Int×Int}(h:bi b m s){m':Nat}(u:m<=m'):bi b m' s:=by obtain⟨q,y,r⟩:=h;exact⟨q,by omega,r⟩
section
variable {K:Nat} {b:List Int} {m:Nat} {s:List Int×Int}
theorem aH (h:fZ b)(y:bi b m s)(n:Int)(H:1<=n)(I:m<=99000):Tot (Q117.f K (s,n,())) λr=>LtP r.1.1 n/\bi b (m+1) r.2.1:=by
 obtain⟨q,J,rfl⟩:=y;obtain⟨v,e,u,z⟩:=Ai K b q n h (by omega) H;exact⟨_,e,⟨u,z⟩,q+1,by omega,rfl⟩
theorem Bs (r:List Int)(z:∀ y∈r,0<=y/\y<=255)(I:r.length<=9223372036854775807):∃ u:List Int,fZ u/\Q116.f K (r,())=some (((u,(0:Int)),()),()):=by
 simp only[Q116.f];by_cases h:(r.length:Int)>2000
 ·rw[decide_eq_true h,decide_eq_true (by omega:(2000:Int)<=(r.length:Int))];exact⟨(r.take 2000).drop 0,⟨λy H=>z y (B5 (by simpa using H)),by simp;omega⟩,rfl⟩
 ·rw[decide_eq_false h];exact⟨r,⟨z,by omega⟩,rfl⟩
theorem xP (h:fZ b)(M:bi b m s)(u:Int)(h0:0<=u)(h1:u<=1)(hm:m<=98000):Tot (Q121.f K (s,u,())) λr=>(bA r.1.1/\ap r.1.1.1=u)/\bi b (m+5) r.2.1:=by
 simp only[Q121.f];refine Tot.bind (aH h M 4 (by decide) (by omega)) λH ⟨⟨a1,b1⟩,J⟩=>Tot.bind (aH h J 3 (by decide) (by omega)) λv2 ⟨⟨a2,b2⟩,O⟩=>Tot.bind (aH h O 12 (by decide) (by omega)) λv3 ⟨⟨a3,b3⟩,Y⟩=>Tot.bind (aH h Y 3 (by decide) (by omega)) λv4 ⟨⟨X,Z⟩,R⟩=>Tot.ix2 X Z λy z _=>Tot.bind (aH h R 4 (by decide) (by omega)) λI ⟨⟨a5,b5⟩,s5⟩=>?_
 simp only[Q120.f,BG];have z:InP y 0 999:=by
  simp only[Cb,CZ,or_false]at z;rcases z with rfl|rfl|rfl <;> constructor <;> omega
 rw[aE (n:=u*4) (by omega) (by omega),aE (n:=u*4+H.1.1) (by omega) (by omega),aE (n:=1+I.1.1) (by omega) (by omega)];refine Tot.ret ⟨⟨⟨⟨?_,?_⟩,z,?_,?_⟩,?_⟩,s5⟩
 ·show (0:Int)<=u*4+H.1.1;omega
 ·show u*4+H.1.1<=7;omega
 ·show (1:Int)<=1+I.1.1;omega
 ·show (1:Int)+I.1.1<=4;omega
 ·show ap (u*4+H.1.1)=u;rw[kE ⟨by omega,by omega⟩];omega
theorem rz (h:fZ b)(J:bi b m s)(hm:m<=97000):Tot (Q123.f K (s,())) λr=>bi b (m+8) r.2.1:=by
 simp only[Q123.f];refine Tot.bind (aH h J 2 (by decide) (by omega)) λX ⟨⟨Z,b1⟩,I⟩=>Tot.bind (xP h I X.1.1 Z (by omega) (by omega)) λf ⟨_,M⟩=>Tot.bind (aH h M 12 (by decide) (by omega)) λY ⟨_,H⟩=>?_
 have u:∀ {x y:Int} {G:(Int×Unit)×(List Int×Int)×Unit->Int->Option ((af×Unit)×(List Int×Int)×Unit)},(∀ v z,Tot (G v z) λr=>r.2.1=v.2.1)->Tot ((Q117.f K (Y.2.1,2,())).bind λv=>(idx [x,y] v.1.1).bind λ_=>(idx [x,y] (BL v.1.1:Nat)).bind (G v)) λr=>bi b (m+8) r.2.1:=λO=>Tot.bind (aH h H 2 (by decide) (by omega)) λv ⟨⟨a,b⟩,R⟩=>Tot.ix2 a b λz _ _=>(O v z).mono λr e=>by rw[e];exact R.up (by omega)
 refine Tot.cnd (λ_=>u λ_ _=>Tot.ret rfl) λ_=>Tot.cnd (λ_=>u λ_ _=>Tot.ret rfl) λ_=>Tot.cnd (λ_=>u λ_ _=>Tot.ret rfl) λ_=>Tot.cnd (λ_=>Tot.ret (H.up (by omega))) λ_=>Tot.ret (H.up (by omega))
theorem xQ (t:List af)(f:af):(bS t f).1.length<=t.length+1:=by
 rcases gZ t f with e|e
 ·rw[e];omega
 ·rw[e];exact yJ
theorem wb {t:List af}{f:af}{z:Int}(h:ce t z)(u:ap f.1=z):ce (bS t f).1 z:=by
 rcases gZ t f with e|e <;> rw[e]
 ·exact h
 ·intro g r;rcases aZ.1 r with rfl|⟨r,_⟩
  ·exact u
  ·exact h g r
theorem ve (h:fZ b)(hs:bi b m s)(u:Int)(h0:-1<=u)(h1:u<=1)(hm:m<=96000)(hK:1048577<K):Tot (Q122.f K (s,u,())) λr=>(ax r.1.1/\(0<=u->ce r.1.1 u)/\r.1.1.length<=5)/\bi b (m+31) r.2.1:=by
 simp only[Q122.f,Q122.pre];refine Tot.bind (aH h hs 6 (by decide) (by omega)) λv ⟨⟨v0,v1⟩,s1⟩=>?_
 refine Tot.iter (step:=λrec a=>Q122.s0 K (s,u,()) rec a) (λa=>∃ q:Nat,0<=a.2.1/\ax a.1/\(0<=u->ce a.1 u)/\(a.1.length:Int)+a.2.1<=5/\bi b q a.2.2/\q+6*a.2.1.toNat<=m+31) (λa=>a.2.1.toNat) ?_ K _ (by show v.1.1.toNat<K;omega) ⟨m+1,v0,⟨by simp,List.Pairwise.nil⟩,λ_ f hf=>(nomatch hf),by show ((0:Nat):Int)+v.1.1<=5;omega,s1,by show m+1+6*v.1.1.toNat<=m+31;omega⟩;rintro rec ⟨t,n,s2⟩ ⟨q,n0,O,Y,hl,I,hq⟩ ih;simp only at n0 O Y hl I hq ih ⊢;simp only[Q122.s0];refine Tot.cnd (λhn=>?_) λ_=>Tot.ret ⟨⟨O,Y,by show t.length<=5;omega⟩,I.up (by omega)⟩
 have hn:n>0:=of_decide_eq_true hn;rw[aE (n:=n-1) (by omega) (by omega)];have go:∀ (z:Int) (M:Nat) (J:List Int×Int),0<=z->z<=1->(0<=u->z=u)->bi b M J->M<=q+1->Tot ((Q121.f K (J,z,())).bind λX=>(Q119.f K (t,X.1.1,())).bind λy4=>rec (y4.1.1,n-1,X.2.1.1,X.2.1.2)) λr=>(ax r.1.1/\(0<=u->ce r.1.1 u)/\r.1.1.length<=5)/\bi b (m+31) r.2.1:=λz M J z0 z1 hz R a1=>by
  refine Tot.bind (xP h R z z0 z1 (by omega)) λy ⟨⟨hf,Z⟩,a0⟩=>Tot.vl (vQ K t y.1.1 (by omega) O.2 hK) (ih (_,_,y.2.1) ⟨M+5,by show 0<=n-1;omega,kx O hf,λh9=>wb (Y h9) (by rw[Z];exact hz h9),?_,a0,by show M+5+6*(n-1).toNat<=m+31;omega⟩ (by show (n-1).toNat<n.toNat;omega))
  have:=xQ t y.1.1;show ((bS t y.1.1).1.length:Int)+(n-1)<=5;omega
 refine Tot.cnd (λH=>?_) λH=>?_
 ·have H:u<0:=of_decide_eq_true H;exact Tot.bind (aH h I 2 (by decide) (by omega)) λv ⟨⟨a,b⟩,J⟩=>go v.1.1 (q+1) v.2.1 a (by omega) (λh9=>by omega) J (CG _)
 ·have H:¬ u<0:=of_decide_eq_false H;exact go u q s2 (by omega) h1 (λ_=>rfl) I (by omega)
theorem pZ (h:fZ b)(O:bi b m s)(hm:m<=95000)(R:1048577<K):Tot (Q124.f K (s,())) λr=>r.1.1.length<=6/\bi b (m+42) r.2.1:=by
 simp only[Q124.f];refine Tot.bind (ve h O (-1) (by decide) (by decide) (by omega) R) λt ⟨⟨hT,_,hl⟩,I⟩=>?_
 refine Tot.cnd (λM=>?_) λ_=>Tot.ret ⟨by show t.1.1.length<=6;omega,I.up (by omega)⟩
 have M:(t.1.1.length:Int)>0:=of_decide_eq_true M;refine Tot.bind (aH h I 12 (by decide) (by omega)) λv2 ⟨_,J⟩=>Tot.cnd (λ_=>?_) λ_=>Tot.ret ⟨by show t.1.1.length<=6;omega,J.up (by omega)⟩
 refine Tot.bind (aH h J (t.1.1.length:Int) (by omega) (by omega)) λv3 ⟨⟨H,z⟩,X⟩=>Tot.bind (aH h X 3 (by decide) (by omega)) λZ ⟨_,u⟩=>?_
 refine Tot.cnd (λ_=>Tot.bind (rz h u (by omega)) λf Y=>Tot.ix2 H z λ_ _ _=>Tot.ret ⟨by show (t.1.1.set _ _).length<=6;rw[BU];omega,Y.up (by omega)⟩) λ_=>?_
 refine Tot.cnd (λ_=>Tot.ix2 H z λy _ _=>Tot.fit (Tot.ret ⟨by show (t.1.1++[y]).length<=6;simp;omega,u.up (by omega)⟩) (by omega) (by simp;omega)) λ_=>Tot.ix2 H z λy _ _=>Tot.ret ⟨by show (t.1.1.set _ _).length<=6;rw[BU];omega,u.up (by omega)⟩
theorem AA (h:fZ b)(Y:bi b m s)(u:Int)(X:-1<=u)(h1:u<=1)(hm:m<=95000)(hK:1048577<K):Tot (Q125.f K (s,u,())) λr=>r.1.1.length<=5/\bi b (m+36) r.2.1:=by
 simp only[Q125.f,Q125.pre];refine Tot.bind (ve h Y u X h1 (by omega) hK) λt ⟨⟨hT,_,hl⟩,R⟩=>?_
 refine Tot.iter (step:=λrec a=>Q125.s0 K (s,u,()) rec a) (λa=>a.2.1=t.1.1/\0<=a.2.2.1/\a.2.2.1<=t.1.1.length/\(a.1.length:Int)=a.2.2.1/\bi b (m+31+a.2.2.1.toNat) a.2.2.2) (λa=>t.1.1.length-a.2.2.1.toNat) ?_ K _ (by show t.1.1.length-BL 0<K;omega) ⟨rfl,by show (0:Int)<=0;omega,by show (0:Int)<=_;omega,rfl,R⟩;rintro rec ⟨H,t',i,s2⟩ ⟨e,M,Z,I,z⟩ O;simp only at e M Z I z O ⊢;subst e;simp only[Q125.s0];refine Tot.cnd (λJ=>?_) λ_=>Tot.ret ⟨by show H.length<=5;omega,z.up (by omega)⟩
 have J:i<(t.1.1.length:Int):=of_decide_eq_true J;rw[aE (n:=i+1) (by omega) (by omega)];refine Tot.ix2 M J λy _ _=>Tot.bind (aH h z 4 (by decide) (by omega)) λv ⟨_,s3⟩=>Tot.fit (O (_,_,_,v.2.1) ⟨rfl,by show 0<=i+1;omega,by show i+1<=_;omega,?_,s3.up (by show _<=m+31+(i+1).toNat;omega)⟩ (by show t.1.1.length-(i+1).toNat<t.1.1.length-i.toNat;omega)) (by omega) (by simp;omega)
 show ((H++[_]).length:Int)=i+1;simp;omega
theorem wc (h:fZ b)(R:bi b m s)(hm:m<=94000)(Z:1048577<K):Tot (Q126.f K (s,())) λr=>r.1.1.length<=6/\bi b (m+50) r.2.1:=by
 simp only[Q126.f];refine Tot.bind (AA h R (-1) (by decide) (by decide) (by omega) Z) λt ⟨hl,J⟩=>?_
 refine Tot.cnd (λO=>?_) λ_=>Tot.ret ⟨by show t.1.1.length<=6;omega,J.up (by omega)⟩
 have O:(t.1.1.length:Int)>0:=of_decide_eq_true O;refine Tot.bind (aH h J 10 (by decide) (by omega)) λv2 ⟨_,M⟩=>Tot.cnd (λ_=>?_) λ_=>Tot.ret ⟨by show t.1.1.length<=6;omega,M.up (by omega)⟩
 refine Tot.bind (aH h M (t.1.1.length:Int) (by omega) (by omega)) λv3 ⟨⟨H,z⟩,s3⟩=>Tot.bind (aH h s3 3 (by decide) (by omega)) λv4 ⟨_,u⟩=>?_
 refine Tot.cnd (λ_=>Tot.bind (aH h u 2 (by decide) (by omega)) λv5 ⟨⟨Y,X⟩,I⟩=>Tot.ix2 Y X λ_ _ _=>Tot.ix2 H z λ_ _ _=>Tot.ret ⟨by show (t.1.1.set _ _).length<=6;rw[BU];omega,I.up (by omega)⟩) λ_=>?_
 refine Tot.cnd (λ_=>Tot.bind (rz h u (by omega)) λf I=>Tot.ix2 H z λ_ _ _=>Tot.ret ⟨by show (t.1.1.set _ _).length<=6;rw[BU];omega,I.up (by omega)⟩) λ_=>?_
 exact Tot.ix2 H z λy _ _=>Tot.fit (Tot.ret ⟨by show (t.1.1++[y]).length<=6;simp;omega,u.up (by omega)⟩) (by omega) (by simp;omega)
theorem xR (h:fZ b)(H:bi b m s)(hm:m<=95000):Tot (Q128.f K (s,())) λr=>bi b (m+6) r.2.1:=by
 simp only[Q128.f,Q127.f];refine Tot.bind (aH h H 6 (by decide) (by omega)) λv1 ⟨_,z⟩=>Tot.cnd (λ_=>Tot.ret (z.up (by omega))) λ_=>Tot.bind (aH h z 3 (by decide) (by omega)) λv3 ⟨⟨Y,R⟩,O⟩=>Tot.ix2 Y R λy u _=>?_
 have u:InP y 10 100000:=by
  simp only[Cb,CZ,or_false]at u;rcases u with rfl|rfl|rfl <;> constructor <;> omega
 rw[aE (n:=2*y) (by omega) (by omega),aE (n:=2*y+1) (by omega) (by omega),aE (n:=y+1) (by omega) (by omega)];exact Tot.bind (aH h O _ (by omega) (by omega)) λv6 ⟨_,M⟩=>Tot.bind (aH h M _ (by omega) (by omega)) λv7 ⟨_,X⟩=>Tot.bind (aH h X _ (by omega) (by omega)) λZ ⟨_,I⟩=>Tot.bind (aH h I _ (by decide) (by omega)) λv9 ⟨_,J⟩=>Tot.ret J
theorem p6 (h:fZ b)(z:bi b m s)(J:m<=94000):Tot (Q129.f K (s,())) λr=>bi b (m+8) r.2.1:=by
 simp only[Q129.f];exact Tot.bind (xR h z (by omega)) λc H=>Tot.bind (aH h H 16 (by decide) (by omega)) λI ⟨_,y⟩=>Tot.cnd (λ_=>Tot.bind (aH h y 3 (by decide) (by omega)) λv ⟨⟨a,b⟩,u⟩=>Tot.ix2 a b λ_ _ _=>Tot.ret u) λ_=>Tot.cnd (λ_=>Tot.bind (aH h y 2 (by decide) (by omega)) λv ⟨⟨a,b⟩,u⟩=>Tot.ix2 a b λ_ _ _=>Tot.ret u) λ_=>Tot.cnd (λ_=>Tot.bind (aH h y 2 (by decide) (by omega)) λv ⟨⟨a,b⟩,u⟩=>Tot.ix2 a b λ_ _ _=>Tot.ret u) λ_=>Tot.ret (y.up (by omega))
theorem xS (h:fZ b)(y:bi b m s)(w:bX)(I:m<=95000):Tot (Q218.f K (s,w,())) λr=>bi b (m+2) r.2.1:=by
 simp only[Q218.f];refine Tot.cnd (λ_=>Tot.ret (y.up (by omega))) λH=>?_
 have H:¬ (w.2.1.length:Int)=0:=by simpa using H
 refine Tot.bind (aH h y 3 (by decide) (by omega)) λJ ⟨_,z⟩=>Tot.cnd (λ_=>Tot.cnd (λ_=>Tot.bind (aH h z 4 (by decide) (by omega)) λv ⟨_,u⟩=>Tot.ret u) λ_=>?_) λ_=>?_ <;>
 exact Tot.bind (aH h z _ (by show (1:Int)<=(w.2.1.length:Int);omega) (by omega)) λv ⟨_,u⟩=>Tot.ret u
theorem AB (h:fZ b)(Z:bi b m s)(w:bX)(hm:m<=94000):Tot (Q219.f K (s,w,())) λr=>bi b (m+8) r.2.1:=by
 simp only[Q219.f];refine Tot.bind (aH h Z 8 (by decide) (by omega)) λv1 ⟨_,X⟩=>Tot.bind (aH h X 256 (by decide) (by omega)) λv2 ⟨_,s2⟩=>Tot.bind (aH h s2 16 (by decide) (by omega)) λv3 ⟨_,s3⟩=>Tot.bind (aH h s3 40 (by decide) (by omega)) λM ⟨_,y⟩=>?_
 have y:bi b (m+4) M.2.1:=y.up (by omega);generalize M.2.1=z at y ⊢;have u4:bi b (m+8) z:=y.up (by omega);have R:=xS (K:=K) h y w (by omega);have O:∀ n:Int,1<=n->Tot (Q117.f K (z,n,())) λr=>bi b (m+8) r.2.1:=λn J=>(aH h y n J (by omega)).mono λr H=>H.2.up (by omega)
 have Y:∀ (I:List Int×Int) (n:Int),bi b (m+4+2) I->1<=n->Tot (Q117.f K (I,n,())) λr=>bi b (m+8) r.2.1:=λI n h1 J=>(aH h h1 n J (by omega)).mono λr H=>H.2.up (by omega)
 repeat' first
  |exact Tot.ret u4
  |exact Tot.bind R λv u=>Tot.ret (bi.up u (by omega))
  |exact Tot.bind R λv u=>Tot.bind (Y _ _ u (by decide)) λv u=>Tot.ret u
  |exact Tot.bind (O _ (by decide)) λv u=>Tot.ret u
  |exact Tot.bind (O _ (by decide)) λv u=>Tot.cnd (λ_=>Tot.ret u) λ_=>Tot.ret u
  |refine Tot.cnd (λ_=>?_) λ_=>?_
theorem AC (h:fZ b)(hs:bi b m s)(y:Int)(h1:1<=y)(h2:y<=200)(hm:m<=90000)(Z:1048577<K):Tot (Q220.f K (s,y,())) λr=>(WI r.1.2.1 2000/\r.1.1.length<=300)/\bi b (m+8*y.toNat+2) r.2.1:=by
 simp only[Q220.f,Q220.pre];have O:∀ (H:List af) (n:Int) (z:List Int×Int) (w:bX) (q c:Nat),0<=n->n<y->H.length<=24->bi b q z->q<=m+2->WI w c->c<=200->Tot (Q220.l1 K (s,y,()) (H,n,z.1,z.2,w)) λr=>(WI r.1.2.1 2000/\r.1.1.length<=300)/\bi b (m+8*y.toNat+2) r.2.1:=λH n z w q c n0 n1 R M hq I hc=>by
  refine Tot.iter (step:=λrec a=>Q220.s1 K (s,y,()) rec a) (λa=>∃ q c:Nat,0<=a.2.1/\a.2.1<y/\(a.1.length:Int)+a.2.1<=24+y/\bi b q (a.2.2.1,a.2.2.2.1)/\q+8*a.2.1.toNat<=m+8*y.toNat+2/\WI a.2.2.2.2 c/\c+4*a.2.1.toNat<=2000) (λa=>a.2.1.toNat) ?_ K _ (by show n.toNat<K;omega) ⟨q,c,n0,n1,by show (H.length:Int)+n<=_;omega,M,by show q+8*n.toNat<=_;omega,I,by show c+4*n.toNat<=2000;omega⟩;clear M hq I hc n0 n1 R;rintro rec ⟨H,n,z1,z2,w⟩ ⟨q,c,n0,n1,R,M,hq,I,hc⟩ ih;simp only at n0 n1 R M hq I hc ih ⊢;simp only[Q220.s1];refine Tot.cnd (λhn=>?_) λ_=>Tot.vl (I.copy (by omega) K Z) (Tot.ret ⟨⟨I.mono (by omega),by show H.length<=300;omega⟩,M.up (by omega)⟩)
  have hn:n>0:=of_decide_eq_true hn;rw[aE (n:=n-1) (by omega) (by omega)];refine Tot.bind (AB h M w (by omega)) λe he=>Tot.fit (Tot.vl (I.copy (by omega) K Z) (Tot.bind (do_t K w c I (by omega) e.1.1 Z) ?_)) (by omega) (by simp;omega)
  rintro⟨⟨v',ok,⟨⟩⟩,⟨⟩⟩ hv;have X:∀ u:bX,WI u (c+4)->Tot (rec (H++[e.1.1],n-1,e.2.1.1,e.2.1.2,u)) λr=>(WI r.1.2.1 2000/\r.1.1.length<=300)/\bi b (m+8*y.toNat+2) r.2.1:=λu hu=>ih _ ⟨q+8,c+4,by show 0<=n-1;omega,by show n-1<y;omega,by show ((H++[e.1.1]).length:Int)+(n-1)<=_;simp;omega,he,by show q+8+8*(n-1).toNat<=_;omega,hu,by show c+4+4*(n-1).toNat<=2000;omega⟩ (by show (n-1).toNat<n.toNat;omega)
  exact Tot.cnd (λ_=>X v' hv) λ_=>X w (I.mono (by omega))
 refine Tot.bind (wa K Z) λw0 Y=>Tot.bind (aH h hs 3 (by decide) (by omega)) λv2 ⟨_,s2⟩=>Tot.cnd (λ_=>?_) λ_=>Tot.bind (aH h s2 y h1 (by omega)) λv9 ⟨⟨a9,b9⟩,s9⟩=>O [] v9.1.1 v9.2.1 w0.1.1 (m+2) 8 a9 b9 (by simp) s9 (CG _) Y (by omega)
 refine Tot.iter (step:=λrec a=>Q220.s0 K (s,y,()) (Q220.l1 K (s,y,())) rec a) (λa=>0<=a.2.1/\a.2.1<=8/\(a.1.length:Int)<=3*a.2.1/\bi b (m+1) (a.2.2.1,a.2.2.2.1)/\WI a.2.2.2.2 8) (λa=>8-a.2.1.toNat) ?_ K _ (by show 8-BL 0<K;omega) ⟨by show (0:Int)<=0;omega,by show (0:Int)<=8;omega,by show ((0:Nat):Int)<=3*0;omega,s2,Y⟩;rintro rec ⟨H,i,z1,z2,w⟩ ⟨i0,i1,R,M,I⟩ ih;simp only at i0 i1 R M I ih ⊢;simp only[Q220.s0];refine Tot.cnd (λhi=>?_) λ_=>?_
 ·have hi:i<=7:=of_decide_eq_true hi;rw[aE (n:=i+1) (by omega) (by omega)];have X:∀ J:List af,(J.length:Int)<=3*(i+1)->Tot (rec (J,i+1,z1,z2,w)) λr=>(WI r.1.2.1 2000/\r.1.1.length<=300)/\bi b (m+8*y.toNat+2) r.2.1:=λJ a0=>ih _ ⟨by show 0<=i+1;omega,by show i+1<=8;omega,a0,M,I⟩ (by show 8-(i+1).toNat<8-i.toNat;omega)
  exact Tot.cnd (λ_=>Tot.fit (Tot.fit (X _ (by simp;omega)) (by omega) (by simp;omega)) (by omega) (by simp;omega)) λ_=>X H (by omega)
 ·refine Tot.bind (Br K w 8 H I (by omega) (by omega) Z) λv ⟨hv,ev⟩=>Tot.bind (aH h M y h1 (by omega)) λv4 ⟨⟨a4,b4⟩,s4⟩=>?_
  exact O v.2.1 v4.1.1 v4.2.1 v.1.1 (m+1+1) _ a4 b4 (by rw[ev];omega) s4 (by omega) hv (by omega)
theorem AD (h:fZ b)(z:bi b m s)(y:m<=90000)(H:1048577<K):Tot (Q221.f K (s,())) λr=>WI r.1.1 2000/\bi b (m+802) r.2.1:=by
 simp only[Q221.f];exact Tot.bind (AC h z 100 (by decide) (by decide) y H) λv u=>Tot.ret ⟨u.1.1,u.2⟩
theorem zl (h:fZ b)(I:bi b m s)(H:m<=90000)(O:1048577<K):Tot (Q222.f K (s,())) λr=>(∃ i,dR i r.1.1)/\bi b (m+803) r.2.1:=by
 simp only[Q222.f];refine Tot.bind (AD h I H O) λw ⟨u,J⟩=>Tot.bind (aH h J _ (by have:=u.len;show (1:Int)<=(w.1.1.1.length:Int);omega) (by omega)) λv ⟨⟨a,b⟩,M⟩=>Tot.ix a b λy z _=>Tot.ret ⟨?_,M⟩
 obtain⟨i,R,rfl⟩:=B6 z;exact⟨i,u.node i R⟩
structure NS (c:Nat) (n:aa):Prop where
 nb:NB n
 table:(aa.table n).length<=c
 cast:(aa.cast n).length<=c
 doubts:(aa.doubts n).length<=c
 places:(aa.places n).length<=c
 others:(aa.others n).length<=c
theorem dR.ns {i:Nat}{n:aa}(h:dR i n):NS 8 n:=by
 cases y:n.2.1 with
 |true =>
  have r:=h.up y;refine⟨h.nb,by have:=h.short;omega,by have:=clen r.x.say;omega,?_,?_,?_⟩
  ·exact BR (iU r.x.say.asc r.x.say.inp) (by decide)
  ·exact BR (iU r.x.places.2 λx u=>(r.x.places.1 x u).1) (by decide)
  ·exact BR (iU r.x.others.2 λx u=>⟨(r.x.others.1 x u).1.1,Int.le_trans (r.x.others.1 x u).1.2 (by decide)⟩) (by decide)
 |false =>
  have e:=h.down y;refine⟨h.nb,?_,?_,?_,?_,?_⟩ <;> rw[e] <;> exact BZ _
theorem xT (h:fZ b)(hs:bi b m s)(n:aa){c:Nat}(hn:NS c n)(h8:8<=c)(hc:c<=1000)(hm:m<=90000)(hK:1048577<K):Tot (Q130.f K (s,n,())) λr=>NS (c+1) r.1.1/\bi b (m+60) r.2.1:=by
 simp only[Q130.f,zcp4,zcp8];rw[jJ K n hn.nb hK];simp only[BG];obtain⟨⟨n1,n2,Z,X,n5,M,Y,R⟩,l1,l2,l3,l4,l5⟩:=hn;refine Tot.bind (aH h hs 12 (by decide) (by omega)) λv2 ⟨_,I⟩=>?_
 have y:∀ (n':aa) (z:List Int×Int),n'.2.2.2.2.2.2.2.2=n.2.2.2.2.2.2.2.2->bi b (m+60) z->NS (c+1) n'/\bi b (m+60) z:=λn' z e hz=>by
  refine⟨⟨⟨?_,?_,?_,?_,?_,?_,?_,?_⟩,?_,?_,?_,?_,?_⟩,hz⟩ <;> simp only[aa.table,aa.cast,aa.doubts,aa.places,aa.others] <;> rw[e] <;> first|assumption|(refine BR ?_ (CP c);assumption)
 have u2:bi b (m+60) v2.2.1:=I.up (by omega);refine Tot.cnd (λ_=>Tot.bind (pZ h I (by omega) hK) λt ⟨tl,J⟩=>Tot.ret ⟨⟨⟨by show t.1.1.length<=_;omega,n2,Z,X,n5,M,Y,R⟩,by show t.1.1.length<=_;omega,BH l2,BH l3,BH l4,BH l5⟩,J.up (by omega)⟩) λ_=>?_
 refine Tot.cnd (λ_=>Tot.bind (wc h I (by omega) hK) λt ⟨tl,J⟩=>Tot.ret ⟨⟨⟨n1,by show t.1.1.length<=_;omega,Z,X,n5,M,Y,R⟩,BH l1,by show t.1.1.length<=_;omega,BH l3,BH l4,BH l5⟩,J.up (by omega)⟩) λ_=>?_
 refine Tot.cnd (λ_=>Tot.ret (y _ _ rfl u2)) λ_=>?_
 refine Tot.cnd (λ_=>Tot.bind (aH h I 9 (by decide) (by omega)) λv5 ⟨_,s5⟩=>Tot.bind (aH h s5 3 (by decide) (by omega)) λv6 ⟨_,s6⟩=>Tot.bind (aH h s6 3 (by decide) (by omega)) λv7 ⟨_,s7⟩=>Tot.bind (aH h s7 2 (by decide) (by omega)) λv8 ⟨_,s8⟩=>Tot.ret ⟨⟨⟨n1,n2,Z,X,n5,M,Y,R⟩,BH l1,BH l2,BH l3,BH l4,BH l5⟩,s8.up (by omega)⟩) λ_=>?_
 refine Tot.cnd (λ_=>Tot.bind (aH h I 8 (by decide) (by omega)) λv9 ⟨_,O⟩=>Tot.bind (aH h O 8 (by decide) (by omega)) λa1 ⟨_,H⟩=>Tot.fit (Tot.ret ⟨⟨⟨n1,n2,?_,?_,n5,M,Y,R⟩,BH l1,BH l2,?_,BH l4,BH l5⟩,H.up (by omega)⟩) (by omega) ?_) λ_=>?_
 ·show (aa.doubts n++[_]).length<=_;simp;omega
 ·intro d u;rcases BP.1 u with u|u
  ·exact X d u
  ·rw[BK.1 u];show ([a1.1.1]:List Int).length<=_;simp
 ·show (aa.doubts n++[_]).length<=_;simp;omega
 ·show (aa.doubts n).length+_<=_;simp;omega
 refine Tot.cnd (λ_=>Tot.bind (p6 h I (by omega)) λc J=>Tot.ret ⟨⟨⟨n1,n2,Z,X,n5,M,Y,R⟩,BH l1,BH l2,BH l3,BH l4,BH l5⟩,J.up (by omega)⟩) λ_=>?_
 refine Tot.cnd (λ_=>Tot.bind (aH h I 9 (by decide) (by omega)) λv9 ⟨_,O⟩=>Tot.bind (p6 h O (by omega)) λc H=>Tot.bind (aH h H 3 (by decide) (by omega)) λa2 ⟨_,a0⟩=>Tot.fit (Tot.ret ⟨⟨⟨n1,n2,Z,X,?_,?_,Y,R⟩,BH l1,BH l2,BH l3,?_,BH l5⟩,a0.up (by omega)⟩) (by omega) ?_) λ_=>?_
 ·show (aa.places n++[_]).length<=_;simp;omega
 ·intro d u;rcases BP.1 u with u|u
  ·exact M d u
  ·rw[BK.1 u];show ([a2.1.1]:List Int).length<=_;simp
 ·show (aa.places n++[_]).length<=_;simp;omega
 ·show (aa.places n).length+_<=_;simp;omega
 refine Tot.cnd (λ_=>Tot.bind (aH h I 3 (by decide) (by omega)) λv9 ⟨_,O⟩=>Tot.bind (pZ h O (by omega) hK) λt ⟨tl,H⟩=>Tot.fit (Tot.ret ⟨⟨⟨n1,n2,Z,X,n5,M,?_,?_⟩,BH l1,BH l2,BH l3,BH l4,?_⟩,H.up (by omega)⟩) (by omega) ?_) λ_=>?_
 ·show (aa.others n++[_]).length<=_;simp;omega
 ·intro d u;rcases BP.1 u with u|u
  ·exact R d u
  ·rw[BK.1 u];show t.1.1.length<=_;omega
 ·show (aa.others n++[_]).length<=_;simp;omega
 ·show (aa.others n).length+_<=_;simp;omega
 refine Tot.cnd (λ_=>Tot.ret (y _ _ rfl u2)) λ_=>Tot.cnd (λ_=>Tot.ret (y _ _ rfl u2)) λ_=>?_
 refine Tot.cnd (λ_=>Tot.bind (aH h I 3 (by decide) (by omega)) λv ⟨⟨a,b⟩,J⟩=>Tot.ix2 a b λ_ _ _=>Tot.ret (y _ _ rfl (J.up (by omega)))) λ_=>?_
 exact Tot.bind (aH h I 8 (by decide) (by omega)) λv9 ⟨_,O⟩=>Tot.bind (aH h O 3 (by decide) (by omega)) λv ⟨⟨a,b⟩,J⟩=>Tot.ix2 a b λ_ _ _=>Tot.ret (y _ _ rfl (J.up (by omega)))
end
section
variable {K:Nat} {b:List Int} {m:Nat} {s:List Int×Int}
theorem xU (h:fZ b)(J:bi b m s)(hm:m<=89000)(y:1048577<K):Tot (Q223.f K (s,())) λr=>NS 9 r.1.1/\bi b (m+864) r.2.1:=by
 simp only[Q223.f];refine Tot.bind (zl h J (by omega) y) λn ⟨⟨i,z⟩,H⟩=>Tot.bind (aH h H 20 (by decide) (by omega)) λv ⟨_,u⟩=>Tot.cnd (λ_=>Tot.bind (xT h u n.1.1 z.ns (CG _) (by omega) (by omega) y) λr R=>Tot.ret R) λ_=>Tot.ret ⟨?_,u.up (by omega)⟩
 obtain⟨Y,O,I,M,Z,X⟩:=z.ns;exact⟨Y,BH O,BH I,BH M,BH Z,BH X⟩
end
theorem bi.zero (b:List Int):bi b 0 (b,0):=⟨0,CG _,rfl⟩
structure xV (code:List Int):Prop where
 byte:∀ y∈code,0<=y/\y<=255
 len:code.length<=9223372036854775807
theorem ou (K:Nat)(xs:List Int)(y:xs.length<=1048576)(z:1048577<K):Q228.f K (xs,xs,())=rb true:=by
 have r:Q228.l0 K (xs,xs,()) 0=rb true:=by
  refine eY (step:=λrec a=>Q228.s0 K (xs,xs,()) rec a) xs.length (λi=>(i:Int)) (rb true) ?_ ?_ (by omega)
  ·intro rec i u;simp only[Q228.s0];rw[decide_eq_true (by omega:(i:Int)<(BI xs:Int)),ag u,ar i (by omega)];simp only[cond_true,BG,bne_self_eq_false,cond_false]
  ·intro rec;simp only[Q228.s0,aR];rfl
 simp only[Q228.f,Q228.pre,bne_self_eq_false,cond_false];exact r
theorem tx (K:Nat)(xs:List aM)(y:xs.length<=1048576)(z:1048577<K):Q227.f K (xs,xs,())=rb true:=by
 have r:Q227.l0 K (xs,xs,()) 0=rb true:=by
  refine eY (step:=λrec a=>Q227.s0 K (xs,xs,()) rec a) xs.length (λi=>(i:Int)) (rb true) ?_ ?_ (by omega)
  ·intro rec i u;simp only[Q227.s0];rw[decide_eq_true (by omega:(i:Int)<(BI xs:Int)),ag u,ar i (by omega)];simp only[cond_true,BG];rw[show Ty.eqv t3 xs[i] xs[i]=true by
    show (Ty.eqv t2 xs[i].1 xs[i].1&&decide (xs[i].2=xs[i].2))=true;rw[show Ty.eqv t2 xs[i].1 xs[i].1=decide (xs[i].1=xs[i].1) from jI _ _,decide_eq_true rfl,decide_eq_true rfl];rfl]
   rfl
  ·intro rec;simp only[Q227.s0,aR];rfl
 simp only[Q227.f,Q227.pre,bne_self_eq_false,cond_false];exact r
theorem uz (K:Nat)(n:aa)(r:NB n)(y:1048577<K):Q229.f K (n,n,())=rb true:=by
 have H:Q229.l2 K (n,n,()) 0=rb true:=by
  have z:=r.others;refine eY (step:=λrec a=>Q229.s2 K (n,n,()) rec a) (aa.others n).length (λi=>(i:Int)) (rb true) ?_ ?_ (by omega)
  ·intro rec i u;simp only[Q229.s2];rw[bo (by omega:(i:Int)<(BI (aa.others n):Int)),ag u,ar i (by omega)];simp only[cond_true,BG,bne_self_eq_false,cond_false];refine (congrArg (λo=>BJ o _) (kD K _ (r.facts _ (BQ u)) y)).trans rfl
  ·intro rec;simp only[Q229.s2,aR];rfl
 have J:Q229.l1 K (n,n,()) 0=rb true:=by
  have z:=r.places;refine eY (step:=λrec a=>Q229.s1 K (n,n,()) (Q229.l2 K (n,n,())) rec a) (aa.places n).length (λi=>(i:Int)) (rb true) ?_ ?_ (by omega)
  ·intro rec i u;simp only[Q229.s1];rw[bo (by omega:(i:Int)<(BI (aa.places n):Int)),ag u,ar i (by omega)];simp only[cond_true,BG,bne_self_eq_false,cond_false];rw[show Ty.eqv t9 (aa.places n)[i].2.1 (aa.places n)[i].2.1=decide ((aa.places n)[i].2.1=(aa.places n)[i].2.1) from pE _ _,decide_eq_true rfl];simp only[BN,cond_false];refine (congrArg (λo=>BJ o _) (ou K _ (r.trips _ (BQ u)) y)).trans rfl
  ·intro rec;simp only[Q229.s1,aR];exact H
 have I:Q229.l0 K (n,n,()) 0=rb true:=by
  have z:=r.doubts;refine eY (step:=λrec a=>Q229.s0 K (n,n,()) (Q229.l1 K (n,n,())) rec a) (aa.doubts n).length (λi=>(i:Int)) (rb true) ?_ ?_ (by omega)
  ·intro rec i u;simp only[Q229.s0];rw[bo (by omega:(i:Int)<(BI (aa.doubts n):Int)),ag u,ar i (by omega)];simp only[cond_true,BG,bne_self_eq_false,cond_false];refine (congrArg (λo=>BJ o _) (ou K _ (r.by_ _ (BQ u)) y)).trans rfl
  ·intro rec;simp only[Q229.s0,aR];exact J
 simp only[Q229.f,Q229.pre,bne_self_eq_false,cond_false];refine (congrArg (λo=>BJ o _) (kD K (aa.table n) r.table y)).trans ?_;simp only[rb,BG,BN,cond_false];refine (congrArg (λo=>BJ o _) (tx K (aa.cast n) r.cast y)).trans ?_;simp only[rb,BG,BN,cond_false];rw[show Ty.eqv t2 n.2.2.2.2.2.2.2.2.2.2.1 n.2.2.2.2.2.2.2.2.2.2.1=decide (aa.probe n=aa.probe n) from jI _ _,show Ty.eqv t9 n.2.2.2.2.2.2.2.2.2.2.2.2.1 n.2.2.2.2.2.2.2.2.2.2.2.2.1=decide (aa.coord n=aa.coord n) from pE _ _,decide_eq_true rfl,decide_eq_true rfl];exact I
theorem wd (K:Nat){t:List af}{f:af}(r:ax t)(u:f∈t)(z:1048577<K):Q37.f K (t,f.1,())=some ((f,true,()),()):=by
 rcases iD K t f.1 (cE r) z with ⟨h,_⟩|⟨_,⟨g,y,e,h⟩|⟨h,_⟩⟩
 ·exact absurd r h
 ·rw[h,gU r.2 y u e]
 ·exact absurd rfl (h f u)
structure gV (n m:aa):Prop where
 ok:b8 m
 me:m.1=n.1
 now_:m.2.2.2.2.2.1=n.2.2.2.2.2.1
 seq:m.2.2.2.2.2.2.1=n.2.2.2.2.2.2.1
 turn:m.2.2.2.2.2.2.2.1=n.2.2.2.2.2.2.2.1
 rest:m.2.2.2.2.2.2.2.2.2.2.2.2=n.2.2.2.2.2.2.2.2.2.2.2.2
 by_:∀ d∈aa.doubts m,d.2.2.2.length<=1048576
theorem gV.say {n m:aa}(h:gV n m){f:af}(b:Int)(I:bA f):gV n (sayOf m f b):=by
 obtain⟨u,_,_,_,_,H,y,z,_,r⟩:=eH m f b;exact⟨jj h.ok I,u.trans h.me,H.trans h.now_,y.trans h.seq,z.trans h.turn,r.trans h.rest,yL h.by_⟩
theorem gV.setP {n m:aa}(h:gV n m)(p:af):gV n (setP m p):=⟨h.ok.setP p,h.me,h.now_,h.seq,h.turn,h.rest,h.by_⟩
theorem gV.nb {n m:aa}(h:gV n m)(u:NB n):NB m:=by
 have y:aa.places m=aa.places n:=congrArg (λr=>r.2.1) h.rest;have z:aa.others m=aa.others n:=congrArg (λr=>r.2.2) h.rest;exact⟨h.ok.lt,h.ok.lc,h.ok.ld,h.by_,by rw[y];exact u.places,by rw[y];exact u.trips,by rw[z];exact u.others,by rw[z];exact u.facts⟩
theorem gV.far {n m:aa}(h:gV n m)(u:hZ n):hZ m:=by
 have y:aa.others m=aa.others n:=congrArg (λr=>r.2.2) h.rest;exact⟨by rw[y];exact u.short,by rw[y];exact u.table⟩
theorem xW {n:aa}(h:gV n n)(y:∀ d∈aa.doubts n,∃ f∈aa.table n,f.1=d.1):gV n (cM n)/\aa.probe (cM n)=aa.probe n:=by
 have:=kz (st:=dj) (Inv:=λm=>jN (aa.doubts n) n.2.2.2.2.2.1 m/\gV n m/\aa.probe m=aa.probe n) (ds:=aa.doubts n) (n:=n) ⟨⟨h.ok,y,rfl⟩,h,rfl⟩ (λm d u r=>by
  refine⟨li r.1 u,?_⟩;unfold dj;cases kA m.2.2.2.2.2.1 d.2.2.1 d.2.2.2.length with
  |false=>exact r.2
  |true =>
   have z:=nR (c7 r.1.ok.table (r.1.key d u)).1;exact⟨r.2.1.say _ z,(eH m _ _).2.2.2.2.2.2.2.2.1.trans r.2.2⟩)
 exact this.2
theorem uA {n m:aa}(h:gV n m):gV n (a7 m).1/\((aa.probe (a7 m).1).1=-1\/(aa.probe (a7 m).1).1=(aa.probe m).1)/\(a7 m).2.length<=2/\∀ w∈(a7 m).2,(ao.table w).length<=1048576:=by
 unfold a7;cases z:(aa.probe m).1==-1 with
 |true=>exact⟨h,.inr rfl,by simp,by simp⟩
 |false =>
  simp only[cond_false];cases y:cL (aG (aa.table m) (aa.probe m).1) with
  |false=>exact⟨h.setP _,.inl rfl,by simp,by simp⟩
  |true =>
   have u:=c7 h.ok.table (fk y);simp only[BN,cond_false];cases decide (m.2.2.2.2.2.1-(aa.probe m).2.1>=4) with
   |true =>
    simp only[cond_true];cases (aG (aa.table m) (aa.probe m).1).2.2.1==1 with
    |true=>exact⟨(h.setP noP).say _ (qz u.1),.inl (congrArg (·.1) (eH (setP m noP) _ _).2.2.2.2.2.2.2.2.1),by simp,by simp⟩
    |false=>exact⟨h.setP _,.inl rfl,by simp,by simp⟩
   |false =>
    simp only[cond_false];cases decide (m.2.2.2.2.2.1-(aa.probe m).2.1>=2) with
    |false=>exact⟨h,.inr rfl,by simp,by simp⟩
    |true =>
     simp only[cond_true];cases (aa.probe m).2.2.2 with
     |true=>exact⟨h,.inr rfl,by simp,by simp⟩
     |false =>
      refine⟨h.setP _,.inr rfl,?_,λw r=>?_⟩
      ·show ((cD m).map (askW m)).length<=2;rw[B8];exact CQ _ _
      ·obtain⟨to,_,rfl⟩:=BV.1 r;exact BZ _
theorem zm {n:aa}(z:hZ n)(y:(aa.table n).length<=1048576)(r:Int):(dD n r).length<=2/\∀ w∈dD n r,(ao.table w).length<=1048576:=by
 unfold dD;cases aP .i64 r 3==1 with
 |true =>
  simp only[cond_true,gw];cases gN n with
  |false=>exact⟨by simp,by simp⟩
  |true =>
   refine⟨?_,λw u=>?_⟩
   ·show ((([0,1]:List Int).filter (λs=>s != ap n.1)).map _).length<=2;rw[B8];exact CE _ _
   ·obtain⟨s,_,rfl⟩:=BV.1 u;exact y
 |false =>
  simp only[cond_false];cases (aP .i64 r 3==3||decide (bY n=[])) with
  |true=>exact⟨by simp,by simp⟩
  |false =>
   simp only[cond_false];cases aP .i64 r 3==0 with
   |true =>
    refine⟨by simp,λw u=>?_⟩;rw[cond_true,BK]at u;subst u;exact y
   |false =>
    simp only[cond_false,lM]
    match H:aa.others n with
    |[]=>exact⟨by simp,by simp⟩
    |x::_ =>
     refine⟨by simp,λw u=>?_⟩;rw[BK]at u;subst u;exact (z.table x (by rw[H];simp)).2
def d7 (n:aa):aa:=(n.1,n.2.1,n.2.2.1,n.2.2.2.1,n.2.2.2.2.1,n.2.2.2.2.2.1+1,n.2.2.2.2.2.2)
theorem xX (K:Nat)(n:aa)(z:Int)(Z:NB n)(hP:iR n)(hu:n.2.1=true)(hg:n.2.2.1=false)(a9:¬ n.2.2.2.2.2.1>=999999)(hK:1048577<K) :
  ∃ (y:aa) (O:List ao),NB y/\O.length<=1048576/\(∀ w∈O,(ao.table w).length<=1048576)/\Q208.f K (n,z,())=some ((y,O,()),())/\Q110.f K (n,z,())=some ((O,()),(y,())):=by
 have hU:=hP.up hu;have hs:=hU.say;obtain⟨hT,_,_,_,a0,hD,_,_,hO⟩:=hU;obtain⟨⟨cu,d3⟩,⟨e0,e3⟩,⟨c1,e4⟩,⟨b0,b3⟩,_⟩:=hP;have dd:=mX ⟨cu,d3⟩ hO;have a3:hZ n:=⟨by rcases dd with e|⟨x,e⟩ <;> rw[e] <;> simp,λx hx=>⟨(hO.1 x hx).2.2.2.1,Z.facts x hx⟩⟩;have bx:gV (d7 n) (d7 n):=⟨⟨hs.table,hs.cast,hs.asc,hs.inp,hs.lt,hs.lc,hs.ld⟩,rfl,rfl,rfl,rfl,rfl,Z.by_⟩;have d1:NB (d7 n):=⟨Z.table,Z.cast,Z.doubts,Z.by_,Z.places,Z.trips,Z.others,Z.facts⟩;have cx:hZ (d7 n):=⟨a3.short,a3.table⟩;have ad:∀ d∈aa.doubts (d7 n),∃ f∈aa.table (d7 n),f.1=d.1:=λd hd=>by
  obtain⟨f,hf,e,_⟩:=(hD.1 d hd).1;exact⟨f,hf,e⟩
 have c0:∀ d∈aa.doubts (d7 n),0<=d.2.2.1/\d.2.2.1<=(d7 n).2.2.2.2.2.1/\d.2.2.2.length<=1048576:=λd hd=>by
  obtain⟨s0,s1⟩:=(hD.1 d hd).2.1;refine⟨s0,?_,Z.by_ d hd⟩;show d.2.2.1<=n.2.2.2.2.2.1+1;omega
 have b9:jN (aa.doubts (d7 n)) (d7 n).2.2.2.2.2.1 (d7 n):=⟨bx.ok,ad,rfl⟩;have a5:(d7 n).2.2.2.2.2.1<=1000000:=by show n.2.2.2.2.2.1+1<=1000000;omega
 have eD:=xf K (d7 n) b9 c0 a5 hK;have eB:=AZ K (d7 n) b9 c0 a5 hK;obtain⟨R,a2⟩:=xW bx ad;generalize cM (d7 n)=m at eD eB R a2;have a2:aa.probe m=aa.probe n:=a2;have u:((aa.probe m).1=-1\/0<=(aa.probe m).1)/\0<=(aa.probe m).2.1/\(aa.probe m).2.1<=1000000:=by
  rw[a2];unfold cU at a0;split at a0
  ·rename_i h1;rw[a0];exact⟨.inl rfl,by show (0:Int)<=0;omega,by show (0:Int)<=1000000;omega⟩
  ·obtain⟨_,⟨f,hf,e⟩,⟨s0,s1⟩,_⟩:=a0;have:=(hT.1 f hf).1.1;exact⟨.inr (e ▸ this),s0,by omega⟩
 have cc:m.2.2.2.2.2.1=n.2.2.2.2.2.1+1:=R.now_;have eF:=yM K m R.ok u.2.1 u.2.2 (by omega) (by omega) hK;have eW:=λcw=>xi K m R.ok cw u.2.1 u.2.2 (by omega) (by omega) hK
 obtain⟨r,b1,c4,b4⟩:=uA R;have Y:(aa.probe m).1=-1->a7 m=(m,[]):=λh=>by unfold a7;rw[show ((aa.probe m).1==-1)=true by simpa using h];rfl
 generalize X:a7 m=fo at eF eW r b1 c4 b4 Y;obtain⟨H,cp⟩:=fo;simp only at eF eW r b1 c4 b4;have c2:∃ (y:aa) (O:List ao),Q100.f K (H,())=some ((O,()),(y,()))/\((aa.probe H).1=-1->Q201.f K (H,())=some ((y,O,()),()))/\((aa.probe H).1≠-1->y=H/\O=[])/\NB y/\hZ y/\ax (aa.table y)/\O.length<=1/\∀ w∈O,(ao.table w).length<=1048576:=by
  have J:=r.nb d1;have X:=r.far cx;by_cases I:(aa.probe H).1=-1
  ·obtain⟨y,O,e1,e2,h3⟩:=yW K H r.ok I (by rw[r.seq];exact c1) (by rw[r.seq];show n.2.2.2.2.2.2.1<=1000000;omega) (by rw[r.turn];exact b0) (by rw[r.turn];exact b3) hK;refine⟨y,O,e2,λ_=>e1,λh=>absurd I h,?_⟩;rcases h3 with ⟨rfl,rfl⟩|⟨to,rfl,rfl⟩
   ·exact⟨J,X,r.ok.table,by simp,by simp⟩
   ·have M:=Be r.ok;refine⟨⟨M.lt,M.lc,M.ld,J.by_,J.places,J.trips,J.others,J.facts⟩,⟨X.short,X.table⟩,M.table,by simp,λw bb=>?_⟩;rw[BK]at bb;subst bb;exact cE (km r.ok to)
  ·refine⟨H,[],?_,λh=>absurd h I,λ_=>⟨rfl,rfl⟩,J,X,r.ok.table,by simp,by simp⟩;simp only[Q100.f,Q100.pre];rw[show (H.2.2.2.2.2.2.2.2.2.2.1.1 != -1)=true by show ((aa.probe H).1 != -1)=true;simpa using I];rfl
 obtain⟨y,dc,eA,bl,b2,a1,b5,bn,e5,d2⟩:=c2;have c3:=Ak K y z a1 b5 bn hK;have eM:=xx K y z b5 bn a1.table hK;obtain⟨cy,ba⟩:=zm b5 a1.table z;generalize dD y z=cb at c3 eM cy ba;have a4:(n.1,n.2.1,n.2.2.1,n.2.2.2.1,n.2.2.2.2.1,wr .i64 (n.2.2.2.2.2.1+1),n.2.2.2.2.2.2)=d7 n:=by
  rw[aE (by omega) (by omega)];rfl
 refine⟨y,(cp++dc)++cb,a1,by simp only[BO];omega,λw M=>?_,?_,?_⟩
 ·simp only[BP]at M;rcases M with (M|M)|M
  ·exact b4 w M
  ·exact d2 w M
  ·exact ba w M
 ·simp only[Q208.f,zcp4];rw[a4,hu,hg,decide_eq_false a9];simp only[BN,cond_false];rw[eD];simp only[BG];by_cases I:(aa.probe m).1=-1
  ·obtain⟨rfl,rfl⟩:=Prod.mk.inj (Y I);rw[show decide (H.2.2.2.2.2.2.2.2.2.2.1.1>=0)=false from decide_eq_false (by show ¬ (aa.probe H).1>=0;omega),show decide (H.2.2.2.2.2.2.2.2.2.2.1.1<0)=true from decide_eq_true (by show (aa.probe H).1<0;omega)];simp only[cond_true,cond_false];rw[bl I];simp only[BG];rw[szw _ _ _ (by omega) (by simp only[CA];omega)];simp only[cond_true];rw[eM];simp only[BG];rw[szw _ _ _ (by omega) (by simp only[BO,CA];omega)];rfl
  ·rw[show decide (m.2.2.2.2.2.2.2.2.2.2.1.1>=0)=true from decide_eq_true (by show (aa.probe m).1>=0;omega)];simp only[cond_true];rw[eW I];simp only[BG];by_cases a6:(aa.probe H).1=-1
   ·rw[show decide (H.2.2.2.2.2.2.2.2.2.2.1.1<0)=true from decide_eq_true (by show (aa.probe H).1<0;omega)];simp only[cond_true];rw[bl a6];simp only[BG];rw[szw _ _ _ (by omega) (by omega)];simp only[cond_true];rw[eM];simp only[BG];rw[szw _ _ _ (by omega) (by simp only[BO];omega)];rfl
   ·rw[show decide (H.2.2.2.2.2.2.2.2.2.2.1.1<0)=false from decide_eq_false (by show ¬ (aa.probe H).1<0;rcases b1 with h|h <;> omega)];obtain⟨rfl,rfl⟩:=b2 a6;simp only[cond_false];rw[eM];simp only[BG];rw[szw _ _ _ (by omega) (by omega),CH];rfl
 ·simp only[Q110.f,zcp4,Q65.f];rw[a4,hu,hg,decide_eq_false a9];simp only[cond_true,BG,CB,BN,cond_false];rw[eB];simp only[BG];rw[eF];simp only[BG];rw[eA];simp only[BG];rw[szw _ _ _ (by omega) (by omega)];simp only[cond_true];rw[c3];simp only[BG];rw[szw _ _ _ (by omega) (by simp only[BO];omega)];rfl
theorem xY (K:Nat)(n y:aa)(z:List ao)(r:Int)(I:NB n)(u:Q64.f K (n,())=rb true)(H:Q110.f K (n,r,())=some ((z,()),(y,())))(J:1048577<K):Q115.f K (n,r,())=some ((y,z,()),()):=by
 simp only[Q115.f,Q114.f];rw[u];simp only[BG,BN,cond_false];rw[yK K n I J];simp only[BG,Q111.f];rw[H];simp only[BG,Q113.f];simp
theorem rZ (K:Nat)(n:aa)(r:Int)(J:NB n)(I:1048577<K):∃ y:aa,∃ u:List ao,NB y/\u.length<=1048576/\(∀ w∈u,(ao.table w).length<=1048576)/\Q225.f K (n,r,())=some ((y,u,()),())/\Q115.f K (n,r,())=some ((y,u,()),()):=by
 obtain⟨b,h1,Y,h3⟩:=jx K n J I;cases b with
 |false =>
  refine⟨sU,[],uk,by simp,by simp,?_,?_⟩
  ·simp only[Q225.f];rw[h1];rfl
  ·simp only[Q115.f,Q114.f];rw[Y];rfl
 |true =>
  have hP:=h3.1 rfl;have z:=jJ K n J I;have hb:∃ (y:aa) (u:List ao),NB y/\u.length<=1048576/\(∀ w∈u,(ao.table w).length<=1048576)/\Q208.f K (n,r,())=some ((y,u,()),())/\Q110.f K (n,r,())=some ((u,()),(y,())):=by
   by_cases H:n.2.1=true/\n.2.2.1=false/\¬ n.2.2.2.2.2.1>=999999
   ·exact xX K n r J hP H.1 H.2.1 H.2.2 I
   ·refine⟨n,[],J,by simp,by simp,?_,?_⟩
    ·simp only[Q208.f,zcp4];cases R:n.2.1 with
     |false=>rfl
     |true =>
      cases O:n.2.2.1 with
      |true=>rfl
      |false =>
       have:n.2.2.2.2.2.1>=999999:=by by_cases h:n.2.2.2.2.2.1>=999999;exact h;exact absurd ⟨R,O,h⟩ H
       rw[decide_eq_true this];rfl
    ·simp only[Q110.f,zcp4,Q65.f];cases R:n.2.1 with
     |false=>rfl
     |true =>
      cases O:n.2.2.1 with
      |true=>rfl
      |false =>
       have:n.2.2.2.2.2.1>=999999:=by by_cases h:n.2.2.2.2.2.1>=999999;exact h;exact absurd ⟨R,O,h⟩ H
       rw[decide_eq_true this];rfl
  obtain⟨y,u,Z,M,X,H,hi⟩:=hb;refine⟨y,u,Z,M,X,?_,xY K n y u r J Y hi I⟩;simp only[Q225.f];rw[h1];simp only[BG,BN,cond_false];rw[z];simp only[BG];rw[H];simp only[BG];rw[jJ K y Z I];rfl
theorem we (K:Nat)(u:List Int)(z:xV u)(M:1048577<K):Tot (Q224.f K (u,())) λr=>NS 9 r.1.1:=by
 obtain⟨H,y,e⟩:=Bs (K:=K) u z.byte z.len;simp only[Q224.f];exact Tot.vl e (Tot.bind (xU y (bi.zero H) (by omega) M) λn ⟨O,I⟩=>Tot.bind (aH y I 4096 (by decide) (by omega)) λv ⟨_,J⟩=>Tot.bind (aH y J 4 (by decide) (by omega)) λ_ _=>Tot.ret O)
theorem uB (K:Nat)(w:ao)(r:(ao.table w).length<=1048576)(u:1048577<K):Q230.f K (w,w,())=rb true:=by
 simp only[Q230.f,beq_self_eq_true,cond_true];rw[show Ty.eqv t9 w.2.2.2.2.2.2.1 w.2.2.2.2.2.2.1=decide (w.2.2.2.2.2.2.1=w.2.2.2.2.2.2.1) from pE _ _,decide_eq_true rfl];simp only[cond_true];exact (congrArg (λo=>BJ o _) (kD K (ao.table w) r u)).trans rfl
theorem tz (K:Nat)(xs:List ao)(H:xs.length<=1048576)(u:∀ w∈xs,(ao.table w).length<=1048576)(z:1048577<K):Q231.f K (xs,xs,())=rb true:=by
 have y:Q231.l0 K (xs,xs,()) 0=rb true:=by
  refine eY (step:=λrec a=>Q231.s0 K (xs,xs,()) rec a) xs.length (λi=>(i:Int)) (rb true) ?_ ?_ (by omega)
  ·intro rec i r;simp only[Q231.s0];rw[bo (by omega:(i:Int)<(BI xs:Int)),ag r,ar i (by omega)];simp only[cond_true,BG];exact (congrArg (λo=>BJ o _) (uB K _ (u _ (BQ r)) z)).trans rfl
  ·intro rec;simp only[Q231.s0,aR];rfl
 simp only[Q231.f,Q231.pre,bne_self_eq_false,cond_false];exact y
theorem wg (K:Nat)(n:aa)(r:Int)(z:NB n)(h:UpN n)(H:n.2.2.1=false)(y:br n<999999)(u:1048577<K):Q225.f K (n,r,())=some ((fp n,iY n r,()),()):=by
 obtain⟨b,M,_,I⟩:=jx K n z u;have J:=I.2 h.ok;subst J;simp only[Q225.f];rw[M];simp only[rb,BG,BN,cond_false];rw[jJ K n z u];simp only[BG];rw[xM K n r h H y u];simp only[BG];rw[jJ K _ (lN h y).1.nb u];rfl
theorem uC (K:Nat)(n:aa)(r:Int)(I:NB n)(H:1048577<K):∃ y:aa,∃ u:List ao,NB y/\u.length<=1048576/\(∀ w∈u,(ao.table w).length<=1048576)/\Q225.f K (n,r,())=some ((y,u,()),())/\Q115.f K (n,r,())=some ((y,u,()),()) /\
  (iR n->((n.2.1=true/\n.2.2.1=false/\br n<999999)/\y=fp n/\u=iY n r)\/(¬ (n.2.1=true/\n.2.2.1=false/\br n<999999)/\y=n/\u=[])):=by
 obtain⟨y,u,h1,h2,Y,J,h5⟩:=rZ K n r I H;refine⟨y,u,h1,h2,Y,J,h5,λO=>?_⟩;by_cases z:n.2.1=true/\n.2.2.1=false/\br n<999999
 ·have:=wg K n r I (UpN.of O z.1) z.2.1 z.2.2 H;rw[J]at this;simp only[CV,Cc,and_true]at this;exact .inl ⟨z,this⟩
 ·right;refine⟨z,?_⟩;obtain⟨b,o1,_,X⟩:=jx K n I H;have hb:=X.2 O;subst hb;have M:Q208.f K (n,r,())=some ((n,[],()),()):=by
   simp only[Q208.f,zcp4];cases Z:n.2.1 with
   |false=>rfl
   |true =>
    cases R:n.2.2.1 with
    |true=>rfl
    |false =>
     have:n.2.2.2.2.2.1>=999999:=by by_cases h:n.2.2.2.2.2.1>=999999;exact h;exact absurd ⟨Z,R,by have e:br n=n.2.2.2.2.2.1:=rfl;omega⟩ z
     rw[decide_eq_true this];rfl
  have:Q225.f K (n,r,())=some ((n,[],()),()):=by
   simp only[Q225.f];rw[o1];simp only[rb,BG,BN,cond_false];rw[jJ K n I H];simp only[BG];rw[M];simp only[BG];rw[jJ K n I H];rfl
  rw[J]at this;simp only[CV,Cc,and_true]at this;exact this
theorem xZ (n:aa):aa.probe (cM n)=aa.probe n/\br (cM n)=br n:=by
 unfold cM;generalize aa.doubts n=u;induction u generalizing n with
 |nil=>exact⟨rfl,rfl⟩
 |cons d u y =>
  rw[List.foldl_cons];have r:aa.probe (dj n d)=aa.probe n/\br (dj n d)=br n:=by
   unfold dj;cases kA n.2.2.2.2.2.1 d.2.2.1 d.2.2.2.length with
   |false=>exact⟨rfl,rfl⟩
   |true =>
    obtain⟨_,_,_,_,_,H,_,_,z,_⟩:=eH n (jy (aG (aa.table n) d.1)) n.1;exact⟨z,H⟩
  exact⟨(y _).1.trans r.1,(y _).2.trans r.2⟩
end Go.Proofs.YtaegajachoklkaaGreatEv
