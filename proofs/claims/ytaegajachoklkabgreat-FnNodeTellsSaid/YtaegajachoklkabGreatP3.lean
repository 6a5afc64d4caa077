/- What a node hears, by the specification: what it comes to. -/
import Derived.Test.YtaegajachoklkabGreatP2
set_option linter.unusedVariables false
set_option linter.unusedSimpArgs false
open Bool renaming not_true->BN,not_false->CB,and_eq_true->CN,not_eq_true'->CV,not_eq_true->CX
open Classical renaming not_not->CK
open Int renaming toNat->BL,toNat_natCast->BM,eq_ofNat_of_zero_le->BZ,toNat_zero->CC,tmod->CD,le_refl->CL,fdiv->CO,toNat_of_nonneg->CS,tmod_lt_of_pos->CU,tmod_nonneg->Ca
open List renaming length->BI,mem_singleton->BK,length_append->BO,mem_append->BP,getElem_mem->BQ,drop_eq_getElem_cons->BS,nil_append->BT,length_set->BU,mem_map->BV,mem_of_mem_take->BW,filter_eq_self->BX,length_take->BY,filter_eq_nil_iff->B4,mem_filter->B5,drop_zero->B6,getElem_of_mem->B7,getElem?_eq_getElem->B8,length_map->B9,length_nil->CA,length_filter_le->CE,take_length->CF,append_nil->CH,pairwise_cons->CI,take_add_one->CJ,filter_cons->CM,length_drop->CP,length_take_le->CR,filter_append->CT,length_cons->CY,not_mem_nil->CZ,mem_cons->Cb
open Nat renaming le_succ_of_le->BH,le_trans->BR,zero_le->B3,le_refl->CG,le_succ->CQ
open Option renaming bind_some->BG,bind->BJ
open Option.some renaming injEq->CW
open Prod.mk renaming injEq->Cc
namespace Go.Proofs.YtaegajachoklkabGreatEv
open Go
theorem rl {α A R:Type}(k:α->Int)(x:α)(t:List α)(hA:Asc k t)(Z S1:List α->Nat->A)(I:List α->Option R){step:(A->Option R)->A->Option R}
  (h0:∀ (rec:A->Option R) (r:List α) (i:Nat) (O:i<t.length),r.length=i->(∀ y∈t.take i,k y<k x)->step rec (Z r i)=if k t[i]<k x then rec (Z (r++[t[i]]) (i+1)) else if k t[i]=k x then rec (S1 (r++[x]) (i+1)) else rec (S1 (r++[x]++[t[i]]) (i+1)))
  (h1:∀ (rec:A->Option R) (r:List α) (i:Nat) (O:i<t.length),r.length<=i+1->k x<k t[i]->step rec (S1 r i)=rec (S1 (r++[t[i]]) (i+1)))
  (e0:∀ (rec:A->Option R) (r:List α),r.length=t.length->(∀ y∈t,k y<k x)->step rec (Z r t.length)=I (r++[x]))
  (e1:∀ (rec:A->Option R) (r:List α),r.length<=t.length+1->step rec (S1 r t.length)=I r) {K:Nat} (Y:t.length<K):ae step K (Z [] 0)=I (bG k x t):=by
 have r1:∀ (n i K:Nat) (r:List α),i+n=t.length->n<K->r.length<=i+1->(∀ y∈t.drop i,k x<k y)->ae step K (S1 r i)=I (r++t.drop i):=by
  intro n;induction n with
  |zero =>
   intro i K r O Y M _;obtain⟨K,rfl⟩:∃ X,K=X+1:=⟨K-1,by omega⟩;have:i=t.length:=by omega
   subst this;show step (ae step K) _=_;rw[e1 _ _ M,List.drop_length,CH]
  |succ n ih =>
   intro i K r O Y M hg;obtain⟨K,rfl⟩:∃ X,K=X+1:=⟨K-1,by omega⟩;have u:i<t.length:=by omega
   rw[BS u]at hg;show step (ae step K) _=_;rw[h1 _ _ _ u M (hg _ (.head _)),ih (i+1) K _ (by omega) (by omega) (by simp;omega) (λy z=>hg y (.tail _ z)),BS u];simp
 have H:∀ i (O:i<t.length),∀ y∈t.drop (i+1),k t[i]<k y:=λi O y z=>by
  have:=List.Pairwise.drop (i:=i) hA;rw[BS O]at this;exact (CI.1 this).1 y z
 have r0:∀ (n i K:Nat) (r:List α),i+n=t.length->n<K->r=t.take i->(∀ y∈t.take i,k y<k x)->ae step K (Z r i)=I (bG k x t):=by
  intro n;induction n with
  |zero =>
   intro i K r O Y M J;obtain⟨K,rfl⟩:∃ X,K=X+1:=⟨K-1,by omega⟩;have:i=t.length:=by omega
   subst this;rw[CF]at M J;subst M;show step (ae step K) _=_;rw[e0 _ _ rfl J];unfold bG;rw[BX.2 (by simpa using J),B4.2 (λy z=>by have:=J y z;simp;omega)]
  |succ n ih =>
   intro i K r O Y M J;obtain⟨K,rfl⟩:∃ X,K=X+1:=⟨K-1,by omega⟩;have u:i<t.length:=by omega
   subst M;have a1:(t.take i).length=i:=by rw[BY];omega
   show step (ae step K) _=_;rw[h0 _ _ _ u a1 J];have a0:k x<=k t[i]->bG k x t=t.take i++x::(t.drop i).filter (λy=>decide (k x<k y)):=λhc=>by
    unfold bG;conv=>lhs;rw[<- List.take_append_drop i t]
    rw[CT,CT,BX.2 (by simpa using J),(B4 (l:=t.take i)).2 (λy z=>by have:=J y z;simp;omega),BT];rw[BS u,CM,if_neg (by simp;omega),B4.2 (λy z=>by have:=H i u y z;simp;omega),CH]
   by_cases hc:k t[i]<k x
   ·rw[if_pos hc];refine ih (i+1) K _ (by omega) (by omega) (by rw[CJ,B8 u];rfl) λy z=>?_
    rw[CJ,B8 u]at z;rcases BP.1 z with z|z
    ·exact J y z
    ·simp at z;rw[z];exact hc
   ·rw[if_neg hc,a0 (by omega),BS u];by_cases he:k t[i]=k x
    ·rw[if_pos he,r1 n (i+1) K _ (by omega) (by omega) (by simp;omega) (λy z=>by have:=H i u y z;omega),CM,if_neg (by simp;omega),BX.2 (λy z=>by have:=H i u y z;simp;omega)];simp
    ·rw[if_neg he,r1 n (i+1) K _ (by omega) (by omega) (by simp;omega) (λy z=>by have:=H i u y z;omega),CM,if_pos (by simp;omega),BX.2 (λy z=>by have:=H i u y z;simp;omega)];simp
 exact r0 t.length 0 K [] (by omega) Y rfl (by simp)
theorem xI {t:List ag}{f:ag}(h:∀ g∈t,g.1<f.1):(bS t f).1=t++[f]:=by
 rw[im (λg u e=>by have:=h g u;omega)];unfold bG;rw[BX.2 (by simpa using h),B4.2 (λy r=>by have:=h y r;simp;omega)]
theorem pS:∀ {fs t:List ag},Asc (λf:ag=>f.1) fs->(∀ g∈t,∀ f∈fs,g.1<f.1)->fC t fs=t++fs
 |[],t,_,_=>by simp[fC]
 |f::fs,t,u,h=>by
  show fC (bS t f).1 fs=_;rw[xI (λg r=>h g r f (by simp)),pS (CI.1 u).2 ?_]
  ·simp
  ·intro g r e y;rcases BP.1 r with r|r
   ·exact h g r e (by simp[y])
   ·rw[BK.1 r];exact (CI.1 u).1 e y
theorem wa {fs:List ag}(h:az fs):fC [] fs=fs:=by
 rw[pS h.2 (by simp)];rfl
theorem Ap (K:Nat)(a b:List ag)(u:az a)(r:az b)(y:1048577<K):Q54.f K (a,b,())=some ((fC a b,()),()):=by
 simp only[Q54.f,Q54.pre];obtain⟨R,H,M⟩:=gq K a (cK u) y;obtain⟨X,I,O⟩:=gq K b (cK r) y;have:=cK u;have:=cK r;rw[H,I,M.2 u,O.2 r];simp only[BG,BN,cond_false];rw[szb _ _ _ (by omega) (by show (BI ([]:List ag))+a.length<=_;simp;omega)];simp only[cond_true,BT];refine ur a b u r.1 (step:=λrec x=>Q54.s0 K (a,b,()) rec x) (λt=>some ((t,()),())) ?_ ?_ (by omega)
 ·intro rec t i J z;simp only[Q54.s0];rw[bi (by omega:(i:Int)<(BI b:Int)),af J,ar i (by omega)];simp only[cond_true,BG];rw[vS K t _ (cK z) z.2 y];rfl
 ·intro rec t;simp only[Q54.s0,aR];rfl
theorem tt {u:Int}{l:List cR}(h:c6 u l)(s:Int):az (cW l s):=by
 rcases mO (l:=l) (s:=s) with e|⟨x,r,_,e⟩ <;> rw[e]
 ·exact⟨by simp,List.Pairwise.nil⟩
 ·exact (h.1 x r).2.2.2.1
theorem olen {u:Int}{l:List cR}(h:c6 u l):l.length<=1048576:=BR (iS h.2 λx r=>⟨(h.1 x r).1.1,Int.le_trans (h.1 x r).1.2 (by decide)⟩) (by decide)
theorem xJ (K:Nat)(n:aa)(s:Int)(t:List ag)(h:c6 n.1 (aa.others n))(r:az t)(y:1048577<K):Q55.f K (n,s,t,())=some ((fC (cW (aa.others n) s) t,()),()):=by
 have z:=olen h;refine pE (step:=λrec a=>Q55.s0 K (n,s,t,()) rec a) (aa.others n) s (λl=>some ((fC l t,()),())) ?_ ?_ (aa.others n).length 0 K (by omega) (by omega)
 ·intro rec i u;simp only[Q55.s0];rw[bi (by omega:(i:Int)<(BI (aa.others n):Int)),af u,ar i (by omega)];simp only[cond_true,BG];cases (aa.others n)[i].1==s with
  |false=>rfl
  |true=>exact (congrArg (λo=>BJ o _) (Ap K _ t (h.1 _ (BQ u)).2.2.2.1 r y)).trans rfl
 ·intro rec;simp only[Q55.s0,aR,cond_false];rw[wa r];refine (congrArg (λb=>bif b then _ else _) (szb (BI ([]:List ag)) t.length 32 (by omega) ?_)).trans rfl;have:=cK r;simp;omega
theorem sum_s (K:Nat)(n:aa)(s:Int)(t:List ag)(h:c6 n.1 (aa.others n))(R:1048577<K):Q56.f K (n,s,t,())=some ((setO n (bG (λx:cR=>x.1) (s,t) (aa.others n)),()),()):=by
 have X:=olen h;refine rl (step:=λrec a=>Q56.s0 K (n,s,t,()) rec a) (λx:cR=>x.1) (s,t) (aa.others n) h.2 (λr i=>(r,false,(i:Int))) (λr i=>(r,true,(i:Int))) (λo=>some ((setO n o,()),())) ?_ ?_ ?_ ?_ (by omega)
 ·intro rec r i I H _;simp only[Q56.s0,zcp4,zcp8];rw[bi (by omega:(i:Int)<(BI (aa.others n):Int)),af I,ar i (by omega)];simp only[cond_true,BG,CB];have u:=szb r.length 1 32 (by omega) (by omega);have O:=szb (r++[(s,t)]).length 1 32 (by omega) (by simp;omega);generalize (aa.others n)[i]=y at *;by_cases J:y.1<s
  ·rw[if_pos J,show decide (y.1>=s)=false from decide_eq_false (by omega),show (y.1 != s)=true by simp;omega];exact (congrArg (λb=>bif b then _ else _) u).trans rfl
  ·rw[if_neg J,show decide (y.1>=s)=true from decide_eq_true (by omega)];refine (congrArg (λb=>bif b then _ else _) u).trans ?_;by_cases z:y.1=s
   ·rw[if_pos z,show (y.1 != s)=false by simpa using z];rfl
   ·rw[if_neg z,show (y.1 != s)=true by simpa using z];exact (congrArg (λb=>bif b then _ else _) O).trans rfl
 ·intro rec r i I H M;simp only[Q56.s0,zcp4,zcp8];rw[bi (by omega:(i:Int)<(BI (aa.others n):Int)),af I,ar i (by omega)];simp only[cond_true,BG,BN,cond_false];have u:=szb r.length 1 32 (by omega) (by omega);rw[show ((aa.others n)[i].1 != s)=true by simp;have:s<_:=M;omega];exact (congrArg (λb=>bif b then _ else _) u).trans rfl
 ·intro rec r H _;simp only[Q56.s0,zcp4,zcp8,aR,cond_false,CB,cond_true];exact (congrArg (λb=>bif b then _ else _) (szb r.length 1 32 (by omega) (by omega))).trans rfl
 ·intro rec r H;simp only[Q56.s0,zcp4,zcp8,aR,cond_false,BN];rfl
theorem zf (K:Nat)(a b:List ag)(X:a.length<=1048576)(Y:1048577<K):Q57.f K (a,b,())=rb (decide (a≠b)):=by
 simp only[Q57.f,Q57.pre];by_cases I:a.length=b.length
 ·rw[show ((BI a:Int) != (BI b:Int))=false by simp;omega];have:=ch (step:=λrec x=>Q57.s0 K (a,b,()) rec x) a.length (λi=>(i:Int)) (λj=>∃ (h:j<a.length) (Z:j<b.length),a[j]≠b[j]) (rb false) (λ_=>rb true) ?_ ?_ a.length K 0 (by omega) (by omega)
  ·rcases this with ⟨H,y⟩|⟨j,_,H,⟨u,M,O⟩,_,y⟩
   ·refine (y:Q57.l0 K (a,b,()) 0=_).trans ?_;rw[decide_eq_false];rintro z;exact z (List.ext_getElem I λi u M=>CK.1 λR=>H i (B3 _) u ⟨u,M,R⟩)
   ·refine (y:Q57.l0 K (a,b,()) 0=_).trans ?_;rw[decide_eq_true];rintro rfl;exact O rfl
  ·intro rec i J;simp only[Q57.s0];rw[bi (by omega:(i:Int)<(BI a:Int)),af J,ar i (by omega),af (show i<b.length by omega)];simp only[cond_true,BG];rw[show Ty.eqv t2 a[i] (b[i]'(by omega))=decide (a[i]=b[i]'(by omega)) from jF _ _];by_cases r:a[i]=b[i]'(by omega)
   ·exact .inl ⟨λ⟨_,_,h⟩=>h r,by rw[decide_eq_true r];rfl⟩
   ·exact .inr ⟨⟨J,by omega,r⟩,by rw[decide_eq_false r];rfl⟩
  ·intro rec;simp only[Q57.s0,aR];rfl
 ·rw[show ((BI a:Int) != (BI b:Int))=true by simp;omega,decide_eq_true (show a≠b from λe=>I (by rw[e]))];rfl
theorem qD (K:Nat)(l:List Int)(t:Int)(u:l.length<=1048576):Q63.f K (l,t,())=some ((gZ l t,()),()):=by
 simp only[Q63.f];rw[szb _ _ _ (by omega) (by show (BI ([]:List Int))+l.length<=_;simp;omega)];simp only[cond_true,BT];rw[szb _ _ _ (by omega) (by show l.length+[t].length<=_;simp;omega)];simp only[cond_true];have r:(l++[t]).length=l.length+1:=by simp
 show (bif decide (((l++[t]).length:Int)>3) then (bif decide (0<=wr .i64 (((l++[t]).length:Int)-3))&&decide (wr .i64 (((l++[t]).length:Int)-3)<=((l++[t]).length:Int))&&decide (((l++[t]).length:Int)<=((l++[t]).length:Int))&&true then some ((((l++[t]).take (BL ((l++[t]).length:Int))).drop (BL (wr .i64 (((l++[t]).length:Int)-3))),()),()) else none) else some ((l++[t],()),()))=_;by_cases h:l.length+1>3
 ·rw[aD (by omega) (by omega),decide_eq_true (by omega:((l++[t]).length:Int)>3),decide_eq_true (by omega:(0:Int)<=((l++[t]).length:Int)-3),decide_eq_true (by omega:((l++[t]).length:Int)-3<=((l++[t]).length:Int)),decide_eq_true (CL _)];simp only[Bool.and_self,cond_true,gZ];rw[show BL (((l++[t]).length:Int)-3)=(l++[t]).length-3 by omega,BM,CF]
 ·rw[decide_eq_false (by omega:¬ ((l++[t]).length:Int)>3)];simp only[cond_false,gZ];rw[show (l++[t]).length-3=0 by omega,B6]
theorem plen {u:Int}{l:List dF}(h:eq u l):l.length<=1048576:=BR (iS h.2 λx r=>(h.1 x r).1) (by decide)
theorem uv {y:Int}{l:List dF}(h:eq y l)(r:Int):(dB l r).length<=3:=by
 unfold dB;cases u:l.find? λp=>p.1==r with
 |none=>simp
 |some p =>
  have:=(h.1 p (List.mem_of_find?_eq_some u)).2.2.2.2.1.2;show p.2.2.length<=3;omega
theorem Aq (K:Nat)(l:List dF)(r:Int)(c:du)(t:Int)(me:Int)(h:eq me l)(hK:1048577<K):Q64.f K (l,r,c,t,())=some ((o9 l r c t,()),()):=by
 have hl:=plen h;have h3:=uv h r;refine rl (step:=λrec a=>Q64.s0 K (l,r,c,t,()) rec a) (λx:dF=>x.1) (r,c,gZ (dB l r) t) l h.2 (λu i=>(u,false,(i:Int),[])) (λu i=>(u,true,(i:Int),gZ (dB l r) t)) (λo=>some ((o,()),())) ?_ ?_ ?_ ?_ (by omega)
 ·intro rec u i I M z;simp only[Q64.s0];rw[bi (by omega:(i:Int)<(BI l:Int)),af I,ar i (by omega)];simp only[cond_true,BG,CB];have X:=szb u.length 1 64 (by omega) (by omega);have z2:=szb (u++[(r,c,gZ (dB l r) t)]).length 1 64 (by omega) (by simp;omega);have J:l[i].1=r->dB l r=l[i].2.2:=λe=>by unfold dB;rw[oY h.2 I e];rfl
  have O:r<l[i].1->dB l r=[]:=λe=>by
   unfold dB;rw[nO (k:=λp:dF=>p.1)]
   ·rfl
   intro y R;obtain⟨j,hj,rfl⟩:=B7 R;by_cases a0:j<i
   ·have:=z l[j] (by rw[List.mem_take_iff_getElem];exact⟨j,by omega,rfl⟩);show l[j].1≠r;have:l[j].1<r:=this;omega
   ·have:l[i].1<=l[j].1:=by
     by_cases e:i=j
     ·subst e;exact CL _
     ·exact Int.le_of_lt (dl.1 h.2 i j I hj (by omega))
    show l[j].1≠r;omega
  have a1:=(h.1 _ (BQ I)).2.2.2.2.1.2;generalize l[i]=y at *;by_cases Y:y.1<r
  ·rw[if_pos Y,show decide (y.1>=r)=false from decide_eq_false (by omega),show (y.1 != r)=true by simp;omega,show (y.1==r)=false by simp;omega];exact (congrArg (λb=>bif b then _ else _) X).trans rfl
  ·rw[if_neg Y,show decide (y.1>=r)=true from decide_eq_true (by omega)];by_cases H:y.1=r
   ·rw[if_pos H,show (y.1 != r)=false by simpa using H,show (y.1==r)=true by simpa using H];simp only[cond_true,cond_false];rw[<- J H];refine (congrArg (λo=>BJ o _) (qD K _ t (by omega))).trans ?_;exact (congrArg (λb=>bif b then _ else _) X).trans rfl
   ·rw[if_neg H,show (y.1 != r)=true by simpa using H,show (y.1==r)=false by simpa using H];simp only[cond_true,cond_false];have e:=O (by omega);rw[e]at z2 ⊢;refine (congrArg (λo=>BJ o _) (qD K [] t (by simp))).trans ?_;refine (congrArg (λb=>bif b then _ else _) X).trans ?_;exact (congrArg (λb=>bif b then _ else _) z2).trans rfl
 ·intro rec u i I M Z;simp only[Q64.s0];rw[bi (by omega:(i:Int)<(BI l:Int)),af I,ar i (by omega)];have Z:r<l[i].1:=Z;simp only[cond_true,BG,BN,cond_false];rw[show (l[i].1 != r)=true by simp;omega,show (l[i].1==r)=false by simp;omega];exact (congrArg (λb=>bif b then _ else _) (szb u.length 1 64 (by omega) (by omega))).trans rfl
 ·intro rec u M z;simp only[Q64.s0,aR,cond_false,CB,cond_true];have e:dB l r=[]:=by
   unfold dB;rw[nO (k:=λp:dF=>p.1) (λy R=>by have:y.1<r:=z y R;show y.1≠r;omega)];rfl
  rw[e];refine (congrArg (λo=>BJ o _) (qD K [] t (by simp))).trans ?_;exact (congrArg (λb=>bif b then _ else _) (szb u.length 1 64 (by omega) (by omega))).trans rfl
 ·intro rec u M;simp only[Q64.s0,aR,cond_false,BN]
def tu (n r u:Int):Int:=if n<r then r else if n>u then u else n
theorem zM (K:Nat)(n y z:Int):Q62.f K (n,y,z,())=some ((tu n y z,()),()):=by
 simp only[Q62.f,tu];by_cases r:n<y
 ·rw[decide_eq_true r,if_pos r];rfl
 ·rw[decide_eq_false r,if_neg r];by_cases u:n>z
  ·rw[decide_eq_true u,if_pos u];rfl
  ·rw[decide_eq_false u,if_neg u];rfl
theorem Ar {n r u:Int}(h:r<=u):InP (tu n r u) r u:=by
 unfold tu;split
 ·exact⟨CL _,h⟩
 ·split
  ·exact⟨h,CL _⟩
  ·exact⟨by omega,by omega⟩
def xK (n:aa):Int:=tu ((bR n-(aa.probe n).2.1)*1000+500) 1 60000
noncomputable def qE (K:Nat)(w:ap)(c:du)(p:dF):du:=bif p.1==w.2.2.1 then pR K c (ap.coord w) (sk K p.2.2) w.2.2.2.2.1 else c
def kA (n:aa)(w:ap):List dF:=o9 (aa.places n) w.2.2.1 (ap.coord w) (xK n)
def qF (n:aa)(w:ap):Bool:=!decide ((aa.probe n).1<0)&&(aa.probe n).1==w.2.2.1&&(aa.probe n).2.2.1==w.2.2.2.2.1&&w.2.2.2.2.2.1==w.2.2.1
noncomputable def fk (K:Nat)(n:aa)(w:ap):aa:=bif qF n w then pO n ((kA n w).foldl (qE K w) (aa.coord n)) (kA n w) else n
theorem u7 {K:Nat}{w:ap}{c:du}{p:dF}(r:cD c)(u:1048577<K):cD (qE K w c p):=by
 unfold qE;cases p.1==w.2.2.1 with
 |false=>exact r
 |true=>exact (xH K c _ _ _ r u).2
theorem tv {n:aa}(h:UpX n)(H:¬ (aa.probe n).1<0):(aa.probe n).1≠n.1/\InP (aa.probe n).1 0 7/\ao (aa.probe n).1=ao n.1/\InP (aa.probe n).2.1 0 (bR n):=by
 have r:=h.probe;unfold cU at r;rw[if_neg (by omega)]at r;obtain⟨z,⟨f,u,e⟩,y,_⟩:=r;exact⟨z,e ▸ (h.table.1 f u).1,e ▸ h.site f u,y⟩
theorem u9 {n:aa}{w:ap}(h:UpX n)(H:cD (ap.coord w))(r:qF n w=true):eq n.1 (kA n w):=by
 simp only[qF,CN,CV,decide_eq_false_iff_not,beq_iff_eq]at r;obtain⟨⟨⟨I,J⟩,M⟩,O⟩:=r;obtain⟨z,y,u,_⟩:=tv h I;rw[J]at z y u;exact vY h.places y u z H (Ar (by decide))
theorem ack_s (K:Nat)(n:aa)(w:ap)(h:UpN n)(hw:cD (ap.coord w))(I:1048577<K):Q75.f K (n,w,())=some ((fk K n w,()),()):=by
 simp only[Q75.f,Q75.pre,zc00556];have z:qF n w=(!decide ((aa.probe n).1<0)&&(aa.probe n).1==w.2.2.1&&(aa.probe n).2.2.1==w.2.2.2.2.1&&w.2.2.2.2.2.1==w.2.2.1):=rfl;by_cases r:(aa.probe n).1<0
 ·rw[show decide (n.2.2.2.2.2.2.2.2.2.2.1.1<0)=true from decide_eq_true r];rw[show fk K n w=n by unfold fk;rw[z,decide_eq_true r];rfl];rfl
 ·rw[show decide (n.2.2.2.2.2.2.2.2.2.2.1.1<0)=false from decide_eq_false r];cases u:(aa.probe n).1==w.2.2.1 with
  |false =>
   rw[show fk K n w=n by unfold fk;rw[z,decide_eq_false r,u];rfl];rw[show (n.2.2.2.2.2.2.2.2.2.2.1.1 != w.2.2.1)=true by unfold bne;rw[show (n.2.2.2.2.2.2.2.2.2.2.1.1==w.2.2.1)=false from u];rfl];rfl
  |true =>
   rw[show (n.2.2.2.2.2.2.2.2.2.2.1.1 != w.2.2.1)=false by unfold bne;rw[show (n.2.2.2.2.2.2.2.2.2.2.1.1==w.2.2.1)=true from u];rfl];cases H:(aa.probe n).2.2.1==w.2.2.2.2.1 with
   |false =>
    rw[show fk K n w=n by unfold fk;rw[z,decide_eq_false r,u,H];rfl];rw[show (n.2.2.2.2.2.2.2.2.2.2.1.2.2.1 != w.2.2.2.2.1)=true by unfold bne;rw[show (n.2.2.2.2.2.2.2.2.2.2.1.2.2.1==w.2.2.2.2.1)=false from H];rfl];rfl
   |true =>
    rw[show (n.2.2.2.2.2.2.2.2.2.2.1.2.2.1 != w.2.2.2.2.1)=false by unfold bne;rw[show (n.2.2.2.2.2.2.2.2.2.2.1.2.2.1==w.2.2.2.2.1)=true from H];rfl];cases J:w.2.2.2.2.2.1==w.2.2.1 with
    |false =>
     rw[show fk K n w=n by unfold fk;rw[z,decide_eq_false r,u,H,J];rfl];rw[show (w.2.2.2.2.2.1 != w.2.2.1)=true by unfold bne;rw[J];rfl];rfl
    |true =>
     have X:qF n w=true:=by rw[z,decide_eq_false r,u,H,J];rfl
     rw[show (w.2.2.2.2.2.1 != w.2.2.1)=false by unfold bne;rw[J];rfl];have Z:=(tv h.x r).2.2.2;have hn:=h.now1;have O:=u9 h.x hw X;simp only[cond_false];rw[show wr .i64 (wr .i64 (wr .i64 (n.2.2.2.2.2.1-n.2.2.2.2.2.2.2.2.2.2.1.2.1)*1000)+500)=(bR n-(aa.probe n).2.1)*1000+500 by
      obtain⟨p1,p2⟩:=Z;show wr .i64 (wr .i64 (wr .i64 (bR n-(aa.probe n).2.1)*1000)+500)=_;rw[aD (n:=bR n-_) (by omega) (by omega),aD (n:=_*1000) (by omega) (by omega),aD (by omega) (by omega)]]
     rw[zM];simp only[BG];refine (congrArg (λo=>BJ o _) (Aq K (aa.places n) w.2.2.1 (ap.coord w) (xK n) n.1 h.x.places I)).trans ?_;simp only[BG];rw[show fk K n w=pO n ((kA n w).foldl (qE K w) (aa.coord n)) (kA n w) by unfold fk;rw[X];rfl];show Q75.l0 K (n,w,()) (0,(aa.coord n).1,(aa.coord n).2.1,(aa.coord n).2.2.1,(aa.coord n).2.2.2,kA n w)=_;have hl:=plen O;refine kQ (step:=λrec a=>Q75.s0 K (n,w,()) rec a) (kA n w) (qE K w) cD (λc i=>((i:Int),c.1,c.2.1,c.2.2.1,c.2.2.2,kA n w)) (λc=>some ((pO n c (kA n w),()),())) (aa.coord n) h.x.coord ?_ ?_ (by omega)
     ·intro rec c i R M;refine⟨?_,u7 M I⟩;simp only[Q75.s0,zc00556,zcp8];rw[bi (by omega:(i:Int)<(BI (kA n w):Int)),BM,af R,ar i (by omega)];simp only[cond_true,BG];have Y:=(O.1 _ (BQ R)).2.2.2.2.1.2;generalize (kA n w)[i]=y at *;unfold qE;cases y.1==w.2.2.1 with
      |false=>rfl
      |true =>
       simp only[cond_true];refine (congrArg (λo=>BJ o _) (med_s K y.2.2 (by omega) I)).trans ?_;refine (congrArg (λo=>BJ o _) (xH K c (ap.coord w) (sk K y.2.2) w.2.2.2.2.1 M I).1).trans ?_;rfl
     ·intro rec c M;simp only[Q75.s0,zc00556,zcp8,aR,cond_false];rfl
theorem Bk {K:Nat}{n:aa}{w:ap}(h:UpN n)(y:cD (ap.coord w))(u:1048577<K):UpN (fk K n w)/\(fk K n w).1=n.1/\(fk K n w).2.2.1=n.2.2.1:=by
 unfold fk;cases r:qF n w with
 |false=>exact⟨h,rfl,rfl⟩
 |true=>exact⟨h.heard (ky (Inv:=cD) h.x.coord λc p _ z=>u7 z u) (u9 h.x y r),rfl,rfl⟩
def pT (n:aa)(w:ap):Prop:=n.2.1=true/\n.2.2.1=false/\w.2.2.2.1=n.1/\w.2.2.1≠n.1 /\
 (if w.1=2 then w.2.1=6/\ao w.2.2.1≠ao n.1/\(ce (ap.table w) (ao n.1)\/ce (ap.table w) (ao w.2.2.1)) else ao w.2.2.1=ao n.1/\(w.2.1≠6\/¬ ce (ap.table w) (ao n.1)))
theorem At (K:Nat)(n:aa)(w:ap)(H:(ap.table w).length<=1048576)(z:1048577<K):Ret (Q42.f K (n,w,())) (pT n w):=by
 refine (Ret.cndN (P:=¬ n.2.1=true) (b:=!n.2.1) (by simp) λ_=>Ret.cndN (P:=n.2.2.1=true) (b:=n.2.2.1) Iff.rfl λ_=>Ret.cndN (P:=w.2.2.2.1≠n.1) (b:=w.2.2.2.1 != n.1) (by simp) λ_=>Ret.cndN (P:=w.2.2.1=n.1) (b:=w.2.2.1==n.1) (by simp) λ_ =>
  (?_:Ret _ (if w.1=2 then w.2.1=6/\ao w.2.2.1≠ao n.1/\(ce (ap.table w) (ao n.1)\/ce (ap.table w) (ao w.2.2.1)) else ao w.2.2.1=ao n.1/\(w.2.1≠6\/¬ ce (ap.table w) (ao n.1))))).iff ?_
 ·refine Ret.vl (eG K n.1) ?_;obtain⟨J,I,y⟩:=gr K (ap.table w) (ao n.1) H z;obtain⟨M,O,R⟩:=gr K (ap.table w) (ao w.2.2.1) H z;by_cases r:w.1=2
  ·rw[show (w.1==2)=true by simpa using r,if_pos r];refine Ret.cnd (P:=w.2.1=6) (b:=w.2.1==6) (by simp) λ_=>?_
   refine Ret.cnd (P:=ao w.2.2.1≠ao n.1) (b:=ao w.2.2.1 != ao n.1) (by simp) λ_=>Ret.vl I ?_
   cases J with
   |true=>exact Ret.yes (.inl (y.1 rfl))
   |false =>
    refine Ret.vl O ?_;exact Ret.of (b:=M) (R.trans ⟨.inr,λh=>h.resolve_left λh=>by have:=y.2 h;cases this⟩)
  ·rw[show (w.1==2)=false by simpa using r,if_neg r];refine Ret.cnd (P:=ao w.2.2.1=ao n.1) (b:=ao w.2.2.1==ao n.1) (by simp) λ_=>?_
   by_cases u:w.2.1=6
   ·show Ret (bif w.2.1 != 6 then _ else _) _;rw[show (w.2.1 != 6)=false by simpa using u];refine Ret.vl I (Ret.of (b:=!J) ?_);rw[CV,<- CX,y];exact⟨.inr,λh=>h.resolve_left λh=>h u⟩
   ·show Ret (bif w.2.1 != 6 then _ else _) _;rw[show (w.2.1 != 6)=true by simpa using u];exact Ret.yes (.inl u)
 ·unfold pT;rw[CK,CX,CK]
def sl (u:Int)(n:aa)(to y r:Int)(t:List ag):ap:=(1,u,n.1,to,y,r,aa.coord n,t)
theorem pU (K:Nat)(n:aa)(u to y r:Int)(t:List ag)(z:t.length<=1048576):Q43.f K (n,u,to,y,r,t,())=some ((sl u n to y r t,()),()):=by
 simp only[Q43.f];rw[szb _ _ _ (by omega) (by show (BI ([]:List ag))+t.length<=_;simp;omega)];rfl
def nT (t:List ag)(s:Int):Bool:=t.all λf=>ao f.1==s
theorem m7 {t:List ag}{s:Int}:nT t s=true<->ce t s:=by simp[nT,ce]
def ju (t:List ag):ag:=(t.head?).getD (0,0,0,false)
def fO (n:aa)(w:ap):List ag:=fC (cW (aa.others n) (ao (ju (ap.table w)).1)) (ap.table w)
def backW (n:aa)(w:ap):ap:=(2,6,n.1,w.2.2.1,0,n.1,aa.coord n,fO n w)
def sumN (n:aa)(w:ap):aa:=setO n (bG (λx:cR=>x.1) (ao (ju (ap.table w)).1,fO n w) (aa.others n))
def gN (n:aa)(w:ap):aa×List ap:=bif nT (ap.table w) (ao n.1) then (jh n (ap.table w) n.1,[]) else
 (sumN n w,bif w.1==2&&decide (ap.table w≠fO n w) then [backW n w] else [])
theorem pV:∀ {fs t:List ag} {g:ag},g∈fC t fs->g∈t\/g∈fs
 |[],_,_,h=>.inl h
 |f::fs,t,g,h=>by
  rcases pV (fs:=fs) h with h|h
  ·have h:g∈(bS t f).1:=h;rcases gX t f with e|e
   ·rw[e]at h;exact .inl h
   ·rw[e]at h;rcases aZ.1 h with rfl|⟨h,_⟩
    ·exact .inr (by simp)
    ·exact .inl h
  ·exact .inr (by simp[h])
theorem pW:∀ {fs t:List ag} {g:ag},g∈t->∃ z∈fC t fs,z.1=g.1
 |[],_,g,h=>⟨g,h,rfl⟩
 |f::fs,t,g,h=>by
  obtain⟨J,u,H⟩:=mR (f:=f) h;obtain⟨y,I,r⟩:=pW (fs:=fs) u;exact⟨y,I,r.trans H⟩
theorem uw {t:List ag}(H:Asc (λg:ag=>g.1) t)(f:ag):∃ g∈(bS t f).1,g.1=f.1:=by
 by_cases h:∃ g∈t,g.1=f.1
 ·obtain⟨g,r,e⟩:=h;obtain⟨y,u,z⟩:=mR (f:=f) r;exact⟨y,u,z.trans e⟩
 ·rw[im λg r e=>h ⟨g,r,e⟩];exact⟨f,aZ.2 (.inl rfl),rfl⟩
theorem m8 {n:aa}{w:ap}(h:c6 n.1 (aa.others n))(J:az (ap.table w))(u:pG (ap.table w)):az (fO n w)/\fO n w≠[]/\ce (fO n w) (ao (ju (ap.table w)).1):=by
 have z:=tt h (ao (ju (ap.table w)).1);refine⟨ra z J.1,?_,?_⟩
 ·unfold fO;cases y:ap.table w with
  |nil=>rw[y]at u;exact u.elim
  |cons f l =>
   obtain⟨g,H,_⟩:=uw (f:=f) (t:=cW (aa.others n) (ao (ju (f::l)).1)) (by rw[y]at z;exact z.2);obtain⟨R,I,_⟩:=pW (fs:=l) H;exact List.ne_nil_of_mem I
 ·intro g r;rcases pV r with r|r
  ·rcases mO (l:=aa.others n) (s:=ao (ju (ap.table w)).1) with e|⟨x,M,O,e⟩
   ·rw[e]at r;cases r
   ·rw[e]at r;rw[<- O];exact (h.1 x M).2.2.2.2 g r
  ·cases y:ap.table w with
   |nil=>rw[y]at u;exact u.elim
   |cons f l =>
    rw[y]at u r;exact u g r
theorem va {x:Int}(h:InP x 0 7):InP (ao x) 0 1:=by
 rw[jj h];obtain⟨r,u⟩:=h;constructor <;> omega
theorem zg {t:List ag}(r:pG t)(u:az t):InP (ju t).1 0 7:=by
 cases t with
 |nil=>exact r.elim
 |cons f l=>exact (u.1 f (by simp)).1
theorem xL (K:Nat)(n:aa)(w:ap)(h:UpN n)(r:az (ap.table w))(z:pG (ap.table w))(u:1048577<K):Q58.f K (n,w,())=some (((gN n w).1,(gN n w).2,()),()):=by
 simp only[Q58.f];rw[eG K n.1];simp only[BG];obtain⟨H,O,I⟩:=gr K (ap.table w) (ao n.1) (cK r) u;have J:nT (ap.table w) (ao n.1)=H:=by rw[Bool.eq_iff_iff,m7,I]
 unfold gN;rw[J];refine (congrArg (λo=>BJ o _) O).trans ?_;simp only[rb,BG];cases H with
 |true =>
  simp only[cond_true];refine (congrArg (λo=>BJ o _) (uY K n (ap.table w) n.1 h.learns r.1 (cK r) h.x.me u)).trans rfl
 |false =>
  simp only[cond_false];obtain⟨M,X,Y⟩:=m8 (n:=n) h.x.others r z;have y:idx (ap.table w) 0=some (ju (ap.table w)):=by
   cases R:ap.table w with
   |nil=>rw[R]at z;exact z.elim
   |cons f l=>rfl
  refine (congrArg (λo=>BJ o _) y).trans ?_;simp only[BG];rw[eG K];simp only[BG];refine (congrArg (λo=>BJ o _) (xJ K n (ao (ju (ap.table w)).1) (ap.table w) h.x.others r u)).trans ?_;simp only[BG];refine (congrArg (λo=>BJ o _) (sum_s K n (ao (ju (ap.table w)).1) (fO n w) h.x.others u)).trans ?_;simp only[BG];cases w.1==2 with
  |false=>rfl
  |true =>
   simp only[cond_true,Bool.true_and];refine (congrArg (λo=>BJ o _) (zf K (ap.table w) (fO n w) (cK r) u)).trans ?_;simp only[rb,BG];cases decide (ap.table w≠fO n w) with
   |false=>rfl
   |true =>
    simp only[cond_true];refine (congrArg (λo=>BJ o _) (pU K (sumN n w) 6 w.2.2.1 0 n.1 (fO n w) (cK M))).trans rfl
theorem wb {n:aa}{w:ap}(h:UpN n)(H:n.2.2.1=false)(y:az (ap.table w))(r:pG (ap.table w)):UpN (gN n w).1/\(gN n w).1.1=n.1/\(gN n w).1.2.2.1=false:=by
 unfold gN;cases u:nT (ap.table w) (ao n.1) with
 |true=>exact mi h H y (m7.1 u) (fD.me h.x.me)
 |false =>
  obtain⟨M,J,I⟩:=m8 (n:=n) h.x.others y r;refine⟨h.setOthers (vX h.x.others (va (zg r y)) (λe=>?_) J M I),rfl,H⟩;have:ce (ap.table w) (ao n.1):=by
   cases z:ap.table w with
   |nil=>rw[z]at r;exact r.elim
   |cons f l=>rw[z]at r e;rw[<- e];exact r
  rw[m7.2 this]at u;cases u
noncomputable def fN (K:Nat)(n:aa)(w:ap):aa×List ap :=
 bif w.2.1==1 then (bif ao w.2.2.2.2.2.1 != ao n.1 then (n,[]) else bif w.2.2.2.2.2.1==n.1 then (n,[]) else (ir n,[sl 2 (ir n) w.2.2.2.2.2.1 w.2.2.2.2.1 n.1 (iV n w.2.2.2.2.2.1)]))
 else bif w.2.1==3 then (bif ao w.2.2.2.2.2.1 != ao n.1 then (n,[]) else bif w.2.2.2.2.2.1==n.1 then (n,[]) else bif w.2.2.2.2.2.1==w.2.2.1 then (n,[]) else (ir n,[sl 1 (ir n) w.2.2.2.2.2.1 w.2.2.2.2.1 w.2.2.1 (iV n w.2.2.2.2.2.1)]))
 else bif w.2.1==4 then (n,[sl 5 n w.2.2.1 0 n.1 (aa.table n)]) else bif w.2.1==2 then (fk K n w,[]) else (n,[])
theorem zh (K:Nat)(n:aa)(w:ap)(h:UpN n)(z:cD (ap.coord w))(r:1048577<K):Q76.f K (n,w,())=some (((fN K n w).1,(fN K n w).2,()),()):=by
 simp only[Q76.f];rw[eG K n.1];simp only[BG];have u:=qz K n w.2.2.2.2.2.1 h.x.say r;have y:=cK (kl h.x.say w.2.2.2.2.2.1);unfold fN;cases w.2.1==1 with
 |true =>
  simp only[cond_true];rw[eG K];simp only[BG];cases ao w.2.2.2.2.2.1 != ao n.1 with
  |true=>rfl
  |false =>
   simp only[cond_false];cases w.2.2.2.2.2.1==n.1 with
   |true=>rfl
   |false =>
    simp only[cond_false];refine (congrArg (λo=>BJ o _) u).trans ?_;simp only[BG];refine (congrArg (λo=>BJ o _) (pU K (ir n) 2 w.2.2.2.2.2.1 w.2.2.2.2.1 n.1 _ y)).trans rfl
 |false =>
  simp only[cond_false];cases w.2.1==3 with
  |true =>
   simp only[cond_true];rw[eG K];simp only[BG];cases ao w.2.2.2.2.2.1 != ao n.1 with
   |true=>rfl
   |false =>
    simp only[cond_false];cases w.2.2.2.2.2.1==n.1 with
    |true=>rfl
    |false =>
     simp only[cond_false];cases w.2.2.2.2.2.1==w.2.2.1 with
     |true=>rfl
     |false =>
      simp only[cond_false];refine (congrArg (λo=>BJ o _) u).trans ?_;simp only[BG];refine (congrArg (λo=>BJ o _) (pU K (ir n) 1 w.2.2.2.2.2.1 w.2.2.2.2.1 w.2.2.1 _ y)).trans rfl
  |false =>
   simp only[cond_false];cases w.2.1==4 with
   |true=>exact (congrArg (λo=>BJ o _) (pU K n 5 w.2.2.1 0 n.1 (aa.table n) (cK h.x.table))).trans rfl
   |false =>
    simp only[cond_false];cases w.2.1==2 with
    |true=>exact (congrArg (λo=>BJ o _) (ack_s K n w h z r)).trans rfl
    |false=>rfl
theorem xM {K:Nat}{n:aa}{w:ap}(h:UpN n)(u:cD (ap.coord w))(r:1048577<K):UpN (fN K n w).1/\(fN K n w).1.1=n.1/\(fN K n w).1.2.2.1=n.2.2.1:=by
 unfold fN;cases w.2.1==1 <;> cases w.2.1==3 <;> cases w.2.1==4 <;> cases w.2.1==2 <;> cases ao w.2.2.2.2.2.1 != ao n.1 <;> cases w.2.2.2.2.2.1==n.1 <;> cases w.2.2.2.2.2.1==w.2.2.1 <;> first|exact⟨h,rfl,rfl⟩|exact⟨h.way,rfl,rfl⟩|exact Bk h u r
open Classical in
noncomputable def dy (K:Nat)(n:aa)(w:ap):aa×List ap :=
 if iQ w/\pT n w then (if w.2.1=6 then gN n w else fN K (jh n (ap.table w) w.2.2.1) w) else (n,[])
theorem mj {n:aa}{w:ap}(H:iQ w)(h:pT n w)(u:w.2.1≠6):ce (ap.table w) (ao n.1)/\fD n w.2.2.1:=by
 obtain⟨_,_,w3,_,_,_,_,_,z⟩:=H;rw[if_neg u]at z;obtain⟨_,_,_,_,r⟩:=h;by_cases y:w.1=2
 ·rw[if_pos y]at r;exact absurd r.1 u
 ·rw[if_neg y]at r;exact⟨r.1 ▸ z,w3,r.1⟩
theorem Bl (K:Nat)(n:aa)(w:ap)(h:n.2.1=true->UpN n)(I:(ap.table w).length<=1048576)(y:1048577<K):Q77.f K (n,w,())=some (((dy K n w).1,(dy K n w).2,()),()):=by
 simp only[Q77.f];obtain⟨b1,e1,M⟩:=sQ K w I y;obtain⟨b2,e2,X⟩:=At K n w I y;rw[e1];cases b1 with
 |false =>
  unfold dy;rw[if_neg λh=>by have:=M.2 h.1;cases this];rfl
 |true =>
  have z:=M.1 rfl;simp only[rb,BG,BN,cond_false];refine (congrArg (λo=>BJ o _) e2).trans ?_;cases b2 with
  |false =>
   unfold dy;rw[if_neg λh=>by have:=X.2 h.2;cases this];rfl
  |true =>
   have H:=X.1 rfl;have J:=h H.1;simp only[rb,BG,BN,cond_false];unfold dy;rw[if_pos ⟨z,H⟩];have r:=z.2.2.2.2.2.2.2.1;by_cases u:w.2.1=6
   ·rw[if_pos u,show (w.2.1==6)=true by simpa using u];have O:=z.2.2.2.2.2.2.2.2;rw[if_pos u]at O;exact (congrArg (λo=>BJ o _) (xL K n w J r O y)).trans rfl
   ·rw[if_neg u,show (w.2.1==6)=false by simpa using u];obtain⟨Z,R⟩:=mj z H u;have Y:=(mi J H.2.1 r Z R).1;refine (congrArg (λo=>BJ o _) (uY K n (ap.table w) w.2.2.1 J.learns r.1 I R.1 y)).trans ?_;exact (congrArg (λo=>BJ o _) (zh K _ w Y z.2.2.2.2.2.2.1 y)).trans rfl
theorem vd {K:Nat}{n:aa}{w:ap}(h:UpN n)(O:1048577<K):UpN (dy K n w).1/\(dy K n w).1.1=n.1/\(dy K n w).1.2.2.1=n.2.2.1:=by
 unfold dy;split
 ·rename_i X;obtain⟨y,r⟩:=X;have u:=y.2.2.2.2.2.2.2.1;split
  ·rename_i z;have J:=y.2.2.2.2.2.2.2.2;rw[if_pos z]at J;rw[r.2.1];exact wb h r.2.1 u J
  ·rename_i z;obtain⟨R,M⟩:=mj y r z;have H:=mi h r.2.1 u R M;have I:=xM (w:=w) H.1 y.2.2.2.2.2.2.1 O;exact⟨I.1,I.2.1.trans H.2.1,I.2.2.trans (H.2.2.trans r.2.1.symm)⟩
 ·exact⟨h,rfl,rfl⟩
theorem pX {K:Nat}{n:aa}{w:ap}(h:UpN n)(hK:1048577<K):(dy K n w).2.length<=1/\∀ x∈(dy K n w).2,InP x.2.2.2.1 0 7/\(ap.table x).length<=1048576:=by
 unfold dy;split
 ·rename_i X;obtain⟨u,M⟩:=X;have y:=u.2.2.2.2.2.2.2.1;split
  ·rename_i z;have I:=u.2.2.2.2.2.2.2.2;rw[if_pos z]at I;obtain⟨Y,a2,a3⟩:=m8 (n:=n) h.x.others y I;unfold gN;cases nT (ap.table w) (ao n.1) with
   |true=>exact⟨by simp,by simp⟩
   |false =>
    simp only[cond_false];cases w.1==2&&decide (ap.table w≠fO n w) with
    |false=>exact⟨by simp,by simp⟩
    |true=>exact⟨by simp,λx r=>by rw[BK.1 r];exact⟨u.2.2.1,cK Y⟩⟩
  ·rename_i z;obtain⟨R,O⟩:=mj u M z;have J:=mi h M.2.1 y R O;have ht:=cK (kl J.1.x.say w.2.2.2.2.2.1);have H:=cK J.1.x.table;have w3:=u.2.2.1;have Z:=u.2.2.2.2.2.1;generalize jh n (ap.table w) w.2.2.1=m at *;unfold fN;cases w.2.1==1 <;> cases w.2.1==3 <;> cases w.2.1==4 <;> cases w.2.1==2 <;> cases ao w.2.2.2.2.2.1 != ao m.1 <;> cases w.2.2.2.2.2.1==m.1 <;> cases w.2.2.2.2.2.1==w.2.2.1 <;>
    first|exact⟨CG _,λx r=>by rw[BK.1 r];exact⟨Z,ht⟩⟩|exact⟨CG _,λx r=>by rw[BK.1 r];exact⟨w3,H⟩⟩|exact⟨B3 _,λx r=>nomatch r⟩
 ·exact⟨by simp,by simp⟩
theorem ux {n:aa}(h:∀ k,k<8->¬ gL n k):gY n=none:=by
 unfold gY;rw[List.find?_eq_none];intro x u;obtain⟨k,r,rfl⟩:=BV.1 u;have:=h k (by simpa using r);unfold gL at this;simpa using this
theorem uy {n:aa}{k:Nat}(u:k<8)(r:gL n k)(h:∀ j,j<k->¬ gL n j):gY n=some (bf n k):=by
 unfold gY;rw[List.find?_map,List.find?_range_eq_some.2 ⟨?_,by simpa using u,λj y=>?_⟩]
 ·rfl
 ·unfold gL at r;simpa using r
 ·have:=h j y;unfold gL at this;simpa[Classical.or_iff_not_imp_left]using this
theorem ve (K:Nat)(n:aa)(h:b7 n)(X:tk n)(J:1048577<K):Q94.f K (n,())=some (((dI n).1,(dI n).2,()),()):=by
 obtain⟨⟨Z,Y⟩,⟨t0,t1⟩⟩:=X;obtain⟨to,O,z⟩:=u5 K n h t0 t1 J;simp only[Q94.f,zcp4];rw[O];simp only[BG,dI];by_cases r:jk n>=999999
 ·rw[decide_eq_true r,show decide (n.2.2.2.2.2.2.1>=999999)=true from decide_eq_true r];cases decide (to<0) <;> rfl
 ·rw[decide_eq_false r,show decide (n.2.2.2.2.2.2.1>=999999)=false from decide_eq_false r];simp only[cond_false];rcases z with ⟨rfl,u⟩|⟨k,M,y,I,rfl⟩
  ·rw[ux u];rfl
  ·rw[uy M y I];have R:0<=bf n k/\bf n k<8:=⟨Ca _ (by omega),CU _ (by omega)⟩;rw[decide_eq_false (by omega:¬ bf n k<0)];simp only[cond_false];rw[qz K n _ h J];simp only[BG];have H:wr .i64 (jk n+1)=jk n+1:=aD (by omega) (by omega);rw[show wr .i64 ((ir n).2.2.2.2.2.2.1+1)=n.2.2.2.2.2.2.1+1 from H,aD (n:=bf n k+1) (by omega) (by omega)];simp only[Q43.f];rw[szb _ _ _ (by omega) (by have:=cK (kl h (bf n k));simp;omega)];rfl
def hZ (w:ap):Prop:=InP w.2.2.2.1 0 7/\(ap.table w).length<=1048576
theorem tw {n:aa}(H:az (aa.table n)):(bk n).2.length<=2/\∀ w∈(bk n).2,hZ w:=by
 have r:([]:List ap).length<=2/\∀ w∈([]:List ap),hZ w:=⟨by simp,by simp⟩;unfold bk;cases (aa.probe n).1==-1 with
 |true=>exact r
 |false =>
  cases !cL (aG (aa.table n) (aa.probe n).1) with
  |true=>exact r
  |false =>
   cases decide (n.2.2.2.2.2.1-(aa.probe n).2.1>=4) with
   |true=>exact r
   |false =>
    cases decide (n.2.2.2.2.2.1-(aa.probe n).2.1>=2) with
    |false=>exact r
    |true =>
     cases !(aa.probe n).2.2.2 with
     |false=>exact r
     |true =>
      simp only[cond_true,cond_false];refine⟨by rw[B9];exact CR _ _,λw y=>?_⟩;obtain⟨to,u,rfl⟩:=BV.1 y;obtain⟨f,z,rfl⟩:=BV.1 (BW u);exact⟨(H.1 f (B5.1 z).1).1,B3 _⟩
theorem zN {n:aa}(h:b7 n):(dI n).2.length<=1/\∀ w∈(dI n).2,hZ w:=by
 have r:([]:List ap).length<=1/\∀ w∈([]:List ap),hZ w:=⟨by simp,by simp⟩;unfold dI;cases decide (jk n>=999999) with
 |true=>exact r
 |false =>
  simp only[cond_false];cases H:gY n with
  |none=>exact r
  |some to =>
   refine⟨by simp,λw u=>?_⟩;rw[BK.1 u];obtain⟨y,z,I⟩:=c7 h.table (fh (rh H).2);exact⟨z ▸ y.1,cK (kl h to)⟩
theorem Bm {n:aa}(I:c6 n.1 (aa.others n)){s d:Int}(H:InP s 0 1):InP (f9 n s d) 0 7:=by
 unfold f9;cases u:decide (ct (cW (aa.others n) s)≠[])&&aO .i64 d 4==0 with
 |true =>
  rw[CN,decide_eq_true_eq]at u;have:=(dV (d:=CO d (2 ^ 3)) u.1).2.2;unfold ct at this;obtain⟨f,z,e⟩:=BV.1 (BW this);simp only[cond_true];show InP (gM (ct (cW (aa.others n) s)) (CO d (2 ^ 3))) 0 7;unfold ct;rw[<- e];exact ((tt I s).1 f (B5.1 z).1).1
 |false =>
  obtain⟨r,y⟩:=kz (a:=CO d (2 ^ 3)) (m:=3) (by omega);have r:0<=aO .i64 (CO d (2 ^ 3)) 3:=r;have y:aO .i64 (CO d (2 ^ 3)) 3<=3:=y;obtain⟨M,J⟩:=H;simp only[cond_false];exact⟨by omega,by omega⟩
theorem vf {n:aa}(I:az (aa.table n))(J:c6 n.1 (aa.others n))(r:Int):(ey n r).length<=2/\∀ w∈ey n r,hZ w:=by
 have u:([]:List ap).length<=2/\∀ w∈([]:List ap),hZ w:=⟨by simp,by simp⟩;unfold ey;cases aO .i64 r 3==1 with
 |true =>
  simp only[cond_true,eK];cases ew n with
  |false=>exact u
  |true =>
   refine⟨?_,λw z=>?_⟩
   ·show ((([0,1]:List Int).filter (λs=>s != ao n.1)).map _).length<=2;rw[B9];exact CE _ _
   ·obtain⟨s,R,rfl⟩:=BV.1 z;refine⟨Bm J ?_,cK I⟩;have:=(B5.1 R).1;simp at this;rcases this with rfl|rfl <;> exact⟨by decide,by decide⟩
 |false =>
  simp only[cond_false];by_cases y:cd n=[]
  ·rw[decide_eq_true y,Bool.or_true];exact u
  ·rw[decide_eq_false y,Bool.or_false];obtain⟨f,O,e⟩:=BV.1 (dV (d:=CO r (2 ^ 2)) y).2.2;have H:InP (gM (cd n) (CO r (2 ^ 2))) 0 7:=by
    rw[<- e];exact (I.1 f (B5.1 O).1).1
   cases aO .i64 r 3==3 with
   |true=>exact u
   |false =>
    simp only[cond_false];cases aO .i64 r 3==0 with
    |true=>exact⟨by simp,λw z=>by rw[BK.1 z];exact⟨H,cK I⟩⟩
    |false =>
     simp only[cond_false,mX]
     match M:aa.others n with
     |[]=>exact u
     |x::_=>exact⟨by simp,λw z=>by rw[BK.1 z];exact⟨H,cK (J.1 x (by rw[M];simp)).2.2.2.1⟩⟩
theorem UpX.far {n:aa}(h:UpX n):hM n:=⟨by rcases mV h.me h.others with e|⟨x,e⟩ <;> rw[e] <;> simp,λx r=>⟨(h.others.1 x r).2.2.2.1,cK (h.others.1 x r).2.2.2.1⟩⟩
theorem rm {n:aa}(h:UpX n)(J:bR n<=1000000):((aa.probe n).1=-1\/0<=(aa.probe n).1)/\0<=(aa.probe n).2.1/\(aa.probe n).2.1<=1000000:=by
 have r:=h.probe;have z:bR n=n.2.2.2.2.2.1:=rfl;unfold cU at r;split at r
 ·rename_i H;rw[r];exact⟨.inl rfl,by show (0:Int)<=0;omega,by show (0:Int)<=1000000;omega⟩
 ·obtain⟨_,⟨f,y,e⟩,⟨u,I⟩,_⟩:=r;have:=(h.table.1 f y).1.1;exact⟨.inr (e ▸ this),u,by omega⟩
theorem Bn {n:aa}(h:UpN n)(y:bR n<999999)(r:Int):(hY n r).length<=5/\∀ w∈hY n r,hZ w:=by
 have O:=(mY h.x.later (show db (d4 n) from h.self)).1.table;obtain⟨H,J⟩:=tw O;obtain⟨I,_,_⟩:=pN h y;have z:=(lK h y).1;obtain⟨X,M⟩:=vf z.x.table z.x.others r;have R:(dM (eQ n).1).2.length<=1/\∀ w∈(dM (eQ n).1).2,hZ w:=by
  unfold dM;cases (aa.probe (eQ n).1).1==-1 with
  |true=>exact zN I.x.say
  |false=>exact⟨by simp,by simp⟩
 unfold hY;have H:(eQ n).2.length<=2:=H;refine⟨by rw[BO,BO];omega,λw u=>?_⟩;rcases BP.1 u with u|u
 ·rcases BP.1 u with u|u
  ·exact J w u
  ·exact R.2 w u
 ·exact M w u
theorem xN (K:Nat)(n:aa)(H:Int)(h:UpN n)(hg:n.2.2.1=false)(hm:bR n<999999)(Y:1048577<K):Q101.f K (n,H,())=some ((gb n,hY n H,()),()):=by
 have a3:=h.x.now0;simp only[Q101.f,zcp4];refine (congrArg (λb=>bif !b then _ else _) h.up).trans ?_;refine (congrArg (λb=>bif b then _ else _) hg).trans ?_;refine (congrArg (λb=>bif b then _ else _) (decide_eq_false (show ¬ n.2.2.2.2.2.1>=999999 by have:bR n=n.2.2.2.2.2.1:=rfl;omega))).trans ?_;simp only[cond_false];rw[show wr .i64 (n.2.2.2.2.2.1+1)=n.2.2.2.2.2.1+1 from aD (by have:bR n=n.2.2.2.2.2.1:=rfl;omega) (by have:bR n=n.2.2.2.2.2.1:=rfl;omega)];have hl:UpX (d4 n):=h.x.later;have a2:∀ d∈aa.doubts (d4 n),0<=d.2.2.1/\d.2.2.1<=(d4 n).2.2.2.2.2.1/\d.2.2.2.length<=1048576:=λd hd=>by
  obtain⟨_,⟨s0,s1⟩,_,h4⟩:=hl.doubts.1 d hd;exact⟨s0,s1,BR (iS (k:=λx=>x) h4.2 λx hx=>(h4.1 x hx).1) (by decide)⟩
 have Z:∀ d∈aa.doubts (d4 n),∃ f∈aa.table (d4 n),f.1=d.1:=λd hd=>by
  obtain⟨⟨f,hf,e,_⟩,_⟩:=hl.doubts.1 d hd;exact⟨f,hf,e⟩
 have X:(d4 n).2.2.2.2.2.1<=1000000:=by show bR n+1<=1000000;omega
 refine (congrArg (λo=>BJ o _) (xg K (d4 n) ⟨hl.say,Z,rfl⟩ a2 X Y)).trans ?_;simp only[BG];obtain⟨b1,b2,t,c,ds,eb⟩:=mY hl (show db (d4 n) from h.self);have z:tk (eQ n).1:=(pN h hm).1.seq;have a1:bR (gv (d4 n))=bR n+1:=by rw[eb];rfl
 have hp:=rm b1 (by omega);obtain⟨a0,_⟩:=tw b1.table;have R:=(lK h hm).1;have r:=xy K (gb n) H R.x.far R.x.table (cK R.x.table) Y;have u:=(pN h hm).1;obtain⟨O,_⟩:=zN u.x.say;obtain⟨y,_⟩:=vf R.x.table R.x.others H;unfold gb dM eQ at r R y;unfold eQ at z u O;unfold hY gb dM eQ;generalize gv (d4 n)=m at *;rcases hp.1 with M|M
 ·have e0:bk m=(m,[]):=by unfold bk;rw[show ((aa.probe m).1==-1)=true by simpa using M];rfl
  rw[e0]at r z u O y ⊢;refine (congrArg (λb=>bif b then _ else _) (decide_eq_false (show ¬ m.2.2.2.2.2.2.2.2.2.2.1.1>=0 by have:(aa.probe m).1=m.2.2.2.2.2.2.2.2.2.2.1.1:=rfl;omega))).trans ?_;refine (congrArg (λb=>bif b then _ else _) (decide_eq_true (show m.2.2.2.2.2.2.2.2.2.2.1.1<0 by have:(aa.probe m).1=m.2.2.2.2.2.2.2.2.2.2.1.1:=rfl;omega))).trans ?_;refine (congrArg (λo=>BJ o _) (ve K m u.x.say z Y)).trans ?_;simp only[BG];rw[show ((aa.probe m).1==-1)=true by simpa using M]at r y ⊢;simp only[cond_true]at r y O ⊢;rw[szw _ _ _ (by omega) (by simp;omega)];simp only[cond_true];refine (congrArg (λo=>BJ o _) r).trans ?_;simp only[BG];rw[szw _ _ _ (by omega) (by simp;omega)];rfl
 ·refine (congrArg (λb=>bif b then _ else _) (decide_eq_true (show m.2.2.2.2.2.2.2.2.2.2.1.1>=0 from M))).trans ?_;refine (congrArg (λo=>BJ o _) (xj K m b1.say (by omega) hp.2.1 hp.2.2 b1.now0 (by have:bR m=m.2.2.2.2.2.1:=rfl;omega) Y)).trans ?_;simp only[BG];generalize bk m=fo at *;obtain⟨I,ws⟩:=fo;simp only at r z u O y a0 ⊢;have J:=(rm u.x (by have:=u.now1;omega)).1;rcases J with J|J
  ·refine (congrArg (λb=>bif b then _ else _) (decide_eq_true (show I.2.2.2.2.2.2.2.2.2.2.1.1<0 by have:(aa.probe I).1=I.2.2.2.2.2.2.2.2.2.2.1.1:=rfl;omega))).trans ?_;refine (congrArg (λo=>BJ o _) (ve K I u.x.say z Y)).trans ?_;simp only[BG];rw[show ((aa.probe I).1==-1)=true by simpa using J]at r y ⊢;simp only[cond_true]at r y ⊢;rw[szw _ _ _ (by omega) (by omega)];simp only[cond_true];refine (congrArg (λo=>BJ o _) r).trans ?_;simp only[BG];rw[szw _ _ _ (by omega) (by rw[BO];omega)];rfl
  ·refine (congrArg (λb=>bif b then _ else _) (decide_eq_false (show ¬ I.2.2.2.2.2.2.2.2.2.2.1.1<0 by have:(aa.probe I).1=I.2.2.2.2.2.2.2.2.2.2.1.1:=rfl;omega))).trans ?_;rw[show ((aa.probe I).1==-1)=false by simp;omega]at r y ⊢;simp only[cond_false]at r y ⊢;refine (congrArg (λo=>BJ o _) r).trans ?_;simp only[BG,CH];rw[szw _ _ _ (by omega) (by omega)];rfl
theorem tx (K:Nat)(l:List ag)(f:ag)(M:l.length<=1048576)(J:1048577<K):Ret (Q81.f K (l,f,())) (f∈l):=by
 have:=ch (step:=λrec a=>Q81.s0 K (l,f,()) rec a) l.length (λi=>(i:Int)) (λj=>∃ h:j<l.length,l[j]=f) (rb false) (λ_=>rb true) ?_ ?_ l.length K 0 (by omega) (by omega)
 ·rcases this with ⟨y,r⟩|⟨j,_,_,⟨z,I⟩,_,r⟩
  ·refine⟨false,r,?_⟩;refine⟨λh=>absurd h (by decide),λH=>?_⟩;obtain⟨i,u,e⟩:=B7 H;exact absurd ⟨u,e⟩ (y i (B3 _) u)
  ·exact⟨true,r,λ_=>I ▸ BQ z,λ_=>rfl⟩
 ·intro rec i u;simp only[Q81.s0];rw[bi (by omega:(i:Int)<(BI l:Int)),af u,ar i (by omega)];simp only[cond_true,BG];rw[jF];by_cases h:l[i]=f
  ·rw[decide_eq_true h];exact .inr ⟨⟨u,h⟩,rfl⟩
  ·rw[decide_eq_false h];exact .inl ⟨λ⟨_,r⟩=>h r,rfl⟩
 ·intro rec;simp only[Q81.s0,aR];rfl
theorem UpN.nb {n:aa}(h:UpN n):NB n where
 table:=cK h.x.table
 cast:=by have:=clen h.x.say;omega
 doubts:=h.x.say.ld
 by_:=λd y=>by have:=(h.learns.by_ d y).len;omega
 places:=plen h.x.places
 trips:=λp r=>by have:=(h.x.places.1 p r).2.2.2.2.1.2;omega
 others:=olen h.x.others
 facts:=λx u=>cK (h.x.others.1 x u).2.2.2.1
def jv (r:Int)(g:Bool):aa:=(r,false,false,g,0,0,0,0,[],[],(0,0,0,false),[],(0,0,0,0),[],[])
structure dN (i:Nat) (n:aa):Prop where
 me:n.1=(i:Int)
 lt:i<8
 up:n.2.1=true->UpN n
 down:n.2.1=false->n=jv n.1 n.2.2.2.1
theorem dN.nb {i:Nat}{n:aa}(h:dN i n):NB n:=by
 cases r:n.2.1 with
 |true=>exact (h.up r).nb
 |false =>
  rw[h.down r];exact⟨by simp[jv,aa.table],by simp[jv,aa.cast],by simp[jv,aa.doubts],by simp[jv,aa.doubts],by simp[jv,aa.places],by simp[jv,aa.places],by simp[jv,aa.others],by simp[jv,aa.others]⟩
theorem dN.short {i:Nat}{n:aa}(h:dN i n):(aa.table n).length<=4:=by
 cases r:n.2.1 with
 |true=>exact ut (h.up r).x.table (h.up r).x.site
 |false=>rw[h.down r];exact B3 _
theorem dN.of {i:Nat}{n m:aa}(h:dN i n)(r:UpN m)(e:m.1=n.1):dN i m:=⟨e.trans h.me,h.lt,λ_=>r,λu=>by rw[r.up]at u;cases u⟩
def gO (l:List lJ):Prop:=l.length<=60/\∀ f∈l,InP f.1 0 7/\f.2.1.size<=2000
structure WI (w:bX) (c:Nat):Prop where
 len:w.1.length=8
 node:∀ (i:Nat) (h:i<w.1.length),dN i w.1[i]
 radio:gO w.2.1
 sides:w.2.2.1.length=8
 born:w.2.2.2.length<=c
theorem WI.mono {w:bX}{c d:Nat}(h:WI w c)(r:c<=d):WI w d:=⟨h.len,h.node,h.radio,h.sides,BR h.born r⟩
theorem WI.put {w:bX}{c:Nat}(h:WI w c){i:Nat}{n:aa}(u:dN i n){rd:List lJ}(y:gO rd){b:List ag}{d:Nat}(r:b.length<=d):WI (w.1.set i n,rd,w.2.2.1,b) d:=by
 refine⟨by rw[BU];exact h.len,λj z=>?_,y,h.sides,r⟩;show dN j ((w.1.set i n)[j]'z);rw[List.getElem_set];split
 ·rename_i e;exact e ▸ u
 ·exact h.node j _
theorem xO (K:Nat)(w:bX)(O:Int)(u:List ap)(hs:w.2.2.1.length=8)(y:InP O 0 7)(X:∀ x∈u,hZ x)(hr:gO w.2.1)(hl:u.length<=1000)(hK:1048577<K) :
  Tot (Q78.f K (w,O,u,())) λr=>∃ rd,gO rd/\r.1.1=(w.1,rd,w.2.2):=by
 simp only[Q78.f,Q78.pre];obtain⟨f0,f1⟩:=y;refine Tot.iter (step:=λrec a=>Q78.s0 K (w,O,u,()) rec a) (λa=>0<=a.1/\a.1<=u.length/\gO a.2) (λa=>u.length-a.1.toNat) ?_ K _ (by show u.length-BL 0<K;omega) ⟨by show (0:Int)<=0;omega,by show (0:Int)<=_;omega,hr⟩;rintro rec ⟨i,rd⟩ ⟨I,h1,H⟩ ih;simp only at I h1 H ih ⊢;simp only[Q78.s0];refine Tot.cnd (λh=>?_) λ_=>Tot.ret ⟨rd,H,rfl⟩
 have h:=of_decide_eq_true h;rw[aD (n:=i+1) (by omega) (by omega)];have Y:∀ z,gO z->Tot (rec (i+1,z)) λr=>∃ rd,gO rd/\r.1.1=(w.1,rd,w.2.2):=λz J=>ih _ ⟨by show 0<=i+1;omega,by show i+1<=_;omega,J⟩ (by show u.length-BL (i+1)<u.length-BL i;omega)
 refine Tot.cnd (λh3=>?_) λ_=>Y rd H
 have h3:=of_decide_eq_true h3;refine Tot.ix f0 (by omega) λ_ _ _=>Tot.ix I h λy2 M _=>?_
 obtain⟨⟨t0,t1⟩,_⟩:=X y2 M;refine Tot.ix t0 (by omega) λ_ _ _=>Tot.cnd (λ_=>Tot.fit (Tot.ix I h λy4 Z _=>Tot.ix I h λy5 R _=>Tot.bind (oo K y5 (X y5 R).2 hK) λv hv=>Tot.fit (Y _ ⟨?_,λf y=>?_⟩) (by omega) ?_) (by omega) ?_) λ_=>Y rd H
 ·simp;omega
 ·rcases BP.1 y with y|y
  ·exact H.2 f (by simpa using y)
  ·rw[BK.1 y];exact⟨(X y4 Z).1,by show v.1.1.size<=2000;have:=hv.1;omega⟩
 ·simp;omega
 ·simp;omega
theorem Tot.ins {α:Type}{l:List α}{x:α}{a:Int}{c:Nat}{Q:(List α×Unit)×Unit->Prop}(u:0<=a)(z:a<=l.length)(y:l.length<=1048576)(H:c<=64)(k:∀ r:List α,r.length=l.length+1->Q ((r,()),())) :
  Tot (bif decide ((0:Int)<=0)&&decide (0<=a)&&decide (a<=(BI l:Int))&&true then (bif decide ((BI ([]:List α)+BI ((l.take (BL a)).drop (BL 0)))*c<=ak) then (bif decide ((BI ([]++((l.take (BL a)).drop (BL 0)))+BI ([x]))*c<=ak) then (bif decide (0<=a)&&decide (a<=(BI l:Int))&&decide ((BI l:Int)<=(BI l:Int))&&true then (bif decide ((BI (([]++((l.take (BL a)).drop (BL 0)))++([x]))+BI ((l.take (BL (BI l:Int))).drop (BL a)))*c<=ak) then (some (((([]++((l.take (BL a)).drop (BL 0)))++([x]))++((l.take (BL (BI l:Int))).drop (BL a)),()),())) else none) else none) else none) else none) else none) Q:=by
 obtain⟨m,rfl⟩:=BZ u;refine Tot.must (by simp;omega) (Tot.fit (Tot.fit (Tot.must (by simp;omega) (Tot.fit (Tot.ret (k _ ?_)) (by omega) ?_)) (by omega) ?_) (by omega) ?_) <;>
 simp only[BM,CC,B6,BT,BO,BY,CP,CY,CA] <;> omega
theorem zi (K:Nat)(f g:ag):Tot (Q79.f K (f,g,())) λ_=>True:=by
 simp only[Q79.f];exact Tot.cnd (λ_=>Tot.ret trivial) λ_=>Tot.bind (sM K g f).tot λ_ _=>Tot.ret trivial
theorem xP (K:Nat)(l:List ag)(f:ag)(I:l.length<=1048576)(O:1048577<K):Tot (Q80.f K (l,f,())) λr=>r.1.1.length<=l.length+1:=by
 simp only[Q80.f,Q80.pre];refine Tot.iter (A:=Int) (step:=λrec a=>Q80.s0 K (l,f,()) rec a) (λa=>0<=a/\a<=l.length) (λa=>l.length-a.toNat) ?_ K _ (by show l.length-BL 0<K;omega) ⟨by show (0:Int)<=0;omega,by show (0:Int)<=_;omega⟩;rintro rec i ⟨H,z⟩ M;simp only[Q80.s0];have u:=λ (z:i<=l.length)=>Tot.ins (x:=f) (c:=32) (Q:=λr=>r.1.1.length<=l.length+1) H z I (by omega) λr R=>by show r.length<=_;omega
 have y:l.length<=l.length+1:=CQ _;refine Tot.cnd (λh=>?_) λ_=>Tot.cnd (λh=>Tot.ix H (of_decide_eq_true h) λ_ _ _=>Tot.cnd (λ_=>Tot.ret y) λ_=>u z) λ_=>u z
 have h:i<(l.length:Int):=of_decide_eq_true h;rw[aD (n:=i+1) (by omega) (by omega)];refine Tot.ix H h λJ _ _=>Tot.bind (zi K J f) λ_ _=>Tot.cnd (λ_=>M (i+1) ⟨by show 0<=i+1;omega,by show i+1<=(l.length:Int);omega⟩ (by show l.length-BL (i+1)<l.length-BL i;omega)) λ_=>Tot.cnd (λ_=>Tot.ix H h λ_ _ _=>Tot.cnd (λ_=>Tot.ret y) λ_=>u z) λ_=>u z
theorem zO (K:Nat)(w:bX)(z y u:List ag)(R:z.length<=1048576)(h2:y.length<=1048576)(h3:u.length<=100)(hb:w.2.2.2.length<=1000000)(J:1048577<K) :
  Tot (Q82.f K (w,z,y,u,())) λr=>∃ b,b.length<=w.2.2.2.length+u.length/\r.1.1=(w.1,w.2.1,w.2.2.1,b):=by
 simp only[Q82.f,Q82.pre];refine Tot.iter (step:=λrec a=>Q82.s0 K (w,z,y,u,()) rec a) (λa=>0<=a.1/\a.1<=u.length/\(a.2.length:Int)<=w.2.2.2.length+a.1) (λa=>u.length-a.1.toNat) ?_ K _ (by show u.length-BL 0<K;omega) ⟨by show (0:Int)<=0;omega,by show (0:Int)<=_;omega,by show (w.2.2.2.length:Int)<=w.2.2.2.length+0;omega⟩;rintro rec ⟨i,b⟩ ⟨H,X,i2⟩ O;simp only at H X i2 O ⊢;simp only[Q82.s0];refine Tot.cnd (λh=>?_) λ_=>Tot.ret ⟨b,by omega,rfl⟩
 have h:=of_decide_eq_true h;rw[aD (n:=i+1) (by omega) (by omega)];have M:∀ I:List ag,I.length<=b.length+1->Tot (rec (i+1,I)) λr=>∃ b,b.length<=w.2.2.2.length+u.length/\r.1.1=(w.1,w.2.1,w.2.2.1,b):=λI Y=>O _ ⟨by show 0<=i+1;omega,by show i+1<=_;omega,by show (I.length:Int)<=_+(i+1);omega⟩ (by show u.length-BL (i+1)<u.length-BL i;omega)
 refine Tot.ix H h λy1 _ _=>Tot.bind (tx K z y1 R J).tot λ_ _=>Tot.cnd (λ_=>?_) λ_=>M b (CQ _)
 refine Tot.ix H h λy3 _ _=>Tot.bind (tx K y y3 h2 J).tot λ_ _=>Tot.cnd (λ_=>?_) λ_=>M b (CQ _)
 exact Tot.ix H h λy5 _ _=>Tot.bind (xP K b y5 (by omega) J) λv Z=>M v.1.1 Z
structure zP (w:bX) (i:Nat) (n:aa) (ws:List ap) (heard:List ag) (c:Nat):Prop where
 wi:WI w c
 lt:i<8
 n:dN i n
 sent:∀ x∈ws,hZ x
 wl:ws.length<=1000
 hl:heard.length<=1048576
 c:c<=1000000
theorem set_t (K:Nat)(w:bX)(i:Nat)(n:aa)(H:List ap)(u:List ag)(c:Nat)(h:zP w i n H u c)(I:1048577<K):Tot (Q83.f K ((w,i),n,H,u,())) λr=>WI r.1.1 (c+4):=by
 simp only[Q83.f];have y:i<w.1.length:=by rw[h.wi.len];exact h.lt
 have O:=h.c;have M:=h.wi.born;have J:=h.n.short;rw[h.n.me];refine Tot.vl (af y) (Tot.vl (by rw[BM];exact af y) (Tot.vl (af y) (Tot.vl (by rw[BM];exact af y) ?_)));refine Tot.must (by simp) ?_;rw[BM];refine Tot.bind (zO K (w.1.set i n,w.2) (aa.table w.1[i]) u (aa.table n) (h.wi.node i y).nb.table h.hl (by omega) (by show w.2.2.2.length<=_;omega) I) ?_;rintro⟨⟨v,⟨⟩⟩,⟨⟩⟩ ⟨b,z,rfl⟩;refine Tot.bind (xO K (w.1.set i n,w.2.1,w.2.2.1,b) (i:Int) H h.wi.sides ⟨by omega,by have:=h.lt;omega⟩ h.sent h.wi.radio h.wl I) ?_;rintro⟨⟨v,⟨⟩⟩,⟨⟩⟩ ⟨rd,hr,rfl⟩;have z:b.length<=w.2.2.2.length+(aa.table n).length:=z;exact Tot.ret (h.wi.put h.n hr (by omega))
theorem Bo (K:Nat)(w:bX)(i:Nat)(n:aa)(H:List ap)(u:List ag)(c:Nat)(h:zP w i n H u c)(I:1048577<K):Tot (Q102.f K (w,n,H,u,())) λr=>WI r.1.1 (c+4):=by
 simp only[Q102.f];have y:i<w.1.length:=by rw[h.wi.len];exact h.lt
 have O:=h.c;have M:=h.wi.born;have J:=h.n.short;rw[h.n.me];refine Tot.vl (af y) (Tot.vl (by rw[BM];exact af y) (Tot.vl (af y) (Tot.vl (by rw[BM];exact af y) ?_)));rw[BM];refine Tot.bind (zO K (w.1.set i n,w.2) (aa.table w.1[i]) u (aa.table n) (h.wi.node i y).nb.table h.hl (by omega) (by show w.2.2.2.length<=_;omega) I) ?_;rintro⟨⟨v,⟨⟩⟩,⟨⟩⟩ ⟨b,z,rfl⟩;refine Tot.bind (xO K (w.1.set i n,w.2.1,w.2.2.1,b) (i:Int) H h.wi.sides ⟨by omega,by have:=h.lt;omega⟩ h.sent h.wi.radio h.wl I) ?_;rintro⟨⟨v,⟨⟩⟩,⟨⟩⟩ ⟨rd,hr,rfl⟩;have z:b.length<=w.2.2.2.length+(aa.table n).length:=z;exact Tot.ret (h.wi.put h.n hr (by omega))
theorem rq (K:Nat)(l:List lJ)(at_:Int)(z:0<=at_)(I:at_<l.length)(y:gO l):Tot (Q18.f K (l,at_,())) λr=>gO r.1.1:=by
 have H:=y.1;obtain⟨m,rfl⟩:=BZ z;simp only[Q18.f];rw[ar m (by omega)];refine Tot.must (by simp;omega) (Tot.fit (Tot.must (by simp;omega) (Tot.fit (Tot.ret ⟨?_,λf u=>y.2 f ?_⟩) (by omega) ?_)) (by omega) ?_)
 ·simp only[BM,CC,B6,BT,BO,BY,CP];omega
 ·simp only[BM,CC,B6,BT,CF]at u;rcases BP.1 u with u|u
  ·exact BW u
  ·exact List.mem_of_mem_drop u
 ·simp only[BM,CC,B6,BT,BO,BY,CP];omega
 ·simp only[BM,CC,B6,BT,BY,CA];omega
theorem rr (K:Nat)(w:bX)(c:Nat)(h:WI w c)(hc:c<=1000000)(to:Int)(t0:0<=to)(t1:to<=7)(x:ap)(X:iQ x)(H:1048577<K){G:aa->aa->Option ((bX×Unit)×Unit)}
  (Y:∀ y:aa,G y y=(Q77.f K (y,x,())).bind λI=>(Q83.f K ((w,BL to),I.1.1,I.1.2.1,ap.table x,())).bind λM=>some ((M.1.1,()),())) :
  Tot ((idx w.1 to).bind λ_=>(idx w.1 (BL to:Nat)).bind λR=>(idx w.1 (BL to:Nat)).bind λO=>G R O) λr=>WI r.1.1 (c+4):=by
 obtain⟨i,rfl⟩:=BZ t0;have J:i<w.1.length:=by rw[h.len];omega
 have z:=h.node i J;refine Tot.vl (af J) (Tot.vl (by rw[BM];exact af J) (Tot.vl (by rw[BM];exact af J) ?_));rw[Y,Bl K w.1[i] x z.up (cK X.2.2.2.2.2.2.2.1) H];simp only[BG,BM];refine Tot.bind (set_t K w i _ _ _ c ⟨h,z.lt,?_,?_,?_,cK X.2.2.2.2.2.2.2.1,hc⟩ H) λv Z=>Tot.ret Z
 ·cases u:w.1[i].2.1 with
  |true=>exact z.of (vd (z.up u) H).1 (vd (z.up u) H).2.1
  |false =>
   rw[show dy K w.1[i] x=(w.1[i],[]) by unfold dy;rw[if_neg λh=>by have:=h.2.1;rw[u]at this;cases this]];exact z
 ·cases u:w.1[i].2.1 with
  |true=>exact λy hy=>(pX (z.up u) H).2 y hy
  |false =>
   rw[show dy K w.1[i] x=(w.1[i],[]) by unfold dy;rw[if_neg λh=>by have:=h.2.1;rw[u]at this;cases this]];simp
 ·cases u:w.1[i].2.1 with
  |true=>have:=(pX (w:=x) (z.up u) H).1;omega
  |false =>
   rw[show dy K w.1[i] x=(w.1[i],[]) by unfold dy;rw[if_neg λh=>by have:=h.2.1;rw[u]at this;cases this]];simp
theorem Au (K:Nat)(w:bX)(c:Nat)(h:WI w c)(hc:c<=1000000)(at_:Int)(keep:Bool)(h0:0<=at_)(h1:at_<w.2.1.length)(X:1048577<K):Tot (Q84.f K (w,at_,keep,())) λr=>WI r.1.1 (c+4):=by
 simp only[Q84.f,zcp8];refine Tot.ix2 h0 h1 λf hf _=>?_
 obtain⟨⟨t0,t1⟩,a0⟩:=h.radio.2 f hf;have hs:=h.sides;refine Tot.cnd (λ_=>Tot.bind (rq K w.2.1 at_ h0 h1 h.radio) ?_) λ_=>Tot.bind (pQ K f.2.1 (by omega) X) ?_
 ·rintro⟨⟨rd,⟨⟩⟩,⟨⟩⟩ hr;have I:WI (w.1,rd,w.2.2) (c+4):=⟨h.len,h.node,hr,h.sides,BR h.born (by omega)⟩;refine Tot.bind (pQ K f.2.1 (by omega) X) ?_;rintro⟨⟨(x:ap),ok,⟨⟩⟩,⟨⟩⟩ H;refine Tot.cnd (λ_=>Tot.ret I) λZ=>?_
  have H:iQ x:=H (by simpa using Z);obtain⟨R,Y⟩:=H.2.2.1;have M:x.2.2.1<(w.2.2.1.length:Int):=by rw[hs];omega
  refine Tot.ix2 R M λ_ _ _=>Tot.ix2 t0 (by omega) λ_ _ _=>Tot.cnd (λ_=>Tot.ret I) λ_=>Tot.cnd (λ_=>Tot.ret I) λ_=>?_
  exact rr K (w.1,rd,w.2.2) c ⟨h.len,h.node,hr,h.sides,h.born⟩ hc f.1 t0 t1 x H X (G:=λu O=>(Q77.f K ((u.1,(u.2.1,(u.2.2.1,(u.2.2.2.1,(u.2.2.2.2.1,(u.2.2.2.2.2.1,(u.2.2.2.2.2.2.1,(u.2.2.2.2.2.2.2.1,(u.2.2.2.2.2.2.2.2.1,(u.2.2.2.2.2.2.2.2.2.1,(u.2.2.2.2.2.2.2.2.2.2.1,(O.2.2.2.2.2.2.2.2.2.2.2.1,u.2.2.2.2.2.2.2.2.2.2.2.2)))))))))))),x,())).bind λz=>(Q83.f K (((w.1,rd,w.2.2),BL f.1),z.1.1,z.1.2.1,ap.table x,())).bind λJ=>some ((J.1.1,()),())) λy=>rfl
 ·rintro⟨⟨(x:ap),ok,⟨⟩⟩,⟨⟩⟩ H;have I:WI w (c+4):=h.mono (by omega);refine Tot.cnd (λ_=>Tot.ret I) λZ=>?_
  have H:iQ x:=H (by simpa using Z);obtain⟨R,Y⟩:=H.2.2.1;have M:x.2.2.1<(w.2.2.1.length:Int):=by rw[hs];omega
  refine Tot.ix2 R M λ_ _ _=>Tot.ix2 t0 (by omega) λ_ _ _=>Tot.cnd (λ_=>Tot.ret I) λ_=>Tot.cnd (λ_=>Tot.ret I) λ_=>?_
  exact rr K w c h hc f.1 t0 t1 x H X (G:=λu O=>(Q77.f K ((u.1,(u.2.1,(u.2.2.1,(u.2.2.2.1,(u.2.2.2.2.1,(u.2.2.2.2.2.1,(u.2.2.2.2.2.2.1,(u.2.2.2.2.2.2.2.1,(u.2.2.2.2.2.2.2.2.1,(u.2.2.2.2.2.2.2.2.2.1,(u.2.2.2.2.2.2.2.2.2.2.1,(O.2.2.2.2.2.2.2.2.2.2.2.1,u.2.2.2.2.2.2.2.2.2.2.2.2)))))))))))),x,())).bind λz=>(Q83.f K (((w.1,w.2),BL f.1),z.1.1,z.1.2.1,ap.table x,())).bind λJ=>some ((J.1.1,()),())) λy=>rfl
theorem Av (K:Nat)(w:bX)(c:Nat)(h:WI w c)(at_ u:Int)(R:0<=at_)(M:at_<w.2.1.length):Tot (Q85.f K (w,at_,u,())) λr=>WI r.1.1 c:=by
 simp only[Q85.f];refine Tot.ix2 R M λf Z _=>?_
 obtain⟨I,J⟩:=h.radio.2 f Z;refine Tot.cnd (λ_=>Tot.ret h) λ_=>Tot.cnd (λ_=>Tot.ret h) λY=>?_
 have H:¬ (f.2.1.size:Int)=0:=by simpa using Y
 obtain⟨y,b1⟩:=kz (a:=u) (m:=4095) (by omega);have y:0<=aO .i64 u 4095:=y;have O:0<=CD (aO .i64 u 4095) (f.2.1.size:Int):=Ca _ y;have X:CD (aO .i64 u 4095) (f.2.1.size:Int)<((eo f.2.1).length:Int):=by rw[rj];exact CU _ (by omega)
 refine Tot.not (decide_eq_false H) (Tot.ix2 O X λ_ _ _=>Tot.ix2 O X λ_ _ _=>Tot.ix2 R M λ_ _ _=>Tot.ret ⟨h.len,h.node,⟨?_,λg z=>?_⟩,h.sides,h.born⟩)
 ·show (w.2.1.set _ _).length<=60;rw[BU];exact h.radio.1
 ·rcases List.mem_or_eq_of_mem_set z with z|rfl
  ·exact h.radio.2 g z
  ·refine⟨I,?_⟩;show (gH _).size<=2000;rw[iW,BU,rj];exact J
def ml (i:Int)(g:Bool):aa:=(i,true,false,g,0,0,0,0,[(i,0,1,g)],[],(-1,0,0,false),[],(0,0,0,1500),[],[])
theorem Aw {i:Int}{g:Bool}(h:InP i 0 7):UpN (ml i g):=by
 refine⟨⟨h,CL _,⟨λf u=>?_,List.pairwise_singleton _ _⟩,λf u=>?_,⟨λx y=>(nomatch y),List.Pairwise.nil⟩,λx y=>(nomatch y),?_,⟨λd z=>(nomatch z),List.Pairwise.nil,rfl⟩,⟨?_,?_,?_,?_⟩,⟨λp r=>(nomatch r),List.Pairwise.nil⟩,⟨λp r=>(nomatch r),List.Pairwise.nil⟩⟩,?_,?_,⟨?_,?_⟩,?_,rfl⟩
 ·rw[BK.1 u];exact⟨h,⟨by show (0:Int)<=0;omega,by show (0:Int)<=999;omega⟩,by show (1:Int)<=1;omega,by show (1:Int)<=4;omega⟩
 ·rw[BK.1 u];rfl
 ·unfold cU;rw[if_pos (show (aa.probe (ml i g)).1=-1 from rfl)];rfl
 ·exact⟨by show (-100000:Int)<=0;omega,by show (0:Int)<=100000;omega⟩
 ·exact⟨by show (-100000:Int)<=0;omega,by show (0:Int)<=100000;omega⟩
 ·exact⟨by show (0:Int)<=0;omega,by show (0:Int)<=100000;omega⟩
 ·exact⟨by show (1:Int)<=1500;omega,by show (1500:Int)<=1500;omega⟩
 ·exact BK.2 rfl
 ·show (0:Int)<=999999;omega
 ·exact⟨by show (0:Int)<=0;omega,by show (0:Int)<=999999;omega⟩
 ·exact⟨by show (0:Int)<=0;omega,by show (0:Int)<=8;omega⟩
 ·exact⟨by show (0:Int)<=0;omega,by show (0:Int)<=999;omega⟩
theorem ru (K:Nat)(i:Int)(g:Bool)(h:InP i 0 7):Q15.f K (i,g,())=some ((ml i g,()),()):=by
 simp only[Q15.f];obtain⟨b,e,r⟩:=cC K i 0 7;rw[e,r.2 h];rfl
theorem dN.new (i:Nat)(g:Bool)(h:i<8):dN i (ml (i:Int) g):=⟨rfl,h,λ_=>Aw ⟨by omega,by omega⟩,λr=>by cases r⟩
theorem Bp (K:Nat)(w:bX)(c:Nat)(h:WI w c)(O:c<=1000000)(u:Int)(y:InP u 0 7)(H:1048577<K):Tot (Q104.f K (w,u,())) λr=>WI r.1.1 (c+4):=by
 have J:=h.born;have I:u.toNat<8:=by obtain⟨a,b⟩:=y;omega
 have z:=h.len;simp only[Q104.f,Q16.f,BG];rw[ru K u _ y];simp only[BG];refine Tot.ix2 y.1 (by have:=y.2;omega) λ_ _ _=>?_
 refine Tot.vl (show idx (ml u (decide (CD u 4<3))).2.2.2.2.2.2.2.2.1 0=some (u,0,1,decide (CD u 4<3)) from rfl) (Tot.bind (xP K w.2.2.2 _ (by omega) H) λv M=>Tot.ret (h.put ?_ h.radio (by omega)));have:=dN.new u.toNat (decide (CD u 4<3)) I
 rwa [CS y.1]at this
theorem Ax {n:aa}(h:UpN n):(lI n).length<=8/\∀ x∈lI n,hZ x:=by
 unfold lI;refine⟨?_,λx u=>?_⟩
 ·rw[B9];exact BR (CE _ _) (iS h.x.table.2 λf r=>(h.x.table.1 f r).1)
 ·obtain⟨f,r,rfl⟩:=BV.1 u;exact⟨(h.x.table.1 f (B5.1 r).1).1,cK h.x.table⟩
theorem Bq (K:Nat)(w:bX)(c:Nat)(h:WI w c)(hc:c<=1000000)(e:ag)(h0:InP e.2.1 0 7)(O:1048577<K):Tot (Q106.f K (w,e,())) λr=>WI r.1.1 (c+4):=by
 have a0:=h.len;have hs:=h.sides;obtain⟨a2,a1,u,keep⟩:=e;obtain⟨e0,e1⟩:=h0;simp only at e0 e1;obtain⟨i,rfl⟩:=BZ e0;have Y:i<w.1.length:=by omega
 have J:=h.node i Y;have y:=h.mono (show c<=c+4 by omega);simp only[Q106.f];refine Tot.vl (af Y) (Tot.vl (by rw[BM];exact af Y) ?_);generalize w.1[i]=n at J ⊢;refine Tot.cnd (λ_=>?_) λ_=>Tot.cnd (λ_=>?_) λ_=>Tot.cnd (λ_=>?_) λ_=>?_
 ·
  rw[zM];simp only[BG];exact Tot.ix2 (by omega) (by omega) λ_ _ _=>Tot.ret ⟨y.len,y.node,y.radio,by show (w.2.2.1.set _ _).length=8;rw[BU];exact h.sides,y.born⟩
 ·
  simp only[Q103.f,BG];refine Tot.ix2 (by omega) (by omega) λ_ _ _=>Tot.ret (y.put (i:=i) (n:=jv n.1 n.2.2.2.1) ?_ y.radio y.born)
  exact⟨J.me,J.lt,λM=>(by cases M),λ_=>rfl⟩
 ·
  exact Tot.cnd (λ_=>Tot.ret y) λ_=>Tot.bind (Bp K w c h hc (i:Int) ⟨by omega,by omega⟩ O) λv H=>Tot.ret H
 ·refine Tot.cnd (λ_=>Tot.ret y) λM=>Tot.cnd (λ_=>Tot.ret y) λZ=>?_
  have M:n.2.1=true:=by simpa using M
  have z:=J.up M;have set:=λ (m:aa) (R:List ap) (I:UpN m) (em:m.1=n.1) (X:∀ x∈R,hZ x) (hl:R.length<=1000)=>Bo K w i m R [] c ⟨h,J.lt,J.of I em,X,hl,B3 _,hc⟩ O
  refine Tot.cnd (λ_=>?_) λ_=>Tot.cnd (λ_=>?_) λ_=>Tot.cnd (λ_=>?_) λ_=>Tot.ret y
  ·refine Tot.cnd (λ_=>Tot.ret y) λI=>?_
   have I:bR n<999999:=by have I:¬ n.2.2.2.2.2.1>=999999:=of_decide_eq_false I;show n.2.2.2.2.2.1<999999;omega
   obtain⟨t1,t2,_⟩:=lK z I;obtain⟨w1,w2⟩:=Bn z I u;exact Tot.vl (xN K n u z Z I O) (Tot.bind (set _ _ t1 t2 w2 (BR w1 (by omega))) λv H=>Tot.ret H)
  ·obtain⟨t1,t2⟩:=zb z Z;obtain⟨w1,w2⟩:=Ax t1;exact Tot.vl (Ad K n z.nb z.ok M Z O) (Tot.bind (set _ _ t1 t2 w2 (BR w1 (by omega))) λv H=>Tot.ret H)
  ·refine Tot.bind (cC K u 0 7).tot λv H=>Tot.cnd (λ_=>Tot.ret y) λh1=>Tot.cnd (λ_=>Tot.ret y) λ_=>?_
   have hd:InP u 0 7:=H.1 (by simpa using h1);rw[eG K,eG K];simp only[BG];refine Tot.cnd (λ_=>Tot.ret y) λ_=>?_
   refine Tot.vl (nQ K n 4 u (cK z.x.table)) (Tot.bind (set n _ z rfl (λx hx=>?_) (by simp)) λv H=>Tot.ret H);rw[BK.1 hx];exact⟨hd,cK z.x.table⟩
theorem do_t (K:Nat)(w:bX)(c:Nat)(h:WI w c)(O:c<=1000000)(e:ag)(M:1048577<K):Tot (Q108.f K (w,e,())) λr=>WI r.1.1 (c+4):=by
 have z:=h.mono (show c<=c+4 by omega);have hr:=h.radio.1;simp only[Q108.f];rw[aD (n:=(BI w.2.1:Int)-1) (by omega) (by omega)];have u:Tot ((Q13.f K (e.2.1,0,(BI w.2.1:Int)-1,())).bind λZ=>bif !Z.1.1 then (some ((w,false,()),())) else (bif e.1==2 then ((Q84.f K (w,e.2.1,e.2.2.2,())).bind λY=>some ((Y.1.1,true,()),())) else (bif e.1==4 then ((Q85.f K (w,e.2.1,e.2.2.1,())).bind λR=>some ((R.1.1,R.1.2.1,()),())) else ((Q18.f K (w.2.1,e.2.1,())).bind λX=>some (((w.1,(X.1.1,w.2.2)),true,()),()))))) λr=>WI r.1.1 (c+4):=by
  refine Tot.bind (cC K _ _ _).tot λv y=>Tot.cnd (λ_=>Tot.ret z) λI=>?_
  obtain⟨J,H⟩:InP e.2.1 0 ((BI w.2.1:Int)-1):=y.1 (by simpa using I);have H:e.2.1<(w.2.1.length:Int):=by omega
  refine Tot.cnd (λ_=>Tot.bind (Au K w c h O e.2.1 e.2.2.2 J H M) λv y=>Tot.ret y) λ_=>Tot.cnd (λ_=>Tot.bind (Av K w c h e.2.1 e.2.2.1 J H) λv y=>Tot.ret (WI.mono y (by omega))) λ_=>?_
  exact Tot.bind (rq K w.2.1 e.2.1 J H h.radio) λv y=>Tot.ret ⟨z.len,z.node,y,z.sides,z.born⟩
 refine Tot.cnd (λ_=>u) λ_=>Tot.cnd (λ_=>u) λ_=>Tot.cnd (λ_=>u) λ_=>?_
 exact Tot.bind (cC K _ _ _).tot λv y=>Tot.cnd (λ_=>Tot.ret z) λI=>Tot.bind (Bq K w c h O e (y.1 (by simpa using I)) M) λv y=>Tot.ret y
theorem zj (K:Nat)(w:bX)(O:w.1.length<=1048576)(H:∀ n∈w.1,NB n)(X:w.2.1.length<=1048576)(R:w.2.2.1.length<=1048576)(Y:w.2.2.2.length<=1048576)(I:1048577<K):Q110.f K (w,())=some ((w,()),()):=by
 simp only[Q110.f,Q110.pre];rw[szb _ _ _ (by omega) (by show (BI ([]:List lJ))+w.2.1.length<=_;simp;omega)];simp only[cond_true];rw[szb _ _ _ (by omega) (by show (BI ([]:List Int))+w.2.2.1.length<=_;simp;omega)];simp only[cond_true];rw[szb _ _ _ (by omega) (by show (BI ([]:List ag))+w.2.2.2.length<=_;simp;omega)];simp only[cond_true];have:∀ (d i k:Nat),i+d=w.1.length->d<k->ae (λrec a=>Q110.s0 K (w,()) rec a) k ((i:Int),w.1.take i)=some ((w,()),()):=by
  intro d;induction d with
  |zero =>
   intro i k J y;obtain⟨k,rfl⟩:∃ u,k=u+1:=⟨k-1,by omega⟩;have:i=w.1.length:=by omega
   subst this;show Q110.s0 K (w,()) _ _=_;simp only[Q110.s0,aR,CF];rfl
  |succ d M =>
   intro i k J y;obtain⟨k,rfl⟩:∃ u,k=u+1:=⟨k-1,by omega⟩;have r:i<w.1.length:=by omega
   show Q110.s0 K (w,()) _ _=_;simp only[Q110.s0];rw[bi (by omega:(i:Int)<(BI w.1:Int)),af r,ar i (by omega)];simp only[cond_true,BG];refine (congrArg (λo=>BJ o _) (jG K w.1[i] (H _ (BQ r)) I)).trans ?_;simp only[BG];have z:decide (((w.1.take i).length+[w.1[i]].length)*232<=ak)=true:=decide_eq_true (by
    rw[BY];simp only[CY,CA,ak];omega)
   refine (congrArg (λb=>bif b then _ else _) z).trans ?_;have e:w.1.take i++[w.1[i]]=w.1.take (i+1):=by rw[CJ,B8 r];rfl
   rw[<- M (i+1) k (by omega) (by omega),<- e];rfl
 exact this w.1.length 0 K (by omega) (by omega)
theorem WI.copy {w:bX}{c:Nat}(h:WI w c)(M:c<=1000000)(K:Nat)(r:1048577<K):Q110.f K (w,())=some ((w,()),()):=by
 have H:=h.len;have J:=h.radio.1;have z:=h.sides;have I:=h.born;refine zj K w (by omega) (λn y=>?_) (by omega) (by omega) (by omega) r;obtain⟨i,u,rfl⟩:=B7 y;exact (h.node i u).nb
theorem Br (K:Nat)(w:bX)(c:Nat)(y:List ag)(h:WI w c)(Z:y.length<=1000)(hc:c<=900000)(J:1048577<K):Tot (Q111.f K (w,y,())) λr=>WI r.1.1 (c+4*y.length)/\r.2.1=y:=by
 simp only[Q111.f,Q111.pre];refine Tot.iter (step:=λrec a=>Q111.s0 K (w,y,()) rec a) (λa=>0<=a.1/\a.1<=y.length/\WI a.2 (c+4*a.1.toNat)) (λa=>y.length-a.1.toNat) ?_ K _ (by show y.length-BL 0<K;omega) ⟨by show (0:Int)<=0;omega,by show (0:Int)<=_;omega,h⟩;rintro rec ⟨i,v⟩ ⟨M,X,H⟩ O;simp only at M X H O ⊢;simp only[Q111.s0];refine Tot.cnd (λz=>?_) λ_=>Tot.ret ⟨WI.mono H (by omega),rfl⟩
 have z:i<(y.length:Int):=of_decide_eq_true z;rw[aD (n:=i+1) (by omega) (by omega)];refine Tot.vl (H.copy (by omega) K J) (Tot.ix2 M z λe _ _=>Tot.bind (do_t K v _ H (by omega) e J) ?_);rintro⟨⟨v',ok,⟨⟩⟩,⟨⟩⟩ I;have I:WI v' (c+4*i.toNat+4):=I;have R:∀ u:bX,WI u (c+4*i.toNat+4)->Tot (rec (i+1,u)) λr=>WI r.1.1 (c+4*y.length)/\r.2.1=y:=λu Y=>O (i+1,u) ⟨by show 0<=i+1;omega,by show i+1<=_;omega,Y.mono (by show _<=c+4*(i+1).toNat;omega)⟩ (by show y.length-BL (i+1)<y.length-BL i;omega)
 exact Tot.cnd (λ_=>R v' I) λ_=>R v (H.mono (by omega))
theorem wc (K:Nat)(hK:1048577<K):Tot (Q17.f K ()) λr=>WI r.1.1 8:=by
 simp only[Q17.f,Q17.pre];refine Tot.iter (step:=λrec a=>Q17.s0 K () rec a) (λa=>0<=a.1/\a.1<=8/\a.2.1.length=a.1.toNat/\(∀ (j:Nat) (y:j<a.2.1.length),dN j a.2.1[j])/\a.2.2.1.length=a.1.toNat/\a.2.2.2.length=a.1.toNat) (λa=>8-a.1.toNat) ?_ K _ (by show 8-BL 0<K;omega) ⟨by show (0:Int)<=0;omega,by show (0:Int)<=8;omega,rfl,λj y=>(by cases y),rfl,rfl⟩;rintro rec ⟨i,z,R,O⟩ ⟨J,Y,h2,H,h4,Z⟩ X;simp only at J Y h2 H h4 Z X ⊢;simp only[Q17.s0];refine Tot.cnd (λu=>?_) λu=>?_
 ·have u:i<=7:=of_decide_eq_true u;rw[aD (n:=i+1) (by omega) (by omega)];simp only[Q16.f,BG];refine Tot.vl (ru K i _ ⟨J,u⟩) (Tot.fit (Tot.fit (Tot.vl (show idx (ml i (decide (CD i 4<3))).2.2.2.2.2.2.2.2.1 0=some (i,0,1,decide (CD i 4<3)) from rfl) (Tot.fit (X _ ⟨by show 0<=i+1;omega,by show i+1<=8;omega,?_,λj y=>?_,?_,?_⟩ (by show 8-BL (i+1)<8-BL i;omega)) (by omega) ?_)) (by omega) ?_) (by omega) ?_)
  ·show (z++[ml i _]).length=(i+1).toNat;simp;omega
  ·show dN j ((z++[ml i (decide (CD i 4<3))])[j]'y);rw[List.getElem_append];split
   ·exact H j _
   ·rename_i M;have y:j<(z++[ml i (decide (CD i 4<3))]).length:=y;have I:j=i.toNat:=by simp at y;omega
    subst I;have:=dN.new i.toNat (decide (CD i 4<3)) (by omega);rw[CS J]at this;simpa using this
  ·show (R++[0]).length=(i+1).toNat;simp;omega
  ·show (O++[_]).length=(i+1).toNat;simp;omega
  ·simp;omega
  ·simp;omega
  ·simp;omega
 ·have M:=of_decide_eq_false u;refine Tot.ret ⟨?_,H,⟨B3 _,λf hf=>(nomatch hf)⟩,?_,?_⟩
  ·show z.length=8;omega
  ·show R.length=8;omega
  ·show O.length<=8;omega
abbrev LtP (v n:Int):Prop:=0<=v/\v<n
def bh (b:List Int)(m:Nat)(s:List Int×Int):Prop:=∃ q:Nat,q<=m/\s=(b,(q:Int))
theorem bh.up {b:List Int}{m:Nat}{s:List Int×Int}(h:bh b m s){m':Nat}(y:m<=m'):bh b m' s:=by obtain⟨q,u,r⟩:=h;exact⟨q,by omega,r⟩
section
variable {K:Nat} {b:List Int} {m:Nat} {s:List Int×Int}
theorem aH (h:fX b)(y:bh b m s)(n:Int)(H:1<=n)(J:m<=99000):Tot (Q12.f K (s,n,())) λr=>LtP r.1.1 n/\bh b (m+1) r.2.1:=by
 obtain⟨q,I,rfl⟩:=y;obtain⟨v,e,u,z⟩:=Ah K b q n h (by omega) H;exact⟨_,e,⟨u,z⟩,q+1,by omega,rfl⟩
theorem Bs (r:List Int)(u:∀ y∈r,0<=y/\y<=255)(I:r.length<=9223372036854775807):∃ z:List Int,fX z/\Q11.f K (r,())=some (((z,(0:Int)),()),()):=by
 simp only[Q11.f];by_cases h:(r.length:Int)>2000
 ·rw[decide_eq_true h,decide_eq_true (by omega:(2000:Int)<=(r.length:Int))];exact⟨(r.take 2000).drop 0,⟨λy H=>u y (BW (by simpa using H)),by simp;omega⟩,rfl⟩
 ·rw[decide_eq_false h];exact⟨r,⟨u,by omega⟩,rfl⟩
theorem xQ (h:fX b)(R:bh b m s)(u:Int)(h0:0<=u)(h1:u<=1)(hm:m<=98000):Tot (Q117.f K (s,u,())) λr=>(bz r.1.1/\ao r.1.1.1=u)/\bh b (m+5) r.2.1:=by
 simp only[Q117.f];refine Tot.bind (aH h R 4 (by decide) (by omega)) λz ⟨⟨a1,b1⟩,J⟩=>Tot.bind (aH h J 3 (by decide) (by omega)) λv2 ⟨⟨a2,b2⟩,X⟩=>Tot.bind (aH h X 12 (by decide) (by omega)) λv3 ⟨⟨a3,b3⟩,O⟩=>Tot.bind (aH h O 3 (by decide) (by omega)) λv4 ⟨⟨Z,Y⟩,s4⟩=>Tot.ix2 Z Y λy H _=>Tot.bind (aH h s4 4 (by decide) (by omega)) λI ⟨⟨a5,b5⟩,M⟩=>?_
 simp only[Q16.f,BG];have H:InP y 0 999:=by
  simp only[Cb,CZ,or_false]at H;rcases H with rfl|rfl|rfl <;> constructor <;> omega
 rw[aD (n:=u*4) (by omega) (by omega),aD (n:=u*4+z.1.1) (by omega) (by omega),aD (n:=1+I.1.1) (by omega) (by omega)];refine Tot.ret ⟨⟨⟨⟨?_,?_⟩,H,?_,?_⟩,?_⟩,M⟩
 ·show (0:Int)<=u*4+z.1.1;omega
 ·show u*4+z.1.1<=7;omega
 ·show (1:Int)<=1+I.1.1;omega
 ·show (1:Int)+I.1.1<=4;omega
 ·show ao (u*4+z.1.1)=u;rw[jj ⟨by omega,by omega⟩];omega
theorem rv (h:fX b)(M:bh b m s)(hm:m<=97000):Tot (Q119.f K (s,())) λr=>bh b (m+8) r.2.1:=by
 simp only[Q119.f];refine Tot.bind (aH h M 2 (by decide) (by omega)) λO ⟨⟨R,b1⟩,I⟩=>Tot.bind (xQ h I O.1.1 R (by omega) (by omega)) λf ⟨_,X⟩=>Tot.bind (aH h X 12 (by decide) (by omega)) λY ⟨_,H⟩=>?_
 have u:∀ {x y:Int} {G:(Int×Unit)×(List Int×Int)×Unit->Int->Option ((ag×Unit)×(List Int×Int)×Unit)},(∀ v z,Tot (G v z) λr=>r.2.1=v.2.1)->Tot ((Q12.f K (Y.2.1,2,())).bind λv=>(idx [x,y] v.1.1).bind λ_=>(idx [x,y] (BL v.1.1:Nat)).bind (G v)) λr=>bh b (m+8) r.2.1:=λJ=>Tot.bind (aH h H 2 (by decide) (by omega)) λv ⟨⟨a,b⟩,Z⟩=>Tot.ix2 a b λz _ _=>(J v z).mono λr e=>by rw[e];exact Z.up (by omega)
 refine Tot.cnd (λ_=>u λ_ _=>Tot.ret rfl) λ_=>Tot.cnd (λ_=>u λ_ _=>Tot.ret rfl) λ_=>Tot.cnd (λ_=>u λ_ _=>Tot.ret rfl) λ_=>Tot.cnd (λ_=>Tot.ret (H.up (by omega))) λ_=>Tot.ret (H.up (by omega))
theorem xR (t:List ag)(f:ag):(bS t f).1.length<=t.length+1:=by
 rcases gX t f with e|e
 ·rw[e];omega
 ·rw[e];exact yI
theorem wd {t:List ag}{f:ag}{z:Int}(h:ce t z)(u:ao f.1=z):ce (bS t f).1 z:=by
 rcases gX t f with e|e <;> rw[e]
 ·exact h
 ·intro g r;rcases aZ.1 r with rfl|⟨r,_⟩
  ·exact u
  ·exact h g r
theorem vg (h:fX b)(hs:bh b m s)(u:Int)(h0:-1<=u)(h1:u<=1)(hm:m<=96000)(hK:1048577<K):Tot (Q118.f K (s,u,())) λr=>(az r.1.1/\(0<=u->ce r.1.1 u)/\r.1.1.length<=5)/\bh b (m+31) r.2.1:=by
 simp only[Q118.f,Q118.pre];refine Tot.bind (aH h hs 6 (by decide) (by omega)) λv ⟨⟨v0,v1⟩,s1⟩=>?_
 refine Tot.iter (step:=λrec a=>Q118.s0 K (s,u,()) rec a) (λa=>∃ q:Nat,0<=a.2.1/\az a.1/\(0<=u->ce a.1 u)/\(a.1.length:Int)+a.2.1<=5/\bh b q a.2.2/\q+6*a.2.1.toNat<=m+31) (λa=>a.2.1.toNat) ?_ K _ (by show v.1.1.toNat<K;omega) ⟨m+1,v0,⟨by simp,List.Pairwise.nil⟩,λ_ f Y=>(nomatch Y),by show ((0:Nat):Int)+v.1.1<=5;omega,s1,by show m+1+6*v.1.1.toNat<=m+31;omega⟩;rintro rec ⟨t,n,s2⟩ ⟨q,n0,O,hS,hl,I,hq⟩ ih;simp only at n0 O hS hl I hq ih ⊢;simp only[Q118.s0];refine Tot.cnd (λhn=>?_) λ_=>Tot.ret ⟨⟨O,hS,by show t.length<=5;omega⟩,I.up (by omega)⟩
 have hn:n>0:=of_decide_eq_true hn;rw[aD (n:=n-1) (by omega) (by omega)];have go:∀ (z:Int) (J:Nat) (M:List Int×Int),0<=z->z<=1->(0<=u->z=u)->bh b J M->J<=q+1->Tot ((Q117.f K (M,z,())).bind λy3=>(Q53.f K (t,y3.1.1,())).bind λy4=>rec (y4.1.1,n-1,y3.2.1.1,y3.2.1.2)) λr=>(az r.1.1/\(0<=u->ce r.1.1 u)/\r.1.1.length<=5)/\bh b (m+31) r.2.1:=λz J M z0 z1 hz R a1=>by
  refine Tot.bind (xQ h R z z0 z1 (by omega)) λy ⟨⟨Y,a0⟩,X⟩=>Tot.vl (vS K t y.1.1 (by omega) O.2 hK) (ih (_,_,y.2.1) ⟨J+5,by show 0<=n-1;omega,kw O Y,λZ=>wd (hS Z) (by rw[a0];exact hz Z),?_,X,by show J+5+6*(n-1).toNat<=m+31;omega⟩ (by show (n-1).toNat<n.toNat;omega))
  have:=xR t y.1.1;show ((bS t y.1.1).1.length:Int)+(n-1)<=5;omega
 refine Tot.cnd (λH=>?_) λH=>?_
 ·have H:u<0:=of_decide_eq_true H;exact Tot.bind (aH h I 2 (by decide) (by omega)) λv ⟨⟨a,b⟩,M⟩=>go v.1.1 (q+1) v.2.1 a (by omega) (λZ=>by omega) M (CG _)
 ·have H:¬ u<0:=of_decide_eq_false H;exact go u q s2 (by omega) h1 (λ_=>rfl) I (by omega)
theorem pY (h:fX b)(Y:bh b m s)(hm:m<=95000)(R:1048577<K):Tot (Q120.f K (s,())) λr=>r.1.1.length<=6/\bh b (m+42) r.2.1:=by
 simp only[Q120.f];refine Tot.bind (vg h Y (-1) (by decide) (by decide) (by omega) R) λt ⟨⟨hT,_,hl⟩,J⟩=>?_
 refine Tot.cnd (λI=>?_) λ_=>Tot.ret ⟨by show t.1.1.length<=6;omega,J.up (by omega)⟩
 have I:(t.1.1.length:Int)>0:=of_decide_eq_true I;refine Tot.bind (aH h J 12 (by decide) (by omega)) λv2 ⟨_,M⟩=>Tot.cnd (λ_=>?_) λ_=>Tot.ret ⟨by show t.1.1.length<=6;omega,M.up (by omega)⟩
 refine Tot.bind (aH h M (t.1.1.length:Int) (by omega) (by omega)) λv3 ⟨⟨z,u⟩,X⟩=>Tot.bind (aH h X 3 (by decide) (by omega)) λZ ⟨_,H⟩=>?_
 refine Tot.cnd (λ_=>Tot.bind (rv h H (by omega)) λf O=>Tot.ix2 z u λ_ _ _=>Tot.ret ⟨by show (t.1.1.set _ _).length<=6;rw[BU];omega,O.up (by omega)⟩) λ_=>?_
 refine Tot.cnd (λ_=>Tot.ix2 z u λy _ _=>Tot.fit (Tot.ret ⟨by show (t.1.1++[y]).length<=6;simp;omega,H.up (by omega)⟩) (by omega) (by simp;omega)) λ_=>Tot.ix2 z u λy _ _=>Tot.ret ⟨by show (t.1.1.set _ _).length<=6;rw[BU];omega,H.up (by omega)⟩
theorem Ay (h:fX b)(hs:bh b m s)(u:Int)(h0:-1<=u)(R:u<=1)(hm:m<=95000)(Z:1048577<K):Tot (Q121.f K (s,u,())) λr=>r.1.1.length<=5/\bh b (m+36) r.2.1:=by
 simp only[Q121.f,Q121.pre];refine Tot.bind (vg h hs u h0 R (by omega) Z) λt ⟨⟨hT,_,hl⟩,Y⟩=>?_
 refine Tot.iter (step:=λrec a=>Q121.s0 K (s,u,()) rec a) (λa=>a.2.1=t.1.1/\0<=a.2.2.1/\a.2.2.1<=t.1.1.length/\(a.1.length:Int)=a.2.2.1/\bh b (m+31+a.2.2.1.toNat) a.2.2.2) (λa=>t.1.1.length-a.2.2.1.toNat) ?_ K _ (by show t.1.1.length-BL 0<K;omega) ⟨rfl,by show (0:Int)<=0;omega,by show (0:Int)<=_;omega,rfl,Y⟩;rintro rec ⟨H,t',i,s2⟩ ⟨e,M,X,J,z⟩ O;simp only at e M X J z O ⊢;subst e;simp only[Q121.s0];refine Tot.cnd (λI=>?_) λ_=>Tot.ret ⟨by show H.length<=5;omega,z.up (by omega)⟩
 have I:i<(t.1.1.length:Int):=of_decide_eq_true I;rw[aD (n:=i+1) (by omega) (by omega)];refine Tot.ix2 M I λy _ _=>Tot.bind (aH h z 4 (by decide) (by omega)) λv ⟨_,s3⟩=>Tot.fit (O (_,_,_,v.2.1) ⟨rfl,by show 0<=i+1;omega,by show i+1<=_;omega,?_,s3.up (by show _<=m+31+(i+1).toNat;omega)⟩ (by show t.1.1.length-(i+1).toNat<t.1.1.length-i.toNat;omega)) (by omega) (by simp;omega)
 show ((H++[_]).length:Int)=i+1;simp;omega
theorem we (h:fX b)(Z:bh b m s)(hm:m<=94000)(X:1048577<K):Tot (Q122.f K (s,())) λr=>r.1.1.length<=6/\bh b (m+50) r.2.1:=by
 simp only[Q122.f];refine Tot.bind (Ay h Z (-1) (by decide) (by decide) (by omega) X) λt ⟨hl,M⟩=>?_
 refine Tot.cnd (λJ=>?_) λ_=>Tot.ret ⟨by show t.1.1.length<=6;omega,M.up (by omega)⟩
 have J:(t.1.1.length:Int)>0:=of_decide_eq_true J;refine Tot.bind (aH h M 10 (by decide) (by omega)) λv2 ⟨_,O⟩=>Tot.cnd (λ_=>?_) λ_=>Tot.ret ⟨by show t.1.1.length<=6;omega,O.up (by omega)⟩
 refine Tot.bind (aH h O (t.1.1.length:Int) (by omega) (by omega)) λv3 ⟨⟨H,u⟩,Y⟩=>Tot.bind (aH h Y 3 (by decide) (by omega)) λv4 ⟨_,I⟩=>?_
 refine Tot.cnd (λ_=>Tot.bind (aH h I 2 (by decide) (by omega)) λv5 ⟨⟨R,b5⟩,z⟩=>Tot.ix2 R b5 λ_ _ _=>Tot.ix2 H u λ_ _ _=>Tot.ret ⟨by show (t.1.1.set _ _).length<=6;rw[BU];omega,z.up (by omega)⟩) λ_=>?_
 refine Tot.cnd (λ_=>Tot.bind (rv h I (by omega)) λf z=>Tot.ix2 H u λ_ _ _=>Tot.ret ⟨by show (t.1.1.set _ _).length<=6;rw[BU];omega,z.up (by omega)⟩) λ_=>?_
 exact Tot.ix2 H u λy _ _=>Tot.fit (Tot.ret ⟨by show (t.1.1++[y]).length<=6;simp;omega,I.up (by omega)⟩) (by omega) (by simp;omega)
theorem xS (h:fX b)(X:bh b m s)(hm:m<=95000):Tot (Q123.f K (s,())) λr=>bh b (m+6) r.2.1:=by
 simp only[Q123.f,Q14.f];refine Tot.bind (aH h X 6 (by decide) (by omega)) λv1 ⟨_,z⟩=>Tot.cnd (λ_=>Tot.ret (z.up (by omega))) λ_=>Tot.bind (aH h z 3 (by decide) (by omega)) λv3 ⟨⟨Y,I⟩,R⟩=>Tot.ix2 Y I λy u _=>?_
 have u:InP y 10 100000:=by
  simp only[Cb,CZ,or_false]at u;rcases u with rfl|rfl|rfl <;> constructor <;> omega
 rw[aD (n:=2*y) (by omega) (by omega),aD (n:=2*y+1) (by omega) (by omega),aD (n:=y+1) (by omega) (by omega)];exact Tot.bind (aH h R _ (by omega) (by omega)) λZ ⟨_,J⟩=>Tot.bind (aH h J _ (by omega) (by omega)) λv7 ⟨_,M⟩=>Tot.bind (aH h M _ (by omega) (by omega)) λv8 ⟨_,O⟩=>Tot.bind (aH h O _ (by decide) (by omega)) λv9 ⟨_,H⟩=>Tot.ret H
theorem pZ (h:fX b)(z:bh b m s)(J:m<=94000):Tot (Q124.f K (s,())) λr=>bh b (m+8) r.2.1:=by
 simp only[Q124.f];exact Tot.bind (xS h z (by omega)) λc H=>Tot.bind (aH h H 16 (by decide) (by omega)) λI ⟨_,y⟩=>Tot.cnd (λ_=>Tot.bind (aH h y 3 (by decide) (by omega)) λv ⟨⟨a,b⟩,u⟩=>Tot.ix2 a b λ_ _ _=>Tot.ret u) λ_=>Tot.cnd (λ_=>Tot.bind (aH h y 2 (by decide) (by omega)) λv ⟨⟨a,b⟩,u⟩=>Tot.ix2 a b λ_ _ _=>Tot.ret u) λ_=>Tot.cnd (λ_=>Tot.bind (aH h y 2 (by decide) (by omega)) λv ⟨⟨a,b⟩,u⟩=>Tot.ix2 a b λ_ _ _=>Tot.ret u) λ_=>Tot.ret (y.up (by omega))
theorem xT (h:fX b)(z:bh b m s)(w:bX)(I:m<=95000):Tot (Q112.f K (s,w,())) λr=>bh b (m+2) r.2.1:=by
 simp only[Q112.f];refine Tot.cnd (λ_=>Tot.ret (z.up (by omega))) λy=>?_
 have y:¬ (w.2.1.length:Int)=0:=by simpa using y
 refine Tot.bind (aH h z 3 (by decide) (by omega)) λJ ⟨_,H⟩=>Tot.cnd (λ_=>Tot.cnd (λ_=>Tot.bind (aH h H 4 (by decide) (by omega)) λv ⟨_,u⟩=>Tot.ret u) λ_=>?_) λ_=>?_ <;>
 exact Tot.bind (aH h H _ (by show (1:Int)<=(w.2.1.length:Int);omega) (by omega)) λv ⟨_,u⟩=>Tot.ret u
theorem Az (h:fX b)(hs:bh b m s)(w:bX)(hm:m<=94000):Tot (Q113.f K (s,w,())) λr=>bh b (m+8) r.2.1:=by
 simp only[Q113.f];refine Tot.bind (aH h hs 8 (by decide) (by omega)) λv1 ⟨_,Y⟩=>Tot.bind (aH h Y 256 (by decide) (by omega)) λv2 ⟨_,s2⟩=>Tot.bind (aH h s2 16 (by decide) (by omega)) λv3 ⟨_,s3⟩=>Tot.bind (aH h s3 40 (by decide) (by omega)) λM ⟨_,y⟩=>?_
 have y:bh b (m+4) M.2.1:=y.up (by omega);generalize M.2.1=z at y ⊢;have Z:bh b (m+8) z:=y.up (by omega);have R:=xT (K:=K) h y w (by omega);have O:∀ n:Int,1<=n->Tot (Q12.f K (z,n,())) λr=>bh b (m+8) r.2.1:=λn H=>(aH h y n H (by omega)).mono λr J=>J.2.up (by omega)
 have pp:∀ (I:List Int×Int) (n:Int),bh b (m+4+2) I->1<=n->Tot (Q12.f K (I,n,())) λr=>bh b (m+8) r.2.1:=λI n X H=>(aH h X n H (by omega)).mono λr J=>J.2.up (by omega)
 repeat' first
  |exact Tot.ret Z
  |exact Tot.bind R λv u=>Tot.ret (bh.up u (by omega))
  |exact Tot.bind R λv u=>Tot.bind (pp _ _ u (by decide)) λv u=>Tot.ret u
  |exact Tot.bind (O _ (by decide)) λv u=>Tot.ret u
  |exact Tot.bind (O _ (by decide)) λv u=>Tot.cnd (λ_=>Tot.ret u) λ_=>Tot.ret u
  |refine Tot.cnd (λ_=>?_) λ_=>?_
theorem AA (h:fX b)(hs:bh b m s)(y:Int)(h1:1<=y)(h2:y<=200)(hm:m<=90000)(R:1048577<K):Tot (Q114.f K (s,y,())) λr=>(WI r.1.2.1 2000/\r.1.1.length<=300)/\bh b (m+8*y.toNat+2) r.2.1:=by
 simp only[Q114.f,Q114.pre];have O:∀ (H:List ag) (n:Int) (z:List Int×Int) (w:bX) (q c:Nat),0<=n->n<y->H.length<=24->bh b q z->q<=m+2->WI w c->c<=200->Tot (Q114.l1 K (s,y,()) (H,n,z.1,z.2,w)) λr=>(WI r.1.2.1 2000/\r.1.1.length<=300)/\bh b (m+8*y.toNat+2) r.2.1:=λH n z w q c n0 n1 X M hq I hc=>by
  refine Tot.iter (step:=λrec a=>Q114.s1 K (s,y,()) rec a) (λa=>∃ q c:Nat,0<=a.2.1/\a.2.1<y/\(a.1.length:Int)+a.2.1<=24+y/\bh b q (a.2.2.1,a.2.2.2.1)/\q+8*a.2.1.toNat<=m+8*y.toNat+2/\WI a.2.2.2.2 c/\c+4*a.2.1.toNat<=2000) (λa=>a.2.1.toNat) ?_ K _ (by show n.toNat<K;omega) ⟨q,c,n0,n1,by show (H.length:Int)+n<=_;omega,M,by show q+8*n.toNat<=_;omega,I,by show c+4*n.toNat<=2000;omega⟩;clear M hq I hc n0 n1 X;rintro rec ⟨H,n,z1,z2,w⟩ ⟨q,c,n0,n1,X,M,hq,I,hc⟩ Z;simp only at n0 n1 X M hq I hc Z ⊢;simp only[Q114.s1];refine Tot.cnd (λhn=>?_) λ_=>Tot.vl (I.copy (by omega) K R) (Tot.ret ⟨⟨I.mono (by omega),by show H.length<=300;omega⟩,M.up (by omega)⟩)
  have hn:n>0:=of_decide_eq_true hn;rw[aD (n:=n-1) (by omega) (by omega)];refine Tot.bind (Az h M w (by omega)) λe he=>Tot.fit (Tot.vl (I.copy (by omega) K R) (Tot.bind (do_t K w c I (by omega) e.1.1 R) ?_)) (by omega) (by simp;omega)
  rintro⟨⟨v',ok,⟨⟩⟩,⟨⟩⟩ hv;have go:∀ u:bX,WI u (c+4)->Tot (rec (H++[e.1.1],n-1,e.2.1.1,e.2.1.2,u)) λr=>(WI r.1.2.1 2000/\r.1.1.length<=300)/\bh b (m+8*y.toNat+2) r.2.1:=λu hu=>Z _ ⟨q+8,c+4,by show 0<=n-1;omega,by show n-1<y;omega,by show ((H++[e.1.1]).length:Int)+(n-1)<=_;simp;omega,he,by show q+8+8*(n-1).toNat<=_;omega,hu,by show c+4+4*(n-1).toNat<=2000;omega⟩ (by show (n-1).toNat<n.toNat;omega)
  exact Tot.cnd (λ_=>go v' hv) λ_=>go w (I.mono (by omega))
 refine Tot.bind (wc K R) λw0 Y=>Tot.bind (aH h hs 3 (by decide) (by omega)) λv2 ⟨_,s2⟩=>Tot.cnd (λ_=>?_) λ_=>Tot.bind (aH h s2 y h1 (by omega)) λv9 ⟨⟨a9,b9⟩,s9⟩=>O [] v9.1.1 v9.2.1 w0.1.1 (m+2) 8 a9 b9 (by simp) s9 (CG _) Y (by omega)
 refine Tot.iter (step:=λrec a=>Q114.s0 K (s,y,()) (Q114.l1 K (s,y,())) rec a) (λa=>0<=a.2.1/\a.2.1<=8/\(a.1.length:Int)<=3*a.2.1/\bh b (m+1) (a.2.2.1,a.2.2.2.1)/\WI a.2.2.2.2 8) (λa=>8-a.2.1.toNat) ?_ K _ (by show 8-BL 0<K;omega) ⟨by show (0:Int)<=0;omega,by show (0:Int)<=8;omega,by show ((0:Nat):Int)<=3*0;omega,s2,Y⟩;rintro rec ⟨H,i,z1,z2,w⟩ ⟨i0,i1,X,M,I⟩ Z;simp only at i0 i1 X M I Z ⊢;simp only[Q114.s0];refine Tot.cnd (λhi=>?_) λ_=>?_
 ·have hi:i<=7:=of_decide_eq_true hi;rw[aD (n:=i+1) (by omega) (by omega)];have go:∀ J:List ag,(J.length:Int)<=3*(i+1)->Tot (rec (J,i+1,z1,z2,w)) λr=>(WI r.1.2.1 2000/\r.1.1.length<=300)/\bh b (m+8*y.toNat+2) r.2.1:=λJ a0=>Z _ ⟨by show 0<=i+1;omega,by show i+1<=8;omega,a0,M,I⟩ (by show 8-(i+1).toNat<8-i.toNat;omega)
  exact Tot.cnd (λ_=>Tot.fit (Tot.fit (go _ (by simp;omega)) (by omega) (by simp;omega)) (by omega) (by simp;omega)) λ_=>go H (by omega)
 ·refine Tot.bind (Br K w 8 H I (by omega) (by omega) R) λv ⟨hv,ev⟩=>Tot.bind (aH h M y h1 (by omega)) λv4 ⟨⟨a4,b4⟩,s4⟩=>?_
  exact O v.2.1 v4.1.1 v4.2.1 v.1.1 (m+1+1) _ a4 b4 (by rw[ev];omega) s4 (by omega) hv (by omega)
theorem AB (h:fX b)(z:bh b m s)(H:m<=90000)(y:1048577<K):Tot (Q115.f K (s,())) λr=>WI r.1.1 2000/\bh b (m+802) r.2.1:=by
 simp only[Q115.f];exact Tot.bind (AA h z 100 (by decide) (by decide) H y) λv u=>Tot.ret ⟨u.1.1,u.2⟩
theorem zk (h:fX b)(J:bh b m s)(M:m<=90000)(z:1048577<K):Tot (Q116.f K (s,())) λr=>(∃ i,dN i r.1.1)/\bh b (m+803) r.2.1:=by
 simp only[Q116.f];refine Tot.bind (AB h J M z) λw ⟨u,O⟩=>Tot.bind (aH h O _ (by have:=u.len;show (1:Int)<=(w.1.1.1.length:Int);omega) (by omega)) λv ⟨⟨a,b⟩,H⟩=>Tot.ix a b λy R _=>Tot.ret ⟨?_,H⟩
 obtain⟨i,I,rfl⟩:=B7 R;exact⟨i,u.node i I⟩
structure NS (c:Nat) (n:aa):Prop where
 nb:NB n
 table:(aa.table n).length<=c
 cast:(aa.cast n).length<=c
 doubts:(aa.doubts n).length<=c
 places:(aa.places n).length<=c
 others:(aa.others n).length<=c
theorem dN.ns {i:Nat}{n:aa}(h:dN i n):NS 8 n:=by
 cases y:n.2.1 with
 |true =>
  have r:=h.up y;refine⟨h.nb,by have:=h.short;omega,by have:=clen r.x.say;omega,?_,?_,?_⟩
  ·exact BR (iS r.x.say.asc r.x.say.inp) (by decide)
  ·exact BR (iS r.x.places.2 λx u=>(r.x.places.1 x u).1) (by decide)
  ·exact BR (iS r.x.others.2 λx u=>⟨(r.x.others.1 x u).1.1,Int.le_trans (r.x.others.1 x u).1.2 (by decide)⟩) (by decide)
 |false =>
  have e:=h.down y;refine⟨h.nb,?_,?_,?_,?_,?_⟩ <;> rw[e] <;> exact B3 _
theorem xU (h:fX b)(hs:bh b m s)(n:aa){c:Nat}(hn:NS c n)(h8:8<=c)(hc:c<=1000)(hm:m<=90000)(hK:1048577<K):Tot (Q125.f K (s,n,())) λr=>NS (c+1) r.1.1/\bh b (m+60) r.2.1:=by
 simp only[Q125.f,zcp4,zcp8];rw[jG K n hn.nb hK];simp only[BG];obtain⟨⟨n1,n2,n3,X,n5,R,n7,O⟩,l1,l2,l3,Z,Y⟩:=hn;refine Tot.bind (aH h hs 12 (by decide) (by omega)) λv2 ⟨_,I⟩=>?_
 have y:∀ (n':aa) (z:List Int×Int),n'.2.2.2.2.2.2.2.2=n.2.2.2.2.2.2.2.2->bh b (m+60) z->NS (c+1) n'/\bh b (m+60) z:=λn' z e hz=>by
  refine⟨⟨⟨?_,?_,?_,?_,?_,?_,?_,?_⟩,?_,?_,?_,?_,?_⟩,hz⟩ <;> simp only[aa.table,aa.cast,aa.doubts,aa.places,aa.others] <;> rw[e] <;> first|assumption|(refine BR ?_ (CQ c);assumption)
 have u2:bh b (m+60) v2.2.1:=I.up (by omega);refine Tot.cnd (λ_=>Tot.bind (pY h I (by omega) hK) λt ⟨tl,J⟩=>Tot.ret ⟨⟨⟨by show t.1.1.length<=_;omega,n2,n3,X,n5,R,n7,O⟩,by show t.1.1.length<=_;omega,BH l2,BH l3,BH Z,BH Y⟩,J.up (by omega)⟩) λ_=>?_
 refine Tot.cnd (λ_=>Tot.bind (we h I (by omega) hK) λt ⟨tl,J⟩=>Tot.ret ⟨⟨⟨n1,by show t.1.1.length<=_;omega,n3,X,n5,R,n7,O⟩,BH l1,by show t.1.1.length<=_;omega,BH l3,BH Z,BH Y⟩,J.up (by omega)⟩) λ_=>?_
 refine Tot.cnd (λ_=>Tot.ret (y _ _ rfl u2)) λ_=>?_
 refine Tot.cnd (λ_=>Tot.bind (aH h I 9 (by decide) (by omega)) λv5 ⟨_,s5⟩=>Tot.bind (aH h s5 3 (by decide) (by omega)) λv6 ⟨_,s6⟩=>Tot.bind (aH h s6 3 (by decide) (by omega)) λv7 ⟨_,s7⟩=>Tot.bind (aH h s7 2 (by decide) (by omega)) λv8 ⟨_,s8⟩=>Tot.ret ⟨⟨⟨n1,n2,n3,X,n5,R,n7,O⟩,BH l1,BH l2,BH l3,BH Z,BH Y⟩,s8.up (by omega)⟩) λ_=>?_
 refine Tot.cnd (λ_=>Tot.bind (aH h I 8 (by decide) (by omega)) λv9 ⟨_,M⟩=>Tot.bind (aH h M 8 (by decide) (by omega)) λa1 ⟨_,H⟩=>Tot.fit (Tot.ret ⟨⟨⟨n1,n2,?_,?_,n5,R,n7,O⟩,BH l1,BH l2,?_,BH Z,BH Y⟩,H.up (by omega)⟩) (by omega) ?_) λ_=>?_
 ·show (aa.doubts n++[_]).length<=_;simp;omega
 ·intro d u;rcases BP.1 u with u|u
  ·exact X d u
  ·rw[BK.1 u];show ([a1.1.1]:List Int).length<=_;simp
 ·show (aa.doubts n++[_]).length<=_;simp;omega
 ·show (aa.doubts n).length+_<=_;simp;omega
 refine Tot.cnd (λ_=>Tot.bind (pZ h I (by omega)) λc J=>Tot.ret ⟨⟨⟨n1,n2,n3,X,n5,R,n7,O⟩,BH l1,BH l2,BH l3,BH Z,BH Y⟩,J.up (by omega)⟩) λ_=>?_
 refine Tot.cnd (λ_=>Tot.bind (aH h I 9 (by decide) (by omega)) λv9 ⟨_,M⟩=>Tot.bind (pZ h M (by omega)) λc H=>Tot.bind (aH h H 3 (by decide) (by omega)) λa2 ⟨_,a0⟩=>Tot.fit (Tot.ret ⟨⟨⟨n1,n2,n3,X,?_,?_,n7,O⟩,BH l1,BH l2,BH l3,?_,BH Y⟩,a0.up (by omega)⟩) (by omega) ?_) λ_=>?_
 ·show (aa.places n++[_]).length<=_;simp;omega
 ·intro d u;rcases BP.1 u with u|u
  ·exact R d u
  ·rw[BK.1 u];show ([a2.1.1]:List Int).length<=_;simp
 ·show (aa.places n++[_]).length<=_;simp;omega
 ·show (aa.places n).length+_<=_;simp;omega
 refine Tot.cnd (λ_=>Tot.bind (aH h I 3 (by decide) (by omega)) λv9 ⟨_,M⟩=>Tot.bind (pY h M (by omega) hK) λt ⟨tl,H⟩=>Tot.fit (Tot.ret ⟨⟨⟨n1,n2,n3,X,n5,R,?_,?_⟩,BH l1,BH l2,BH l3,BH Z,?_⟩,H.up (by omega)⟩) (by omega) ?_) λ_=>?_
 ·show (aa.others n++[_]).length<=_;simp;omega
 ·intro d u;rcases BP.1 u with u|u
  ·exact O d u
  ·rw[BK.1 u];show t.1.1.length<=_;omega
 ·show (aa.others n++[_]).length<=_;simp;omega
 ·show (aa.others n).length+_<=_;simp;omega
 refine Tot.cnd (λ_=>Tot.ret (y _ _ rfl u2)) λ_=>Tot.cnd (λ_=>Tot.ret (y _ _ rfl u2)) λ_=>?_
 refine Tot.cnd (λ_=>Tot.bind (aH h I 3 (by decide) (by omega)) λv ⟨⟨a,b⟩,J⟩=>Tot.ix2 a b λ_ _ _=>Tot.ret (y _ _ rfl (J.up (by omega)))) λ_=>?_
 exact Tot.bind (aH h I 8 (by decide) (by omega)) λv9 ⟨_,M⟩=>Tot.bind (aH h M 3 (by decide) (by omega)) λv ⟨⟨a,b⟩,J⟩=>Tot.ix2 a b λ_ _ _=>Tot.ret (y _ _ rfl (J.up (by omega)))
end
section
variable {K:Nat} {b:List Int} {m:Nat} {s:List Int×Int}
theorem xV (h:fX b)(M:bh b m s)(hm:m<=89000)(y:1048577<K):Tot (Q126.f K (s,())) λr=>NS 9 r.1.1/\bh b (m+864) r.2.1:=by
 simp only[Q126.f];refine Tot.bind (zk h M (by omega) y) λn ⟨⟨i,u⟩,I⟩=>Tot.bind (aH h I 20 (by decide) (by omega)) λv ⟨_,z⟩=>Tot.cnd (λ_=>Tot.bind (xU h z n.1.1 u.ns (CG _) (by omega) (by omega) y) λr Z=>Tot.ret Z) λ_=>Tot.ret ⟨?_,z.up (by omega)⟩
 obtain⟨H,R,J,Y,O,X⟩:=u.ns;exact⟨H,BH R,BH J,BH Y,BH O,BH X⟩
end
theorem bh.zero (b:List Int):bh b 0 (b,0):=⟨0,CG _,rfl⟩
structure xW (code:List Int):Prop where
 byte:∀ y∈code,0<=y/\y<=255
 len:code.length<=9223372036854775807
theorem ot (K:Nat)(xs:List Int)(z:xs.length<=1048576)(y:1048577<K):Q228.f K (xs,xs,())=rb true:=by
 have r:Q228.l0 K (xs,xs,()) 0=rb true:=by
  refine er (step:=λrec a=>Q228.s0 K (xs,xs,()) rec a) xs.length (λi=>(i:Int)) (rb true) ?_ ?_ (by omega)
  ·intro rec i u;simp only[Q228.s0];rw[decide_eq_true (by omega:(i:Int)<(BI xs:Int)),af u,ar i (by omega)];simp only[cond_true,BG,bne_self_eq_false,cond_false]
  ·intro rec;simp only[Q228.s0,aR];rfl
 simp only[Q228.f,Q228.pre,bne_self_eq_false,cond_false];exact r
theorem tz (K:Nat)(xs:List aM)(z:xs.length<=1048576)(y:1048577<K):Q227.f K (xs,xs,())=rb true:=by
 have r:Q227.l0 K (xs,xs,()) 0=rb true:=by
  refine er (step:=λrec a=>Q227.s0 K (xs,xs,()) rec a) xs.length (λi=>(i:Int)) (rb true) ?_ ?_ (by omega)
  ·intro rec i u;simp only[Q227.s0];rw[decide_eq_true (by omega:(i:Int)<(BI xs:Int)),af u,ar i (by omega)];simp only[cond_true,BG];rw[show Ty.eqv t3 xs[i] xs[i]=true by
    show (Ty.eqv t2 xs[i].1 xs[i].1&&decide (xs[i].2=xs[i].2))=true;rw[show Ty.eqv t2 xs[i].1 xs[i].1=decide (xs[i].1=xs[i].1) from jF _ _,decide_eq_true rfl,decide_eq_true rfl];rfl]
   rfl
  ·intro rec;simp only[Q227.s0,aR];rfl
 simp only[Q227.f,Q227.pre,bne_self_eq_false,cond_false];exact r
theorem uz (K:Nat)(n:aa)(u:NB n)(y:1048577<K):Q229.f K (n,n,())=rb true:=by
 have J:Q229.l2 K (n,n,()) 0=rb true:=by
  have z:=u.others;refine er (step:=λrec a=>Q229.s2 K (n,n,()) rec a) (aa.others n).length (λi=>(i:Int)) (rb true) ?_ ?_ (by omega)
  ·intro rec i r;simp only[Q229.s2];rw[bi (by omega:(i:Int)<(BI (aa.others n):Int)),af r,ar i (by omega)];simp only[cond_true,BG,bne_self_eq_false,cond_false];refine (congrArg (λo=>BJ o _) (iU K _ (u.facts _ (BQ r)) y)).trans rfl
  ·intro rec;simp only[Q229.s2,aR];rfl
 have I:Q229.l1 K (n,n,()) 0=rb true:=by
  have z:=u.places;refine er (step:=λrec a=>Q229.s1 K (n,n,()) (Q229.l2 K (n,n,())) rec a) (aa.places n).length (λi=>(i:Int)) (rb true) ?_ ?_ (by omega)
  ·intro rec i r;simp only[Q229.s1];rw[bi (by omega:(i:Int)<(BI (aa.places n):Int)),af r,ar i (by omega)];simp only[cond_true,BG,bne_self_eq_false,cond_false];rw[show Ty.eqv t9 (aa.places n)[i].2.1 (aa.places n)[i].2.1=decide ((aa.places n)[i].2.1=(aa.places n)[i].2.1) from pC _ _,decide_eq_true rfl];simp only[BN,cond_false];refine (congrArg (λo=>BJ o _) (ot K _ (u.trips _ (BQ r)) y)).trans rfl
  ·intro rec;simp only[Q229.s1,aR];exact J
 have H:Q229.l0 K (n,n,()) 0=rb true:=by
  have z:=u.doubts;refine er (step:=λrec a=>Q229.s0 K (n,n,()) (Q229.l1 K (n,n,())) rec a) (aa.doubts n).length (λi=>(i:Int)) (rb true) ?_ ?_ (by omega)
  ·intro rec i r;simp only[Q229.s0];rw[bi (by omega:(i:Int)<(BI (aa.doubts n):Int)),af r,ar i (by omega)];simp only[cond_true,BG,bne_self_eq_false,cond_false];refine (congrArg (λo=>BJ o _) (ot K _ (u.by_ _ (BQ r)) y)).trans rfl
  ·intro rec;simp only[Q229.s0,aR];exact I
 simp only[Q229.f,Q229.pre,bne_self_eq_false,cond_false];refine (congrArg (λo=>BJ o _) (iU K (aa.table n) u.table y)).trans ?_;simp only[rb,BG,BN,cond_false];refine (congrArg (λo=>BJ o _) (tz K (aa.cast n) u.cast y)).trans ?_;simp only[rb,BG,BN,cond_false];rw[show Ty.eqv t2 n.2.2.2.2.2.2.2.2.2.2.1 n.2.2.2.2.2.2.2.2.2.2.1=decide (aa.probe n=aa.probe n) from jF _ _,show Ty.eqv t9 n.2.2.2.2.2.2.2.2.2.2.2.2.1 n.2.2.2.2.2.2.2.2.2.2.2.2.1=decide (aa.coord n=aa.coord n) from pC _ _,decide_eq_true rfl,decide_eq_true rfl];exact H
structure gT (n m:aa):Prop where
 ok:b7 m
 me:m.1=n.1
 now_:m.2.2.2.2.2.1=n.2.2.2.2.2.1
 seq:m.2.2.2.2.2.2.1=n.2.2.2.2.2.2.1
 turn:m.2.2.2.2.2.2.2.1=n.2.2.2.2.2.2.2.1
 rest:m.2.2.2.2.2.2.2.2.2.2.2.2=n.2.2.2.2.2.2.2.2.2.2.2.2
 by_:∀ d∈aa.doubts m,d.2.2.2.length<=1048576
theorem gT.say {n m:aa}(h:gT n m){f:ag}(b:Int)(u:bz f):gT n (sayOf m f b):=by
 obtain⟨H,_,_,_,_,z,I,y,_,r⟩:=fA m f b;exact⟨jg h.ok u,H.trans h.me,z.trans h.now_,I.trans h.seq,y.trans h.turn,r.trans h.rest,yK h.by_⟩
theorem gT.setP {n m:aa}(h:gT n m)(p:ag):gT n (setP m p):=⟨h.ok.setP p,h.me,h.now_,h.seq,h.turn,h.rest,h.by_⟩
theorem gT.nb {n m:aa}(h:gT n m)(u:NB n):NB m:=by
 have y:aa.places m=aa.places n:=congrArg (λr=>r.2.1) h.rest;have z:aa.others m=aa.others n:=congrArg (λr=>r.2.2) h.rest;exact⟨h.ok.lt,h.ok.lc,h.ok.ld,h.by_,by rw[y];exact u.places,by rw[y];exact u.trips,by rw[z];exact u.others,by rw[z];exact u.facts⟩
theorem gT.far {n m:aa}(h:gT n m)(y:hM n):hM m:=by
 have u:aa.others m=aa.others n:=congrArg (λr=>r.2.2) h.rest;exact⟨by rw[u];exact y.short,by rw[u];exact y.table⟩
theorem xX {n:aa}(h:gT n n)(y:∀ d∈aa.doubts n,∃ f∈aa.table n,f.1=d.1):gT n (gv n)/\aa.probe (gv n)=aa.probe n:=by
 have:=ky (st:=eH) (Inv:=λm=>jK (aa.doubts n) n.2.2.2.2.2.1 m/\gT n m/\aa.probe m=aa.probe n) (ds:=aa.doubts n) (n:=n) ⟨⟨h.ok,y,rfl⟩,h,rfl⟩ (λm d u r=>by
  refine⟨lh r.1 u,?_⟩;unfold eH;cases lg m.2.2.2.2.2.1 d.2.2.1 d.2.2.2.length with
  |false=>exact r.2
  |true =>
   have z:=nR (c7 r.1.ok.table (r.1.key d u)).1;exact⟨r.2.1.say _ z,(fA m _ _).2.2.2.2.2.2.2.2.1.trans r.2.2⟩)
 exact this.2
theorem uA {n m:aa}(h:gT n m):gT n (bk m).1/\((aa.probe (bk m).1).1=-1\/(aa.probe (bk m).1).1=(aa.probe m).1)/\(bk m).2.length<=2/\∀ w∈(bk m).2,(ap.table w).length<=1048576:=by
 unfold bk;cases z:(aa.probe m).1==-1 with
 |true=>exact⟨h,.inr rfl,by simp,by simp⟩
 |false =>
  simp only[cond_false];cases r:cL (aG (aa.table m) (aa.probe m).1) with
  |false=>exact⟨h.setP _,.inl rfl,by simp,by simp⟩
  |true =>
   have y:=c7 h.ok.table (fh r);simp only[BN,cond_false];cases decide (m.2.2.2.2.2.1-(aa.probe m).2.1>=4) with
   |true =>
    simp only[cond_true];cases (aG (aa.table m) (aa.probe m).1).2.2.1==1 with
    |true=>exact⟨(h.setP noP).say _ (qy y.1),.inl (congrArg (·.1) (fA (setP m noP) _ _).2.2.2.2.2.2.2.2.1),by simp,by simp⟩
    |false=>exact⟨h.setP _,.inl rfl,by simp,by simp⟩
   |false =>
    simp only[cond_false];cases decide (m.2.2.2.2.2.1-(aa.probe m).2.1>=2) with
    |false=>exact⟨h,.inr rfl,by simp,by simp⟩
    |true =>
     simp only[cond_true];cases (aa.probe m).2.2.2 with
     |true=>exact⟨h,.inr rfl,by simp,by simp⟩
     |false =>
      refine⟨h.setP _,.inr rfl,?_,λw u=>?_⟩
      ·show ((cE m).map (askW m)).length<=2;rw[B9];exact CR _ _
      ·obtain⟨to,_,rfl⟩:=BV.1 u;exact B3 _
theorem zl {n:aa}(H:hM n)(y:(aa.table n).length<=1048576)(r:Int):(ey n r).length<=2/\∀ w∈ey n r,(ap.table w).length<=1048576:=by
 unfold ey;cases aO .i64 r 3==1 with
 |true =>
  simp only[cond_true,eK];cases ew n with
  |false=>exact⟨by simp,by simp⟩
  |true =>
   refine⟨?_,λw u=>?_⟩
   ·show ((([0,1]:List Int).filter (λs=>s != ao n.1)).map _).length<=2;rw[B9];exact CE _ _
   ·obtain⟨s,_,rfl⟩:=BV.1 u;exact y
 |false =>
  simp only[cond_false];cases (aO .i64 r 3==3||decide (cd n=[])) with
  |true=>exact⟨by simp,by simp⟩
  |false =>
   simp only[cond_false];cases aO .i64 r 3==0 with
   |true =>
    refine⟨by simp,λw u=>?_⟩;rw[cond_true,BK]at u;subst u;exact y
   |false =>
    simp only[cond_false,mX]
    match z:aa.others n with
    |[]=>exact⟨by simp,by simp⟩
    |x::_ =>
     refine⟨by simp,λw u=>?_⟩;rw[BK]at u;subst u;exact (H.table x (by rw[z];simp)).2
def d5 (n:aa):aa:=(n.1,n.2.1,n.2.2.1,n.2.2.2.1,n.2.2.2.2.1,n.2.2.2.2.2.1+1,n.2.2.2.2.2.2)
theorem xY (K:Nat)(n:aa)(z:Int)(Y:NB n)(hP:iP n)(hu:n.2.1=true)(hg:n.2.2.1=false)(a4:¬ n.2.2.2.2.2.1>=999999)(hK:1048577<K) :
  ∃ (y:aa) (O:List ap),NB y/\O.length<=1048576/\(∀ w∈O,(ap.table w).length<=1048576)/\Q101.f K (n,z,())=some ((y,O,()),())/\Q192.f K (n,z,())=some ((O,()),(y,())):=by
 have hU:=hP.up hu;have hs:=hU.say;obtain⟨hT,_,_,_,a1,hD,_,_,hO⟩:=hU;obtain⟨⟨cp,cy⟩,⟨e4,e0⟩,⟨c4,e3⟩,⟨b3,b5⟩,_⟩:=hP;have cb:=mV ⟨cp,cy⟩ hO;have a9:hM n:=⟨by rcases cb with e|⟨x,e⟩ <;> rw[e] <;> simp,λx hx=>⟨(hO.1 x hx).2.2.2.1,Y.facts x hx⟩⟩;have c3:gT (d5 n) (d5 n):=⟨⟨hs.table,hs.cast,hs.asc,hs.inp,hs.lt,hs.lc,hs.ld⟩,rfl,rfl,rfl,rfl,rfl,Y.by_⟩;have cc:NB (d5 n):=⟨Y.table,Y.cast,Y.doubts,Y.by_,Y.places,Y.trips,Y.others,Y.facts⟩;have d3:hM (d5 n):=⟨a9.short,a9.table⟩;have a3:∀ d∈aa.doubts (d5 n),∃ f∈aa.table (d5 n),f.1=d.1:=λd hd=>by
  obtain⟨f,hf,e,_⟩:=(hD.1 d hd).1;exact⟨f,hf,e⟩
 have bx:∀ d∈aa.doubts (d5 n),0<=d.2.2.1/\d.2.2.1<=(d5 n).2.2.2.2.2.1/\d.2.2.2.length<=1048576:=λd hd=>by
  obtain⟨s0,s1⟩:=(hD.1 d hd).2.1;refine⟨s0,?_,Y.by_ d hd⟩;show d.2.2.1<=n.2.2.2.2.2.1+1;omega
 have bn:jK (aa.doubts (d5 n)) (d5 n).2.2.2.2.2.1 (d5 n):=⟨c3.ok,a3,rfl⟩;have a6:(d5 n).2.2.2.2.2.1<=1000000:=by show n.2.2.2.2.2.1+1<=1000000;omega
 have eD:=xg K (d5 n) bn bx a6 hK;have eB:=AZ K (d5 n) bn bx a6 hK;obtain⟨R,a0⟩:=xX c3 a3;generalize gv (d5 n)=m at eD eB R a0;have a0:aa.probe m=aa.probe n:=a0;have u:((aa.probe m).1=-1\/0<=(aa.probe m).1)/\0<=(aa.probe m).2.1/\(aa.probe m).2.1<=1000000:=by
  rw[a0];unfold cU at a1;split at a1
  ·rename_i h1;rw[a1];exact⟨.inl rfl,by show (0:Int)<=0;omega,by show (0:Int)<=1000000;omega⟩
  ·obtain⟨_,⟨f,hf,e⟩,⟨s0,s1⟩,_⟩:=a1;have:=(hT.1 f hf).1.1;exact⟨.inr (e ▸ this),s0,by omega⟩
 have dd:m.2.2.2.2.2.1=n.2.2.2.2.2.1+1:=R.now_;have eF:=yL K m R.ok u.2.1 u.2.2 (by omega) (by omega) hK;have eW:=λcw=>xj K m R.ok cw u.2.1 u.2.2 (by omega) (by omega) hK
 obtain⟨r,b0,c2,b4⟩:=uA R;have Z:(aa.probe m).1=-1->bk m=(m,[]):=λh=>by unfold bk;rw[show ((aa.probe m).1==-1)=true by simpa using h];rfl
 generalize X:bk m=fo at eF eW r b0 c2 b4 Z;obtain⟨H,d1⟩:=fo;simp only at eF eW r b0 c2 b4;have c0:∃ (y:aa) (O:List ap),Q180.f K (H,())=some ((O,()),(y,()))/\((aa.probe H).1=-1->Q94.f K (H,())=some ((y,O,()),()))/\((aa.probe H).1≠-1->y=H/\O=[])/\NB y/\hM y/\az (aa.table y)/\O.length<=1/\∀ w∈O,(ap.table w).length<=1048576:=by
  have J:=r.nb cc;have X:=r.far d3;by_cases I:(aa.probe H).1=-1
  ·obtain⟨y,O,e1,e2,h3⟩:=yV K H r.ok I (by rw[r.seq];exact c4) (by rw[r.seq];show n.2.2.2.2.2.2.1<=1000000;omega) (by rw[r.turn];exact b3) (by rw[r.turn];exact b5) hK;refine⟨y,O,e2,λ_=>e1,λh=>absurd I h,?_⟩;rcases h3 with ⟨rfl,rfl⟩|⟨to,rfl,rfl⟩
   ·exact⟨J,X,r.ok.table,by simp,by simp⟩
   ·have M:=Be r.ok;refine⟨⟨M.lt,M.lc,M.ld,J.by_,J.places,J.trips,J.others,J.facts⟩,⟨X.short,X.table⟩,M.table,by simp,λw b9=>?_⟩;rw[BK]at b9;subst b9;exact cK (kl r.ok to)
  ·refine⟨H,[],?_,λh=>absurd h I,λ_=>⟨rfl,rfl⟩,J,X,r.ok.table,by simp,by simp⟩;simp only[Q180.f,Q180.pre];rw[show (H.2.2.2.2.2.2.2.2.2.2.1.1 != -1)=true by show ((aa.probe H).1 != -1)=true;simpa using I];rfl
 obtain⟨y,dc,eA,c1,b1,a2,b2,bb,e5,cx⟩:=c0;have ba:=Aj K y z a2 b2 bb hK;have eM:=xy K y z b2 bb a2.table hK;obtain⟨d2,bl⟩:=zl b2 a2.table z;generalize ey y z=cu at ba eM d2 bl;have ad:(n.1,n.2.1,n.2.2.1,n.2.2.2.1,n.2.2.2.2.1,wr .i64 (n.2.2.2.2.2.1+1),n.2.2.2.2.2.2)=d5 n:=by
  rw[aD (by omega) (by omega)];rfl
 refine⟨y,(d1++dc)++cu,a2,by simp only[BO];omega,λw M=>?_,?_,?_⟩
 ·simp only[BP]at M;rcases M with (M|M)|M
  ·exact b4 w M
  ·exact cx w M
  ·exact bl w M
 ·simp only[Q101.f,zcp4];rw[ad,hu,hg,decide_eq_false a4];simp only[BN,cond_false];rw[eD];simp only[BG];by_cases I:(aa.probe m).1=-1
  ·obtain⟨rfl,rfl⟩:=Prod.mk.inj (Z I);rw[show decide (H.2.2.2.2.2.2.2.2.2.2.1.1>=0)=false from decide_eq_false (by show ¬ (aa.probe H).1>=0;omega),show decide (H.2.2.2.2.2.2.2.2.2.2.1.1<0)=true from decide_eq_true (by show (aa.probe H).1<0;omega)];simp only[cond_true,cond_false];rw[c1 I];simp only[BG];rw[szw _ _ _ (by omega) (by simp only[CA];omega)];simp only[cond_true];rw[eM];simp only[BG];rw[szw _ _ _ (by omega) (by simp only[BO,CA];omega)];rfl
  ·rw[show decide (m.2.2.2.2.2.2.2.2.2.2.1.1>=0)=true from decide_eq_true (by show (aa.probe m).1>=0;omega)];simp only[cond_true];rw[eW I];simp only[BG];by_cases a5:(aa.probe H).1=-1
   ·rw[show decide (H.2.2.2.2.2.2.2.2.2.2.1.1<0)=true from decide_eq_true (by show (aa.probe H).1<0;omega)];simp only[cond_true];rw[c1 a5];simp only[BG];rw[szw _ _ _ (by omega) (by omega)];simp only[cond_true];rw[eM];simp only[BG];rw[szw _ _ _ (by omega) (by simp only[BO];omega)];rfl
   ·rw[show decide (H.2.2.2.2.2.2.2.2.2.2.1.1<0)=false from decide_eq_false (by show ¬ (aa.probe H).1<0;rcases b0 with h|h <;> omega)];obtain⟨rfl,rfl⟩:=b1 a5;simp only[cond_false];rw[eM];simp only[BG];rw[szw _ _ _ (by omega) (by omega),CH];rfl
 ·simp only[Q192.f,zcp4,Q128.f];rw[ad,hu,hg,decide_eq_false a4];simp only[cond_true,BG,CB,BN,cond_false];rw[eB];simp only[BG];rw[eF];simp only[BG];rw[eA];simp only[BG];rw[szw _ _ _ (by omega) (by omega)];simp only[cond_true];rw[ba];simp only[BG];rw[szw _ _ _ (by omega) (by simp only[BO];omega)];rfl
theorem xZ (K:Nat)(n y:aa)(z:List ap)(r:Int)(J:NB n)(u:Q212.f K (n,())=rb true)(I:Q192.f K (n,r,())=some ((z,()),(y,())))(H:1048577<K):Q216.f K (n,r,())=some ((y,z,()),()):=by
 simp only[Q216.f,Q215.f];rw[u];simp only[BG,BN,cond_false];rw[yJ K n J H];simp only[BG,Q193.f];rw[I];simp only[BG,Q214.f];simp
theorem rY (K:Nat)(n:aa)(r:Int)(I:NB n)(J:1048577<K):∃ y:aa,∃ u:List ap,NB y/\u.length<=1048576/\(∀ w∈u,(ap.table w).length<=1048576)/\Q225.f K (n,r,())=some ((y,u,()),())/\Q216.f K (n,r,())=some ((y,u,()),()):=by
 obtain⟨b,Y,Z,h3⟩:=lf K n I J;cases b with
 |false =>
  refine⟨sW,[],uk,by simp,by simp,?_,?_⟩
  ·simp only[Q225.f];rw[Y];rfl
  ·simp only[Q216.f,Q215.f];rw[Z];rfl
 |true =>
  have hP:=h3.1 rfl;have H:=jG K n I J;have hb:∃ (y:aa) (u:List ap),NB y/\u.length<=1048576/\(∀ w∈u,(ap.table w).length<=1048576)/\Q101.f K (n,r,())=some ((y,u,()),())/\Q192.f K (n,r,())=some ((u,()),(y,())):=by
   by_cases z:n.2.1=true/\n.2.2.1=false/\¬ n.2.2.2.2.2.1>=999999
   ·exact xY K n r I hP z.1 z.2.1 z.2.2 J
   ·refine⟨n,[],I,by simp,by simp,?_,?_⟩
    ·simp only[Q101.f,zcp4];cases X:n.2.1 with
     |false=>rfl
     |true =>
      cases R:n.2.2.1 with
      |true=>rfl
      |false =>
       have:n.2.2.2.2.2.1>=999999:=by by_cases h:n.2.2.2.2.2.1>=999999;exact h;exact absurd ⟨X,R,h⟩ z
       rw[decide_eq_true this];rfl
    ·simp only[Q192.f,zcp4,Q128.f];cases X:n.2.1 with
     |false=>rfl
     |true =>
      cases R:n.2.2.1 with
      |true=>rfl
      |false =>
       have:n.2.2.2.2.2.1>=999999:=by by_cases h:n.2.2.2.2.2.1>=999999;exact h;exact absurd ⟨X,R,h⟩ z
       rw[decide_eq_true this];rfl
  obtain⟨y,u,hy,O,M,z,hi⟩:=hb;refine⟨y,u,hy,O,M,?_,xZ K n y u r I Z hi J⟩;simp only[Q225.f];rw[Y];simp only[BG,BN,cond_false];rw[H];simp only[BG];rw[z];simp only[BG];rw[jG K y hy J];rfl
theorem uB (K:Nat)(w:ap)(u:(ap.table w).length<=1048576)(r:1048577<K):Q230.f K (w,w,())=rb true:=by
 simp only[Q230.f,beq_self_eq_true,cond_true];rw[show Ty.eqv t9 w.2.2.2.2.2.2.1 w.2.2.2.2.2.2.1=decide (w.2.2.2.2.2.2.1=w.2.2.2.2.2.2.1) from pC _ _,decide_eq_true rfl];simp only[cond_true];exact (congrArg (λo=>BJ o _) (iU K (ap.table w) u r)).trans rfl
theorem tA (K:Nat)(xs:List ap)(H:xs.length<=1048576)(z:∀ w∈xs,(ap.table w).length<=1048576)(u:1048577<K):Q231.f K (xs,xs,())=rb true:=by
 have y:Q231.l0 K (xs,xs,()) 0=rb true:=by
  refine er (step:=λrec a=>Q231.s0 K (xs,xs,()) rec a) xs.length (λi=>(i:Int)) (rb true) ?_ ?_ (by omega)
  ·intro rec i r;simp only[Q231.s0];rw[bi (by omega:(i:Int)<(BI xs:Int)),af r,ar i (by omega)];simp only[cond_true,BG];exact (congrArg (λo=>BJ o _) (uB K _ (z _ (BQ r)) u)).trans rfl
  ·intro rec;simp only[Q231.s0,aR];rfl
 simp only[Q231.f,Q231.pre,bne_self_eq_false,cond_false];exact y
theorem wg (K:Nat)(n:aa)(r:Int)(z:NB n)(h:UpN n)(M:n.2.2.1=false)(y:bR n<999999)(u:1048577<K):Q225.f K (n,r,())=some ((gb n,hY n r,()),()):=by
 obtain⟨b,J,_,I⟩:=lf K n z u;have H:=I.2 h.ok;subst H;simp only[Q225.f];rw[J];simp only[rb,BG,BN,cond_false];rw[jG K n z u];simp only[BG];rw[xN K n r h M y u];simp only[BG];rw[jG K _ (lK h y).1.nb u];rfl
theorem uC (K:Nat)(n:aa)(r:Int)(H:NB n)(I:1048577<K):∃ y:aa,∃ u:List ap,NB y/\u.length<=1048576/\(∀ w∈u,(ap.table w).length<=1048576)/\Q225.f K (n,r,())=some ((y,u,()),())/\Q216.f K (n,r,())=some ((y,u,()),()) /\
  (iP n->((n.2.1=true/\n.2.2.1=false/\bR n<999999)/\y=gb n/\u=hY n r)\/(¬ (n.2.1=true/\n.2.2.1=false/\bR n<999999)/\y=n/\u=[])):=by
 obtain⟨y,u,X,h2,Z,M,h5⟩:=rY K n r H I;refine⟨y,u,X,h2,Z,M,h5,λO=>?_⟩;by_cases z:n.2.1=true/\n.2.2.1=false/\bR n<999999
 ·have:=wg K n r H (UpN.of O z.1) z.2.1 z.2.2 I;rw[M]at this;simp only[CW,Cc,and_true]at this;exact .inl ⟨z,this⟩
 ·right;refine⟨z,?_⟩;obtain⟨b,o1,_,R⟩:=lf K n H I;have Y:=R.2 O;subst Y;have J:Q101.f K (n,r,())=some ((n,[],()),()):=by
   simp only[Q101.f,zcp4];cases hu:n.2.1 with
   |false=>rfl
   |true =>
    cases hg:n.2.2.1 with
    |true=>rfl
    |false =>
     have:n.2.2.2.2.2.1>=999999:=by by_cases h:n.2.2.2.2.2.1>=999999;exact h;exact absurd ⟨hu,hg,by have e:bR n=n.2.2.2.2.2.1:=rfl;omega⟩ z
     rw[decide_eq_true this];rfl
  have:Q225.f K (n,r,())=some ((n,[],()),()):=by
   simp only[Q225.f];rw[o1];simp only[rb,BG,BN,cond_false];rw[jG K n H I];simp only[BG];rw[J];simp only[BG];rw[jG K n H I];rfl
  rw[M]at this;simp only[CW,Cc,and_true]at this;exact this
theorem x3 {t:List ag}{i:Int}(h:i∈ct t):∃ f∈t,f.1=i/\f.2.2.1=1/\f.2.2.2=true:=by
 unfold ct at h;obtain⟨f,u,e⟩:=BV.1 (BW h);obtain⟨y,r⟩:=B5.1 u;simp only[gu,CN,beq_iff_eq]at r;exact⟨f,y,e,r.2,r.1⟩
end Go.Proofs.YtaegajachoklkabGreatEv
